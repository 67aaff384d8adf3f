/-
  NARROWER THAN 'FOR EVERY INPUT', by the rows' own cells (each row's printed sentence says how): PeerAgrees: laid · PeerKnown: laid · PeerSides: laid · PeerClass: laid · PeerTells: laid.
  DERIVED. THE GIVEN ROWS OF THIS SEAT. 5 by the template 'for every input the law returns true; each argument reads behind the call as it read before'; 0 by the template 'total and deterministic' (their statements: YtpfbpcaehmhefaaDoorTotals.lean).
  GIVEN WITH THE SEED: the statements are not yours to turn. If you find one false, say at which input.
  Laid BY PROGRAM, IN A SANDBOX (cutbox-rows.mjs): the forced cells as the released guide's own fill.sh prints them over the translation 4639de8e83d25c6e… (all of the seat's roots in one cut). By AI agents, Wed Nov 11 2026. No macro, syntax, notation, axiom, sorry.
-/
import Derived.Test.YtpfbpcaehmhefaaDoorChecked
import GoSem.Claim
import GoSem.ClaimJoined
import GoSem.ClaimMapViews
import Derived.JoinedTies
import Derived.KernelRfl
namespace Go.Proofs.YtpfbpcaehmhefaaDoor
/- THE CELL 'sum', in the pinned program and in every row, IS THE sha256 OF THE DUMP (.gsa) THAT YtpfbpcaehmhefaaDoorProg.lean LOADS. Nothing in Lean hashes anything: it is a label: what it is worth is what the hold of that sum in a sandbox is worth. -/
noncomputable def Tryd.pinned : Pinned := { name := "ytpfbpcaehmhefaadoor", sum := "4639de8e83d25c6e5eaace702e89f5017065cf1b75231d9ee1e24287dd16072b", checked := Tryd.checked }
namespace Rows
def none {H : Type} : Left H := { results := [], args := [] }

/- WHAT THE LISTED PACKAGE-LEVEL VARIABLES READ AS WHEN THE CALL BEGINS. Each datum BY PROGRAM (the guide's laid-datum.mjs) off the statement by which the dump's own 'gosem.cut.vars' lays the variable. In a bare row this is a premise. The card (YtpfbpcaehmhefaaDoorCards.lean) ties it to the program's text. -/
def laid_consulate_number_spans {H : Type} : DataW H := .agg [.agg [.lit (.int .u32 0), .lit (.int .u32 0), .lit (.int .i64 1)], .agg [.lit (.int .u32 23456), .lit (.int .u32 23456), .lit (.int .i64 2)], .agg [.lit (.int .u32 64512), .lit (.int .u32 65534), .lit (.int .i64 3)], .agg [.lit (.int .u32 4200000000), .lit (.int .u32 4294967294), .lit (.int .i64 3)], .agg [.lit (.int .u32 64496), .lit (.int .u32 64511), .lit (.int .i64 4)], .agg [.lit (.int .u32 65535), .lit (.int .u32 65551), .lit (.int .i64 4)], .agg [.lit (.int .u32 4294967295), .lit (.int .u32 4294967295), .lit (.int .i64 4)]]
def laid_consulate_caps_unicast {H : Type} : DataW H := .agg [.lit (.int .u8 0), .lit (.int .u8 1), .lit (.int .u8 0), .lit (.int .u8 1)]
def laid_consulate_peer_texts {H : Type} : DataW H := .agg [.lit (.string [110, 111, 110, 101]), .lit (.string [105, 110, 115, 105, 100, 101]), .lit (.string [99, 111, 110, 102, 101, 100]), .lit (.string [111, 117, 116, 115, 105, 100, 101])]

/-- 'consulatelaw15.PeerAgrees': WHATEVER THE INPUT: true; the input reads as it did. -/
def peerAgreesSpec : ChangeSpec := { name := "peerAgrees", fn := fun _ => fun
  | [d1, d2] => { results := [.lit (.bool true)], args := [d1, d2] }
  | _ => none }
def peerAgreesRow : OpenClaim := { program := "ytpfbpcaehmhefaadoor", sum := "4639de8e83d25c6e5eaace702e89f5017065cf1b75231d9ee1e24287dd16072b", func := "consulate/consulatelaw15.PeerAgrees", spec := "peerAgrees", unfollowed := true, recurses := true, named := ["consulate/number.spans"], apart := false, laid := [("consulate/number.spans", laid_consulate_number_spans)] }
def PeerAgreesSaid : Prop := peerAgreesRow.holds Tryd.pinned (OpenSpec.ofChange peerAgreesSpec)

/-- ITS FALSE NEIGHBOUR: 'it returns false'. Refute it at one input. -/
def peerAgreesWrong : ChangeSpec := { name := "peerAgrees", fn := fun _ => fun
  | [d1, d2] => { results := [.lit (.bool false)], args := [d1, d2] }
  | _ => none }
def PeerAgreesWrongFalsely : Prop := peerAgreesRow.holds Tryd.pinned (OpenSpec.ofChange peerAgreesWrong)

/-- 'consulatelaw15.PeerKnown': WHATEVER THE INPUT: true; the input reads as it did. -/
def peerKnownSpec : ChangeSpec := { name := "peerKnown", fn := fun _ => fun
  | [] => { results := [.lit (.bool true)], args := [] }
  | _ => none }
def peerKnownRow : OpenClaim := { program := "ytpfbpcaehmhefaadoor", sum := "4639de8e83d25c6e5eaace702e89f5017065cf1b75231d9ee1e24287dd16072b", func := "consulate/consulatelaw15.PeerKnown", spec := "peerKnown", unfollowed := true, recurses := true, named := ["consulate/number.spans", "consulate/caps.unicast", "consulate/peer.texts"], apart := false, laid := [("consulate/caps.unicast", laid_consulate_caps_unicast), ("consulate/number.spans", laid_consulate_number_spans), ("consulate/peer.texts", laid_consulate_peer_texts)] }
def PeerKnownSaid : Prop := peerKnownRow.holds Tryd.pinned (OpenSpec.ofChange peerKnownSpec)

/-- ITS FALSE NEIGHBOUR: 'it returns false'. Refute it at one input. -/
def peerKnownWrong : ChangeSpec := { name := "peerKnown", fn := fun _ => fun
  | [] => { results := [.lit (.bool false)], args := [] }
  | _ => none }
def PeerKnownWrongFalsely : Prop := peerKnownRow.holds Tryd.pinned (OpenSpec.ofChange peerKnownWrong)

/-- 'consulatelaw15.PeerSides': WHATEVER THE INPUT: true; the input reads as it did. -/
def peerSidesSpec : ChangeSpec := { name := "peerSides", fn := fun _ => fun
  | [d1, d2, d3] => { results := [.lit (.bool true)], args := [d1, d2, d3] }
  | _ => none }
def peerSidesRow : OpenClaim := { program := "ytpfbpcaehmhefaadoor", sum := "4639de8e83d25c6e5eaace702e89f5017065cf1b75231d9ee1e24287dd16072b", func := "consulate/consulatelaw15.PeerSides", spec := "peerSides", unfollowed := true, recurses := true, named := ["consulate/number.spans", "consulate/caps.unicast"], apart := false, laid := [("consulate/caps.unicast", laid_consulate_caps_unicast), ("consulate/number.spans", laid_consulate_number_spans)] }
def PeerSidesSaid : Prop := peerSidesRow.holds Tryd.pinned (OpenSpec.ofChange peerSidesSpec)

/-- ITS FALSE NEIGHBOUR: 'it returns false'. Refute it at one input. -/
def peerSidesWrong : ChangeSpec := { name := "peerSides", fn := fun _ => fun
  | [d1, d2, d3] => { results := [.lit (.bool false)], args := [d1, d2, d3] }
  | _ => none }
def PeerSidesWrongFalsely : Prop := peerSidesRow.holds Tryd.pinned (OpenSpec.ofChange peerSidesWrong)

/-- 'consulatelaw15.PeerClass': WHATEVER THE INPUT: true; the input reads as it did. -/
def peerClassSpec : ChangeSpec := { name := "peerClass", fn := fun _ => fun
  | [d1, d2] => { results := [.lit (.bool true)], args := [d1, d2] }
  | _ => none }
def peerClassRow : OpenClaim := { program := "ytpfbpcaehmhefaadoor", sum := "4639de8e83d25c6e5eaace702e89f5017065cf1b75231d9ee1e24287dd16072b", func := "consulate/consulatelaw15.PeerClass", spec := "peerClass", unfollowed := true, recurses := true, named := ["consulate/number.spans"], apart := false, laid := [("consulate/number.spans", laid_consulate_number_spans)] }
def PeerClassSaid : Prop := peerClassRow.holds Tryd.pinned (OpenSpec.ofChange peerClassSpec)

/-- ITS FALSE NEIGHBOUR: 'it returns false'. Refute it at one input. -/
def peerClassWrong : ChangeSpec := { name := "peerClass", fn := fun _ => fun
  | [d1, d2] => { results := [.lit (.bool false)], args := [d1, d2] }
  | _ => none }
def PeerClassWrongFalsely : Prop := peerClassRow.holds Tryd.pinned (OpenSpec.ofChange peerClassWrong)

/-- 'consulatelaw15.PeerTells': WHATEVER THE INPUT: true; the input reads as it did. -/
def peerTellsSpec : ChangeSpec := { name := "peerTells", fn := fun _ => fun
  | [d1, d2, d3] => { results := [.lit (.bool true)], args := [d1, d2, d3] }
  | _ => none }
def peerTellsRow : OpenClaim := { program := "ytpfbpcaehmhefaadoor", sum := "4639de8e83d25c6e5eaace702e89f5017065cf1b75231d9ee1e24287dd16072b", func := "consulate/consulatelaw15.PeerTells", spec := "peerTells", unfollowed := true, recurses := true, named := ["consulate/caps.unicast", "consulate/number.spans", "consulate/peer.texts"], apart := false, laid := [("consulate/caps.unicast", laid_consulate_caps_unicast), ("consulate/number.spans", laid_consulate_number_spans), ("consulate/peer.texts", laid_consulate_peer_texts)] }
def PeerTellsSaid : Prop := peerTellsRow.holds Tryd.pinned (OpenSpec.ofChange peerTellsSpec)

/-- ITS FALSE NEIGHBOUR: 'it returns false'. Refute it at one input. -/
def peerTellsWrong : ChangeSpec := { name := "peerTells", fn := fun _ => fun
  | [d1, d2, d3] => { results := [.lit (.bool false)], args := [d1, d2, d3] }
  | _ => none }
def PeerTellsWrongFalsely : Prop := peerTellsRow.holds Tryd.pinned (OpenSpec.ofChange peerTellsWrong)

/- THE SECOND FORM. 'bulk': how many values and letters a reading holds, each counted each time it is reached (what is shared counts as often as it is met; a slice's spare places count too). A statement '..UptoSaid' is the law's where the arguments, and the package variables that the reading takes, are together of bulk at most 1048576: NARROWER than '..Said'. Prove '..Said' where nothing that the law and all that it calls make is longer than what came in: it says more and counts as full. Else prove '..UptoSaid'. A law counts once. -/
mutual
def uptoBulk {H : Type} : DataW H → Nat
  | .lit (.string bytes) => bytes.length + 1
  | .lit _ => 1
  | .nil => 1
  | .ptr d => uptoBulk d + 1
  | .slice elems spare => uptoBulkAll elems + uptoBulkAll spare + 1
  | .agg parts => uptoBulkAll parts + 1
  | .iface _ d => uptoBulk d + 1
  | .map entries => uptoBulkEntries entries + 1
  | .held _ => 1
def uptoBulkAll {H : Type} : List (DataW H) → Nat
  | [] => 0
  | d :: r => uptoBulk d + uptoBulkAll r
def uptoBulkEntries {H : Type} : List (Lit × DataW H) → Nat
  | [] => 0
  | x :: r => uptoBulkEntry x + uptoBulkEntries r
def uptoBulkEntry {H : Type} : Lit × DataW H → Nat
  | (.string bytes, d) => bytes.length + uptoBulk d + 1
  | (_, d) => uptoBulk d + 1
 end
def uptoSmall : (H : Type) → List (DataW H) → Bool := fun _ ds => decide (uptoBulkAll ds ≤ 1048576)
def OpenSpec.upto (s : _root_.Go.ChangeSpec) : _root_.Go.OpenSpec := { _root_.Go.OpenSpec.ofChange s with cond := some uptoSmall }

/-- 'consulatelaw15.PeerAgrees', WHERE WHAT IT READS IS OF BULK AT MOST 1048576: true; the input reads as it did. -/
def peerAgreesUptoRow : OpenClaim := { program := "ytpfbpcaehmhefaadoor", sum := "4639de8e83d25c6e5eaace702e89f5017065cf1b75231d9ee1e24287dd16072b", func := "consulate/consulatelaw15.PeerAgrees", spec := "peerAgrees", unfollowed := true, recurses := true, named := ["consulate/number.spans"], apart := false, laid := [("consulate/number.spans", laid_consulate_number_spans)], narrowed := true }
def PeerAgreesUptoSaid : Prop := peerAgreesUptoRow.holds Tryd.pinned (OpenSpec.upto peerAgreesSpec)

/-- 'consulatelaw15.PeerKnown', WHERE WHAT IT READS IS OF BULK AT MOST 1048576: true; the input reads as it did. -/
def peerKnownUptoRow : OpenClaim := { program := "ytpfbpcaehmhefaadoor", sum := "4639de8e83d25c6e5eaace702e89f5017065cf1b75231d9ee1e24287dd16072b", func := "consulate/consulatelaw15.PeerKnown", spec := "peerKnown", unfollowed := true, recurses := true, named := ["consulate/number.spans", "consulate/caps.unicast", "consulate/peer.texts"], apart := false, laid := [("consulate/caps.unicast", laid_consulate_caps_unicast), ("consulate/number.spans", laid_consulate_number_spans), ("consulate/peer.texts", laid_consulate_peer_texts)], narrowed := true }
def PeerKnownUptoSaid : Prop := peerKnownUptoRow.holds Tryd.pinned (OpenSpec.upto peerKnownSpec)

/-- 'consulatelaw15.PeerSides', WHERE WHAT IT READS IS OF BULK AT MOST 1048576: true; the input reads as it did. -/
def peerSidesUptoRow : OpenClaim := { program := "ytpfbpcaehmhefaadoor", sum := "4639de8e83d25c6e5eaace702e89f5017065cf1b75231d9ee1e24287dd16072b", func := "consulate/consulatelaw15.PeerSides", spec := "peerSides", unfollowed := true, recurses := true, named := ["consulate/number.spans", "consulate/caps.unicast"], apart := false, laid := [("consulate/caps.unicast", laid_consulate_caps_unicast), ("consulate/number.spans", laid_consulate_number_spans)], narrowed := true }
def PeerSidesUptoSaid : Prop := peerSidesUptoRow.holds Tryd.pinned (OpenSpec.upto peerSidesSpec)

/-- 'consulatelaw15.PeerClass', WHERE WHAT IT READS IS OF BULK AT MOST 1048576: true; the input reads as it did. -/
def peerClassUptoRow : OpenClaim := { program := "ytpfbpcaehmhefaadoor", sum := "4639de8e83d25c6e5eaace702e89f5017065cf1b75231d9ee1e24287dd16072b", func := "consulate/consulatelaw15.PeerClass", spec := "peerClass", unfollowed := true, recurses := true, named := ["consulate/number.spans"], apart := false, laid := [("consulate/number.spans", laid_consulate_number_spans)], narrowed := true }
def PeerClassUptoSaid : Prop := peerClassUptoRow.holds Tryd.pinned (OpenSpec.upto peerClassSpec)

/-- 'consulatelaw15.PeerTells', WHERE WHAT IT READS IS OF BULK AT MOST 1048576: true; the input reads as it did. -/
def peerTellsUptoRow : OpenClaim := { program := "ytpfbpcaehmhefaadoor", sum := "4639de8e83d25c6e5eaace702e89f5017065cf1b75231d9ee1e24287dd16072b", func := "consulate/consulatelaw15.PeerTells", spec := "peerTells", unfollowed := true, recurses := true, named := ["consulate/caps.unicast", "consulate/number.spans", "consulate/peer.texts"], apart := false, laid := [("consulate/caps.unicast", laid_consulate_caps_unicast), ("consulate/number.spans", laid_consulate_number_spans), ("consulate/peer.texts", laid_consulate_peer_texts)], narrowed := true }
def PeerTellsUptoSaid : Prop := peerTellsUptoRow.holds Tryd.pinned (OpenSpec.upto peerTellsSpec)

end Rows
end Go.Proofs.YtpfbpcaehmhefaaDoor
