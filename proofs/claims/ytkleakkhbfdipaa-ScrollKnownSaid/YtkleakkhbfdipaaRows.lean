/-
  NARROWER THAN 'FOR EVERY INPUT', by the rows' own cells (each row's printed sentence says how): ScrollBack: loops.
  DERIVED. THE GIVEN ROWS OF THIS SEAT. 5 by the template 'for every input the law returns true; each argument reads behind the call as it read before'; 0 by the template 'total and deterministic' (their statements: YtkleakkhbfdipaaTotals.lean).
  GIVEN WITH THE SEED: the statements are not yours to turn. If you find one false, say at which input.
  Laid BY PROGRAM, IN A SANDBOX (cutbox-rows.mjs): the forced cells as the released guide's own fill.sh prints them over the translation 760cded213f04a3a… (all of the seat's roots in one cut). By AI agents, Wed Nov 11 2026. No macro, syntax, notation, axiom, sorry.
-/
import Derived.Test.YtkleakkhbfdipaaChecked
import GoSem.Claim
import GoSem.ClaimJoined
import GoSem.ClaimMapViews
import Derived.JoinedTies
import Derived.KernelRfl
namespace Go.Proofs.Ytkleakkhbfdipaa
/- THE CELL 'sum', in the pinned program and in every row, IS THE sha256 OF THE DUMP (.gsa) THAT YtkleakkhbfdipaaProg.lean LOADS. Nothing in Lean hashes anything: it is a label: what it is worth is what the hold of that sum in a sandbox is worth. -/
noncomputable def Try.pinned : Pinned := { name := "ytkleakkhbfdipaa", sum := "760cded213f04a3aa1eec06f1fbd83c5d8d4c1c68dff5dcdccd31cca79d9b286", checked := Try.checked }
namespace Rows
def none {H : Type} : Left H := { results := [], args := [] }

/-- 'consulatelaw01.ScrollWithin': WHATEVER THE INPUT: true; the input reads as it did. -/
def scrollWithinSpec : ChangeSpec := { name := "scrollWithin", fn := fun _ => fun
  | [d1, d2] => { results := [.lit (.bool true)], args := [d1, d2] }
  | _ => none }
def scrollWithinRow : OpenClaim := { program := "ytkleakkhbfdipaa", sum := "760cded213f04a3aa1eec06f1fbd83c5d8d4c1c68dff5dcdccd31cca79d9b286", func := "consulate/consulatelaw01.ScrollWithin", spec := "scrollWithin", apart := false }
def ScrollWithinSaid : Prop := scrollWithinRow.holds Try.pinned (OpenSpec.ofChange scrollWithinSpec)

/-- ITS FALSE NEIGHBOUR: 'it returns false'. Refute it at one input. -/
def scrollWithinWrong : ChangeSpec := { name := "scrollWithin", fn := fun _ => fun
  | [d1, d2] => { results := [.lit (.bool false)], args := [d1, d2] }
  | _ => none }
def ScrollWithinWrongFalsely : Prop := scrollWithinRow.holds Try.pinned (OpenSpec.ofChange scrollWithinWrong)

/-- 'consulatelaw01.ScrollLays': WHATEVER THE INPUT: true; the input reads as it did. -/
def scrollLaysSpec : ChangeSpec := { name := "scrollLays", fn := fun _ => fun
  | [d] => { results := [.lit (.bool true)], args := [d] }
  | _ => none }
def scrollLaysRow : OpenClaim := { program := "ytkleakkhbfdipaa", sum := "760cded213f04a3aa1eec06f1fbd83c5d8d4c1c68dff5dcdccd31cca79d9b286", func := "consulate/consulatelaw01.ScrollLays", spec := "scrollLays", apart := false }
def ScrollLaysSaid : Prop := scrollLaysRow.holds Try.pinned (OpenSpec.ofChange scrollLaysSpec)

/-- ITS FALSE NEIGHBOUR: 'it returns false'. Refute it at one input. -/
def scrollLaysWrong : ChangeSpec := { name := "scrollLays", fn := fun _ => fun
  | [d] => { results := [.lit (.bool false)], args := [d] }
  | _ => none }
def ScrollLaysWrongFalsely : Prop := scrollLaysRow.holds Try.pinned (OpenSpec.ofChange scrollLaysWrong)

/-- 'consulatelaw01.ScrollReads': WHATEVER THE INPUT: true; the input reads as it did. -/
def scrollReadsSpec : ChangeSpec := { name := "scrollReads", fn := fun _ => fun
  | [d1, d2] => { results := [.lit (.bool true)], args := [d1, d2] }
  | _ => none }
def scrollReadsRow : OpenClaim := { program := "ytkleakkhbfdipaa", sum := "760cded213f04a3aa1eec06f1fbd83c5d8d4c1c68dff5dcdccd31cca79d9b286", func := "consulate/consulatelaw01.ScrollReads", spec := "scrollReads", apart := false }
def ScrollReadsSaid : Prop := scrollReadsRow.holds Try.pinned (OpenSpec.ofChange scrollReadsSpec)

/-- ITS FALSE NEIGHBOUR: 'it returns false'. Refute it at one input. -/
def scrollReadsWrong : ChangeSpec := { name := "scrollReads", fn := fun _ => fun
  | [d1, d2] => { results := [.lit (.bool false)], args := [d1, d2] }
  | _ => none }
def ScrollReadsWrongFalsely : Prop := scrollReadsRow.holds Try.pinned (OpenSpec.ofChange scrollReadsWrong)

/-- 'consulatelaw01.ScrollBack': WHATEVER THE INPUT: true; the input reads as it did. -/
def scrollBackSpec : ChangeSpec := { name := "scrollBack", fn := fun _ => fun
  | [d1, d2, d3] => { results := [.lit (.bool true)], args := [d1, d2, d3] }
  | _ => none }
def scrollBackRow : OpenClaim := { program := "ytkleakkhbfdipaa", sum := "760cded213f04a3aa1eec06f1fbd83c5d8d4c1c68dff5dcdccd31cca79d9b286", func := "consulate/consulatelaw01.ScrollBack", spec := "scrollBack", recurses := true, loops := true, apart := false }
def ScrollBackSaid : Prop := scrollBackRow.holds Try.pinned (OpenSpec.ofChange scrollBackSpec)

/-- ITS FALSE NEIGHBOUR: 'it returns false'. Refute it at one input. -/
def scrollBackWrong : ChangeSpec := { name := "scrollBack", fn := fun _ => fun
  | [d1, d2, d3] => { results := [.lit (.bool false)], args := [d1, d2, d3] }
  | _ => none }
def ScrollBackWrongFalsely : Prop := scrollBackRow.holds Try.pinned (OpenSpec.ofChange scrollBackWrong)

/-- 'consulatelaw01.ScrollKnown': WHATEVER THE INPUT: true; the input reads as it did. -/
def scrollKnownSpec : ChangeSpec := { name := "scrollKnown", fn := fun _ => fun
  | [] => { results := [.lit (.bool true)], args := [] }
  | _ => none }
def scrollKnownRow : OpenClaim := { program := "ytkleakkhbfdipaa", sum := "760cded213f04a3aa1eec06f1fbd83c5d8d4c1c68dff5dcdccd31cca79d9b286", func := "consulate/consulatelaw01.ScrollKnown", spec := "scrollKnown", unfollowed := true, recurses := true, apart := false }
def ScrollKnownSaid : Prop := scrollKnownRow.holds Try.pinned (OpenSpec.ofChange scrollKnownSpec)

/-- ITS FALSE NEIGHBOUR: 'it returns false'. Refute it at one input. -/
def scrollKnownWrong : ChangeSpec := { name := "scrollKnown", fn := fun _ => fun
  | [] => { results := [.lit (.bool false)], args := [] }
  | _ => none }
def ScrollKnownWrongFalsely : Prop := scrollKnownRow.holds Try.pinned (OpenSpec.ofChange scrollKnownWrong)

/- THE SECOND FORM. 'bulk': how many values and letters a reading holds, each counted each time it is reached (what is shared counts as often as it is met; a slice's spare places count too). A statement '..UptoSaid' is the law's where the arguments, and the package variables that the reading takes, are together of bulk at most 1048576: NARROWER than '..Said'. Prove '..Said' where nothing that the law and all that it calls make is longer than what came in: it says more and counts as full. Else prove '..UptoSaid'. A law counts once. -/
mutual
def uptoBulk {H : Type} : DataW H → Nat
  | .lit (.string bytes) => bytes.length + 1
  | .lit _ => 1
  | .nil => 1
  | .ptr d => uptoBulk d + 1
  | .slice elems spare => uptoBulkAll elems + uptoBulkAll spare + 1
  | .agg parts => uptoBulkAll parts + 1
  | .iface _ d => uptoBulk d + 1
  | .map entries => uptoBulkEntries entries + 1
  | .held _ => 1
def uptoBulkAll {H : Type} : List (DataW H) → Nat
  | [] => 0
  | d :: r => uptoBulk d + uptoBulkAll r
def uptoBulkEntries {H : Type} : List (Lit × DataW H) → Nat
  | [] => 0
  | x :: r => uptoBulkEntry x + uptoBulkEntries r
def uptoBulkEntry {H : Type} : Lit × DataW H → Nat
  | (.string bytes, d) => bytes.length + uptoBulk d + 1
  | (_, d) => uptoBulk d + 1
 end
def uptoSmall : (H : Type) → List (DataW H) → Bool := fun _ ds => decide (uptoBulkAll ds ≤ 1048576)
def OpenSpec.upto (s : _root_.Go.ChangeSpec) : _root_.Go.OpenSpec := { _root_.Go.OpenSpec.ofChange s with cond := some uptoSmall }

/-- 'consulatelaw01.ScrollWithin', WHERE WHAT IT READS IS OF BULK AT MOST 1048576: true; the input reads as it did. -/
def scrollWithinUptoRow : OpenClaim := { program := "ytkleakkhbfdipaa", sum := "760cded213f04a3aa1eec06f1fbd83c5d8d4c1c68dff5dcdccd31cca79d9b286", func := "consulate/consulatelaw01.ScrollWithin", spec := "scrollWithin", apart := false, narrowed := true }
def ScrollWithinUptoSaid : Prop := scrollWithinUptoRow.holds Try.pinned (OpenSpec.upto scrollWithinSpec)

/-- 'consulatelaw01.ScrollLays', WHERE WHAT IT READS IS OF BULK AT MOST 1048576: true; the input reads as it did. -/
def scrollLaysUptoRow : OpenClaim := { program := "ytkleakkhbfdipaa", sum := "760cded213f04a3aa1eec06f1fbd83c5d8d4c1c68dff5dcdccd31cca79d9b286", func := "consulate/consulatelaw01.ScrollLays", spec := "scrollLays", apart := false, narrowed := true }
def ScrollLaysUptoSaid : Prop := scrollLaysUptoRow.holds Try.pinned (OpenSpec.upto scrollLaysSpec)

/-- 'consulatelaw01.ScrollReads', WHERE WHAT IT READS IS OF BULK AT MOST 1048576: true; the input reads as it did. -/
def scrollReadsUptoRow : OpenClaim := { program := "ytkleakkhbfdipaa", sum := "760cded213f04a3aa1eec06f1fbd83c5d8d4c1c68dff5dcdccd31cca79d9b286", func := "consulate/consulatelaw01.ScrollReads", spec := "scrollReads", apart := false, narrowed := true }
def ScrollReadsUptoSaid : Prop := scrollReadsUptoRow.holds Try.pinned (OpenSpec.upto scrollReadsSpec)

/-- 'consulatelaw01.ScrollBack', WHERE WHAT IT READS IS OF BULK AT MOST 1048576: true; the input reads as it did. -/
def scrollBackUptoRow : OpenClaim := { program := "ytkleakkhbfdipaa", sum := "760cded213f04a3aa1eec06f1fbd83c5d8d4c1c68dff5dcdccd31cca79d9b286", func := "consulate/consulatelaw01.ScrollBack", spec := "scrollBack", recurses := true, loops := true, apart := false, narrowed := true }
def ScrollBackUptoSaid : Prop := scrollBackUptoRow.holds Try.pinned (OpenSpec.upto scrollBackSpec)

/-- 'consulatelaw01.ScrollKnown', WHERE WHAT IT READS IS OF BULK AT MOST 1048576: true; the input reads as it did. -/
def scrollKnownUptoRow : OpenClaim := { program := "ytkleakkhbfdipaa", sum := "760cded213f04a3aa1eec06f1fbd83c5d8d4c1c68dff5dcdccd31cca79d9b286", func := "consulate/consulatelaw01.ScrollKnown", spec := "scrollKnown", unfollowed := true, recurses := true, apart := false, narrowed := true }
def ScrollKnownUptoSaid : Prop := scrollKnownUptoRow.holds Try.pinned (OpenSpec.upto scrollKnownSpec)

end Rows
end Go.Proofs.Ytkleakkhbfdipaa
