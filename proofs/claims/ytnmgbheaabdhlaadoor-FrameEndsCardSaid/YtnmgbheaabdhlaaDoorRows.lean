/-
  NARROWER THAN 'FOR EVERY INPUT', by the rows' own cells (each row's printed sentence says how): FrameChunks: laid · FrameEnds: laid · FrameFeeds: laid · FrameLays: laid · FrameKnown: laid · FrameBack: laid.
  DERIVED. THE GIVEN ROWS OF THIS SEAT. 6 by the template 'for every input the law returns true; each argument reads behind the call as it read before'; 0 by the template 'total and deterministic' (their statements: YtnmgbheaabdhlaaDoorTotals.lean).
  GIVEN WITH THE SEED: the statements are not yours to turn. If you find one false, say at which input.
  Laid BY PROGRAM, IN A SANDBOX (cutbox-rows.mjs): the forced cells as the released guide's own fill.sh prints them over the translation 7128dc8cf92c3ece… (all of the seat's roots in one cut). By AI agents, Wed Nov 11 2026. No macro, syntax, notation, axiom, sorry.
-/
import Derived.Test.YtnmgbheaabdhlaaDoorChecked
import GoSem.Claim
import GoSem.ClaimJoined
import GoSem.ClaimMapViews
import Derived.JoinedTies
import Derived.KernelRfl
namespace Go.Proofs.YtnmgbheaabdhlaaDoor
/- THE CELL 'sum', in the pinned program and in every row, IS THE sha256 OF THE DUMP (.gsa) THAT YtnmgbheaabdhlaaDoorProg.lean LOADS. Nothing in Lean hashes anything: it is a label: what it is worth is what the hold of that sum in a sandbox is worth. -/
noncomputable def Tryd.pinned : Pinned := { name := "ytnmgbheaabdhlaadoor", sum := "7128dc8cf92c3ece99f2121ef0bbbf9fc5cba698497bccaaaf01d4b66a14c6a5", checked := Tryd.checked }
namespace Rows
def none {H : Type} : Left H := { results := [], args := [] }

/- WHAT THE LISTED PACKAGE-LEVEL VARIABLES READ AS WHEN THE CALL BEGINS. Each datum BY PROGRAM (the guide's laid-datum.mjs) off the statement by which the dump's own 'gosem.cut.vars' lays the variable. In a bare row this is a premise. The card (YtnmgbheaabdhlaaDoorCards.lean) ties it to the program's text. -/
def laid_consulate_frame_lengths {H : Type} : DataW H := .agg [.agg [.lit (.int .i64 0), .lit (.int .i64 0)], .agg [.lit (.int .i64 29), .lit (.int .i64 4096)], .agg [.lit (.int .i64 23), .lit (.int .i64 4096)], .agg [.lit (.int .i64 21), .lit (.int .i64 4096)], .agg [.lit (.int .i64 19), .lit (.int .i64 19)], .agg [.lit (.int .i64 23), .lit (.int .i64 23)]]

/-- 'consulatelaw03.FrameChunks': WHATEVER THE INPUT: true; the input reads as it did. -/
def frameChunksSpec : ChangeSpec := { name := "frameChunks", fn := fun _ => fun
  | [d1, d2] => { results := [.lit (.bool true)], args := [d1, d2] }
  | _ => none }
def frameChunksRow : OpenClaim := { program := "ytnmgbheaabdhlaadoor", sum := "7128dc8cf92c3ece99f2121ef0bbbf9fc5cba698497bccaaaf01d4b66a14c6a5", func := "consulate/consulatelaw03.FrameChunks", spec := "frameChunks", inPlace := ["internal/bytealg.MakeNoZero"], unfollowed := true, recurses := true, named := ["consulate/frame.lengths"], apart := false, laid := [("consulate/frame.lengths", laid_consulate_frame_lengths)] }
def FrameChunksSaid : Prop := frameChunksRow.holds Tryd.pinned (OpenSpec.ofChange frameChunksSpec)

/-- ITS FALSE NEIGHBOUR: 'it returns false'. Refute it at one input. -/
def frameChunksWrong : ChangeSpec := { name := "frameChunks", fn := fun _ => fun
  | [d1, d2] => { results := [.lit (.bool false)], args := [d1, d2] }
  | _ => none }
def FrameChunksWrongFalsely : Prop := frameChunksRow.holds Tryd.pinned (OpenSpec.ofChange frameChunksWrong)

/-- 'consulatelaw03.FrameEnds': WHATEVER THE INPUT: true; the input reads as it did. -/
def frameEndsSpec : ChangeSpec := { name := "frameEnds", fn := fun _ => fun
  | [d1, d2] => { results := [.lit (.bool true)], args := [d1, d2] }
  | _ => none }
def frameEndsRow : OpenClaim := { program := "ytnmgbheaabdhlaadoor", sum := "7128dc8cf92c3ece99f2121ef0bbbf9fc5cba698497bccaaaf01d4b66a14c6a5", func := "consulate/consulatelaw03.FrameEnds", spec := "frameEnds", inPlace := ["internal/bytealg.MakeNoZero"], unfollowed := true, recurses := true, named := ["consulate/frame.lengths"], apart := false, laid := [("consulate/frame.lengths", laid_consulate_frame_lengths)] }
def FrameEndsSaid : Prop := frameEndsRow.holds Tryd.pinned (OpenSpec.ofChange frameEndsSpec)

/-- ITS FALSE NEIGHBOUR: 'it returns false'. Refute it at one input. -/
def frameEndsWrong : ChangeSpec := { name := "frameEnds", fn := fun _ => fun
  | [d1, d2] => { results := [.lit (.bool false)], args := [d1, d2] }
  | _ => none }
def FrameEndsWrongFalsely : Prop := frameEndsRow.holds Tryd.pinned (OpenSpec.ofChange frameEndsWrong)

/-- 'consulatelaw03.FrameFeeds': WHATEVER THE INPUT: true; the input reads as it did. -/
def frameFeedsSpec : ChangeSpec := { name := "frameFeeds", fn := fun _ => fun
  | [d] => { results := [.lit (.bool true)], args := [d] }
  | _ => none }
def frameFeedsRow : OpenClaim := { program := "ytnmgbheaabdhlaadoor", sum := "7128dc8cf92c3ece99f2121ef0bbbf9fc5cba698497bccaaaf01d4b66a14c6a5", func := "consulate/consulatelaw03.FrameFeeds", spec := "frameFeeds", inPlace := ["internal/bytealg.MakeNoZero"], unfollowed := true, recurses := true, named := ["consulate/frame.lengths"], apart := false, laid := [("consulate/frame.lengths", laid_consulate_frame_lengths)] }
def FrameFeedsSaid : Prop := frameFeedsRow.holds Tryd.pinned (OpenSpec.ofChange frameFeedsSpec)

/-- ITS FALSE NEIGHBOUR: 'it returns false'. Refute it at one input. -/
def frameFeedsWrong : ChangeSpec := { name := "frameFeeds", fn := fun _ => fun
  | [d] => { results := [.lit (.bool false)], args := [d] }
  | _ => none }
def FrameFeedsWrongFalsely : Prop := frameFeedsRow.holds Tryd.pinned (OpenSpec.ofChange frameFeedsWrong)

/-- 'consulatelaw03.FrameLays': WHATEVER THE INPUT: true; the input reads as it did. -/
def frameLaysSpec : ChangeSpec := { name := "frameLays", fn := fun _ => fun
  | [d] => { results := [.lit (.bool true)], args := [d] }
  | _ => none }
def frameLaysRow : OpenClaim := { program := "ytnmgbheaabdhlaadoor", sum := "7128dc8cf92c3ece99f2121ef0bbbf9fc5cba698497bccaaaf01d4b66a14c6a5", func := "consulate/consulatelaw03.FrameLays", spec := "frameLays", inPlace := ["internal/bytealg.MakeNoZero"], unfollowed := true, recurses := true, named := ["consulate/frame.lengths"], apart := false, laid := [("consulate/frame.lengths", laid_consulate_frame_lengths)] }
def FrameLaysSaid : Prop := frameLaysRow.holds Tryd.pinned (OpenSpec.ofChange frameLaysSpec)

/-- ITS FALSE NEIGHBOUR: 'it returns false'. Refute it at one input. -/
def frameLaysWrong : ChangeSpec := { name := "frameLays", fn := fun _ => fun
  | [d] => { results := [.lit (.bool false)], args := [d] }
  | _ => none }
def FrameLaysWrongFalsely : Prop := frameLaysRow.holds Tryd.pinned (OpenSpec.ofChange frameLaysWrong)

/-- 'consulatelaw03.FrameKnown': WHATEVER THE INPUT: true; the input reads as it did. -/
def frameKnownSpec : ChangeSpec := { name := "frameKnown", fn := fun _ => fun
  | [] => { results := [.lit (.bool true)], args := [] }
  | _ => none }
def frameKnownRow : OpenClaim := { program := "ytnmgbheaabdhlaadoor", sum := "7128dc8cf92c3ece99f2121ef0bbbf9fc5cba698497bccaaaf01d4b66a14c6a5", func := "consulate/consulatelaw03.FrameKnown", spec := "frameKnown", inPlace := ["internal/bytealg.MakeNoZero"], unfollowed := true, recurses := true, named := ["consulate/frame.lengths"], apart := false, laid := [("consulate/frame.lengths", laid_consulate_frame_lengths)] }
def FrameKnownSaid : Prop := frameKnownRow.holds Tryd.pinned (OpenSpec.ofChange frameKnownSpec)

/-- ITS FALSE NEIGHBOUR: 'it returns false'. Refute it at one input. -/
def frameKnownWrong : ChangeSpec := { name := "frameKnown", fn := fun _ => fun
  | [] => { results := [.lit (.bool false)], args := [] }
  | _ => none }
def FrameKnownWrongFalsely : Prop := frameKnownRow.holds Tryd.pinned (OpenSpec.ofChange frameKnownWrong)

/-- 'consulatelaw03.FrameBack': WHATEVER THE INPUT: true; the input reads as it did. -/
def frameBackSpec : ChangeSpec := { name := "frameBack", fn := fun _ => fun
  | [d1, d2] => { results := [.lit (.bool true)], args := [d1, d2] }
  | _ => none }
def frameBackRow : OpenClaim := { program := "ytnmgbheaabdhlaadoor", sum := "7128dc8cf92c3ece99f2121ef0bbbf9fc5cba698497bccaaaf01d4b66a14c6a5", func := "consulate/consulatelaw03.FrameBack", spec := "frameBack", inPlace := ["internal/bytealg.MakeNoZero"], unfollowed := true, recurses := true, named := ["consulate/frame.lengths"], apart := false, laid := [("consulate/frame.lengths", laid_consulate_frame_lengths)] }
def FrameBackSaid : Prop := frameBackRow.holds Tryd.pinned (OpenSpec.ofChange frameBackSpec)

/-- ITS FALSE NEIGHBOUR: 'it returns false'. Refute it at one input. -/
def frameBackWrong : ChangeSpec := { name := "frameBack", fn := fun _ => fun
  | [d1, d2] => { results := [.lit (.bool false)], args := [d1, d2] }
  | _ => none }
def FrameBackWrongFalsely : Prop := frameBackRow.holds Tryd.pinned (OpenSpec.ofChange frameBackWrong)

/- THE SECOND FORM. 'bulk': how many values and letters a reading holds, each counted each time it is reached (what is shared counts as often as it is met; a slice's spare places count too). A statement '..UptoSaid' is the law's where the arguments, and the package variables that the reading takes, are together of bulk at most 1048576: NARROWER than '..Said'. Prove '..Said' where nothing that the law and all that it calls make is longer than what came in: it says more and counts as full. Else prove '..UptoSaid'. A law counts once. -/
mutual
def uptoBulk {H : Type} : DataW H → Nat
  | .lit (.string bytes) => bytes.length + 1
  | .lit _ => 1
  | .nil => 1
  | .ptr d => uptoBulk d + 1
  | .slice elems spare => uptoBulkAll elems + uptoBulkAll spare + 1
  | .agg parts => uptoBulkAll parts + 1
  | .iface _ d => uptoBulk d + 1
  | .map entries => uptoBulkEntries entries + 1
  | .held _ => 1
def uptoBulkAll {H : Type} : List (DataW H) → Nat
  | [] => 0
  | d :: r => uptoBulk d + uptoBulkAll r
def uptoBulkEntries {H : Type} : List (Lit × DataW H) → Nat
  | [] => 0
  | x :: r => uptoBulkEntry x + uptoBulkEntries r
def uptoBulkEntry {H : Type} : Lit × DataW H → Nat
  | (.string bytes, d) => bytes.length + uptoBulk d + 1
  | (_, d) => uptoBulk d + 1
 end
def uptoSmall : (H : Type) → List (DataW H) → Bool := fun _ ds => decide (uptoBulkAll ds ≤ 1048576)
def OpenSpec.upto (s : _root_.Go.ChangeSpec) : _root_.Go.OpenSpec := { _root_.Go.OpenSpec.ofChange s with cond := some uptoSmall }

/-- 'consulatelaw03.FrameChunks', WHERE WHAT IT READS IS OF BULK AT MOST 1048576: true; the input reads as it did. -/
def frameChunksUptoRow : OpenClaim := { program := "ytnmgbheaabdhlaadoor", sum := "7128dc8cf92c3ece99f2121ef0bbbf9fc5cba698497bccaaaf01d4b66a14c6a5", func := "consulate/consulatelaw03.FrameChunks", spec := "frameChunks", inPlace := ["internal/bytealg.MakeNoZero"], unfollowed := true, recurses := true, named := ["consulate/frame.lengths"], apart := false, laid := [("consulate/frame.lengths", laid_consulate_frame_lengths)], narrowed := true }
def FrameChunksUptoSaid : Prop := frameChunksUptoRow.holds Tryd.pinned (OpenSpec.upto frameChunksSpec)

/-- 'consulatelaw03.FrameEnds', WHERE WHAT IT READS IS OF BULK AT MOST 1048576: true; the input reads as it did. -/
def frameEndsUptoRow : OpenClaim := { program := "ytnmgbheaabdhlaadoor", sum := "7128dc8cf92c3ece99f2121ef0bbbf9fc5cba698497bccaaaf01d4b66a14c6a5", func := "consulate/consulatelaw03.FrameEnds", spec := "frameEnds", inPlace := ["internal/bytealg.MakeNoZero"], unfollowed := true, recurses := true, named := ["consulate/frame.lengths"], apart := false, laid := [("consulate/frame.lengths", laid_consulate_frame_lengths)], narrowed := true }
def FrameEndsUptoSaid : Prop := frameEndsUptoRow.holds Tryd.pinned (OpenSpec.upto frameEndsSpec)

/-- 'consulatelaw03.FrameFeeds', WHERE WHAT IT READS IS OF BULK AT MOST 1048576: true; the input reads as it did. -/
def frameFeedsUptoRow : OpenClaim := { program := "ytnmgbheaabdhlaadoor", sum := "7128dc8cf92c3ece99f2121ef0bbbf9fc5cba698497bccaaaf01d4b66a14c6a5", func := "consulate/consulatelaw03.FrameFeeds", spec := "frameFeeds", inPlace := ["internal/bytealg.MakeNoZero"], unfollowed := true, recurses := true, named := ["consulate/frame.lengths"], apart := false, laid := [("consulate/frame.lengths", laid_consulate_frame_lengths)], narrowed := true }
def FrameFeedsUptoSaid : Prop := frameFeedsUptoRow.holds Tryd.pinned (OpenSpec.upto frameFeedsSpec)

/-- 'consulatelaw03.FrameLays', WHERE WHAT IT READS IS OF BULK AT MOST 1048576: true; the input reads as it did. -/
def frameLaysUptoRow : OpenClaim := { program := "ytnmgbheaabdhlaadoor", sum := "7128dc8cf92c3ece99f2121ef0bbbf9fc5cba698497bccaaaf01d4b66a14c6a5", func := "consulate/consulatelaw03.FrameLays", spec := "frameLays", inPlace := ["internal/bytealg.MakeNoZero"], unfollowed := true, recurses := true, named := ["consulate/frame.lengths"], apart := false, laid := [("consulate/frame.lengths", laid_consulate_frame_lengths)], narrowed := true }
def FrameLaysUptoSaid : Prop := frameLaysUptoRow.holds Tryd.pinned (OpenSpec.upto frameLaysSpec)

/-- 'consulatelaw03.FrameKnown', WHERE WHAT IT READS IS OF BULK AT MOST 1048576: true; the input reads as it did. -/
def frameKnownUptoRow : OpenClaim := { program := "ytnmgbheaabdhlaadoor", sum := "7128dc8cf92c3ece99f2121ef0bbbf9fc5cba698497bccaaaf01d4b66a14c6a5", func := "consulate/consulatelaw03.FrameKnown", spec := "frameKnown", inPlace := ["internal/bytealg.MakeNoZero"], unfollowed := true, recurses := true, named := ["consulate/frame.lengths"], apart := false, laid := [("consulate/frame.lengths", laid_consulate_frame_lengths)], narrowed := true }
def FrameKnownUptoSaid : Prop := frameKnownUptoRow.holds Tryd.pinned (OpenSpec.upto frameKnownSpec)

/-- 'consulatelaw03.FrameBack', WHERE WHAT IT READS IS OF BULK AT MOST 1048576: true; the input reads as it did. -/
def frameBackUptoRow : OpenClaim := { program := "ytnmgbheaabdhlaadoor", sum := "7128dc8cf92c3ece99f2121ef0bbbf9fc5cba698497bccaaaf01d4b66a14c6a5", func := "consulate/consulatelaw03.FrameBack", spec := "frameBack", inPlace := ["internal/bytealg.MakeNoZero"], unfollowed := true, recurses := true, named := ["consulate/frame.lengths"], apart := false, laid := [("consulate/frame.lengths", laid_consulate_frame_lengths)], narrowed := true }
def FrameBackUptoSaid : Prop := frameBackUptoRow.holds Tryd.pinned (OpenSpec.upto frameBackSpec)

end Rows
end Go.Proofs.YtnmgbheaabdhlaaDoor
