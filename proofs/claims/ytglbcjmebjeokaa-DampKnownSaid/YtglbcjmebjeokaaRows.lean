/-
  No cell of these rows narrows 'for every input' (looked for: loops, veiled, ifaces, maps, wideKeys, modest, calm, conditions, laid).
  DERIVED. THE GIVEN ROWS OF THIS SEAT. 5 by the template 'for every input the law returns true; each argument reads behind the call as it read before'; 0 by the template 'total and deterministic' (their statements: YtglbcjmebjeokaaTotals.lean).
  GIVEN WITH THE SEED: the statements are not yours to turn. If you find one false, say at which input.
  Laid BY PROGRAM, IN A SANDBOX (cutbox-rows.mjs): the forced cells as the released guide's own fill.sh prints them over the translation 8ced718aace6cf61… (all of the seat's roots in one cut). By AI agents, Wed Nov 11 2026. No macro, syntax, notation, axiom, sorry.
-/
import Derived.Test.YtglbcjmebjeokaaChecked
import GoSem.Claim
import GoSem.ClaimJoined
import GoSem.ClaimMapViews
import Derived.JoinedTies
import Derived.KernelRfl
namespace Go.Proofs.Ytglbcjmebjeokaa
/- THE CELL 'sum', in the pinned program and in every row, IS THE sha256 OF THE DUMP (.gsa) THAT YtglbcjmebjeokaaProg.lean LOADS. Nothing in Lean hashes anything: it is a label: what it is worth is what the hold of that sum in a sandbox is worth. -/
noncomputable def Try.pinned : Pinned := { name := "ytglbcjmebjeokaa", sum := "8ced718aace6cf619d26f50ef2270f366eb6b54507ecfe301564efca32bc9976", checked := Try.checked }
namespace Rows
def none {H : Type} : Left H := { results := [], args := [] }

/-- 'consulatelaw20.DampRuns': WHATEVER THE INPUT: true; the input reads as it did. -/
def dampRunsSpec : ChangeSpec := { name := "dampRuns", fn := fun _ => fun
  | [d1, d2] => { results := [.lit (.bool true)], args := [d1, d2] }
  | _ => none }
def dampRunsRow : OpenClaim := { program := "ytglbcjmebjeokaa", sum := "8ced718aace6cf619d26f50ef2270f366eb6b54507ecfe301564efca32bc9976", func := "consulate/consulatelaw20.DampRuns", spec := "dampRuns", unfollowed := true, recurses := true, apart := false }
def DampRunsSaid : Prop := dampRunsRow.holds Try.pinned (OpenSpec.ofChange dampRunsSpec)

/-- ITS FALSE NEIGHBOUR: 'it returns false'. Refute it at one input. -/
def dampRunsWrong : ChangeSpec := { name := "dampRuns", fn := fun _ => fun
  | [d1, d2] => { results := [.lit (.bool false)], args := [d1, d2] }
  | _ => none }
def DampRunsWrongFalsely : Prop := dampRunsRow.holds Try.pinned (OpenSpec.ofChange dampRunsWrong)

/-- 'consulatelaw20.DampSteps': WHATEVER THE INPUT: true; the input reads as it did. -/
def dampStepsSpec : ChangeSpec := { name := "dampSteps", fn := fun _ => fun
  | [d1, d2, d3, d4] => { results := [.lit (.bool true)], args := [d1, d2, d3, d4] }
  | _ => none }
def dampStepsRow : OpenClaim := { program := "ytglbcjmebjeokaa", sum := "8ced718aace6cf619d26f50ef2270f366eb6b54507ecfe301564efca32bc9976", func := "consulate/consulatelaw20.DampSteps", spec := "dampSteps", unfollowed := true, recurses := true, apart := false }
def DampStepsSaid : Prop := dampStepsRow.holds Try.pinned (OpenSpec.ofChange dampStepsSpec)

/-- ITS FALSE NEIGHBOUR: 'it returns false'. Refute it at one input. -/
def dampStepsWrong : ChangeSpec := { name := "dampSteps", fn := fun _ => fun
  | [d1, d2, d3, d4] => { results := [.lit (.bool false)], args := [d1, d2, d3, d4] }
  | _ => none }
def DampStepsWrongFalsely : Prop := dampStepsRow.holds Try.pinned (OpenSpec.ofChange dampStepsWrong)

/-- 'consulatelaw20.DampParts': WHATEVER THE INPUT: true; the input reads as it did. -/
def dampPartsSpec : ChangeSpec := { name := "dampParts", fn := fun _ => fun
  | [d1, d2, d3] => { results := [.lit (.bool true)], args := [d1, d2, d3] }
  | _ => none }
def dampPartsRow : OpenClaim := { program := "ytglbcjmebjeokaa", sum := "8ced718aace6cf619d26f50ef2270f366eb6b54507ecfe301564efca32bc9976", func := "consulate/consulatelaw20.DampParts", spec := "dampParts", unfollowed := true, recurses := true, apart := false }
def DampPartsSaid : Prop := dampPartsRow.holds Try.pinned (OpenSpec.ofChange dampPartsSpec)

/-- ITS FALSE NEIGHBOUR: 'it returns false'. Refute it at one input. -/
def dampPartsWrong : ChangeSpec := { name := "dampParts", fn := fun _ => fun
  | [d1, d2, d3] => { results := [.lit (.bool false)], args := [d1, d2, d3] }
  | _ => none }
def DampPartsWrongFalsely : Prop := dampPartsRow.holds Try.pinned (OpenSpec.ofChange dampPartsWrong)

/-- 'consulatelaw20.DampWaits': WHATEVER THE INPUT: true; the input reads as it did. -/
def dampWaitsSpec : ChangeSpec := { name := "dampWaits", fn := fun _ => fun
  | [d1, d2, d3] => { results := [.lit (.bool true)], args := [d1, d2, d3] }
  | _ => none }
def dampWaitsRow : OpenClaim := { program := "ytglbcjmebjeokaa", sum := "8ced718aace6cf619d26f50ef2270f366eb6b54507ecfe301564efca32bc9976", func := "consulate/consulatelaw20.DampWaits", spec := "dampWaits", unfollowed := true, recurses := true, apart := false }
def DampWaitsSaid : Prop := dampWaitsRow.holds Try.pinned (OpenSpec.ofChange dampWaitsSpec)

/-- ITS FALSE NEIGHBOUR: 'it returns false'. Refute it at one input. -/
def dampWaitsWrong : ChangeSpec := { name := "dampWaits", fn := fun _ => fun
  | [d1, d2, d3] => { results := [.lit (.bool false)], args := [d1, d2, d3] }
  | _ => none }
def DampWaitsWrongFalsely : Prop := dampWaitsRow.holds Try.pinned (OpenSpec.ofChange dampWaitsWrong)

/-- 'consulatelaw20.DampKnown': WHATEVER THE INPUT: true; the input reads as it did. -/
def dampKnownSpec : ChangeSpec := { name := "dampKnown", fn := fun _ => fun
  | [] => { results := [.lit (.bool true)], args := [] }
  | _ => none }
def dampKnownRow : OpenClaim := { program := "ytglbcjmebjeokaa", sum := "8ced718aace6cf619d26f50ef2270f366eb6b54507ecfe301564efca32bc9976", func := "consulate/consulatelaw20.DampKnown", spec := "dampKnown", unfollowed := true, recurses := true, apart := false }
def DampKnownSaid : Prop := dampKnownRow.holds Try.pinned (OpenSpec.ofChange dampKnownSpec)

/-- ITS FALSE NEIGHBOUR: 'it returns false'. Refute it at one input. -/
def dampKnownWrong : ChangeSpec := { name := "dampKnown", fn := fun _ => fun
  | [] => { results := [.lit (.bool false)], args := [] }
  | _ => none }
def DampKnownWrongFalsely : Prop := dampKnownRow.holds Try.pinned (OpenSpec.ofChange dampKnownWrong)

/- THE SECOND FORM. 'bulk': how many values and letters a reading holds, each counted each time it is reached (what is shared counts as often as it is met; a slice's spare places count too). A statement '..UptoSaid' is the law's where the arguments, and the package variables that the reading takes, are together of bulk at most 1048576: NARROWER than '..Said'. Prove '..Said' where nothing that the law and all that it calls make is longer than what came in: it says more and counts as full. Else prove '..UptoSaid'. A law counts once. -/
mutual
def uptoBulk {H : Type} : DataW H → Nat
  | .lit (.string bytes) => bytes.length + 1
  | .lit _ => 1
  | .nil => 1
  | .ptr d => uptoBulk d + 1
  | .slice elems spare => uptoBulkAll elems + uptoBulkAll spare + 1
  | .agg parts => uptoBulkAll parts + 1
  | .iface _ d => uptoBulk d + 1
  | .map entries => uptoBulkEntries entries + 1
  | .held _ => 1
def uptoBulkAll {H : Type} : List (DataW H) → Nat
  | [] => 0
  | d :: r => uptoBulk d + uptoBulkAll r
def uptoBulkEntries {H : Type} : List (Lit × DataW H) → Nat
  | [] => 0
  | x :: r => uptoBulkEntry x + uptoBulkEntries r
def uptoBulkEntry {H : Type} : Lit × DataW H → Nat
  | (.string bytes, d) => bytes.length + uptoBulk d + 1
  | (_, d) => uptoBulk d + 1
 end
def uptoSmall : (H : Type) → List (DataW H) → Bool := fun _ ds => decide (uptoBulkAll ds ≤ 1048576)
def OpenSpec.upto (s : _root_.Go.ChangeSpec) : _root_.Go.OpenSpec := { _root_.Go.OpenSpec.ofChange s with cond := some uptoSmall }

/-- 'consulatelaw20.DampRuns', WHERE WHAT IT READS IS OF BULK AT MOST 1048576: true; the input reads as it did. -/
def dampRunsUptoRow : OpenClaim := { program := "ytglbcjmebjeokaa", sum := "8ced718aace6cf619d26f50ef2270f366eb6b54507ecfe301564efca32bc9976", func := "consulate/consulatelaw20.DampRuns", spec := "dampRuns", unfollowed := true, recurses := true, apart := false, narrowed := true }
def DampRunsUptoSaid : Prop := dampRunsUptoRow.holds Try.pinned (OpenSpec.upto dampRunsSpec)

/-- 'consulatelaw20.DampSteps', WHERE WHAT IT READS IS OF BULK AT MOST 1048576: true; the input reads as it did. -/
def dampStepsUptoRow : OpenClaim := { program := "ytglbcjmebjeokaa", sum := "8ced718aace6cf619d26f50ef2270f366eb6b54507ecfe301564efca32bc9976", func := "consulate/consulatelaw20.DampSteps", spec := "dampSteps", unfollowed := true, recurses := true, apart := false, narrowed := true }
def DampStepsUptoSaid : Prop := dampStepsUptoRow.holds Try.pinned (OpenSpec.upto dampStepsSpec)

/-- 'consulatelaw20.DampParts', WHERE WHAT IT READS IS OF BULK AT MOST 1048576: true; the input reads as it did. -/
def dampPartsUptoRow : OpenClaim := { program := "ytglbcjmebjeokaa", sum := "8ced718aace6cf619d26f50ef2270f366eb6b54507ecfe301564efca32bc9976", func := "consulate/consulatelaw20.DampParts", spec := "dampParts", unfollowed := true, recurses := true, apart := false, narrowed := true }
def DampPartsUptoSaid : Prop := dampPartsUptoRow.holds Try.pinned (OpenSpec.upto dampPartsSpec)

/-- 'consulatelaw20.DampWaits', WHERE WHAT IT READS IS OF BULK AT MOST 1048576: true; the input reads as it did. -/
def dampWaitsUptoRow : OpenClaim := { program := "ytglbcjmebjeokaa", sum := "8ced718aace6cf619d26f50ef2270f366eb6b54507ecfe301564efca32bc9976", func := "consulate/consulatelaw20.DampWaits", spec := "dampWaits", unfollowed := true, recurses := true, apart := false, narrowed := true }
def DampWaitsUptoSaid : Prop := dampWaitsUptoRow.holds Try.pinned (OpenSpec.upto dampWaitsSpec)

/-- 'consulatelaw20.DampKnown', WHERE WHAT IT READS IS OF BULK AT MOST 1048576: true; the input reads as it did. -/
def dampKnownUptoRow : OpenClaim := { program := "ytglbcjmebjeokaa", sum := "8ced718aace6cf619d26f50ef2270f366eb6b54507ecfe301564efca32bc9976", func := "consulate/consulatelaw20.DampKnown", spec := "dampKnown", unfollowed := true, recurses := true, apart := false, narrowed := true }
def DampKnownUptoSaid : Prop := dampKnownUptoRow.holds Try.pinned (OpenSpec.upto dampKnownSpec)

end Rows
end Go.Proofs.Ytglbcjmebjeokaa
