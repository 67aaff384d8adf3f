/-
  No cell of these rows narrows 'for every input' (looked for: loops, veiled, ifaces, maps, wideKeys, modest, calm, conditions, laid).
  DERIVED. THE GIVEN ROWS OF THIS SEAT. 4 by the template 'for every input the law returns true; each argument reads behind the call as it read before'; 0 by the template 'total and deterministic' (their statements: YtldfpoacjcjnjaaTotals.lean).
  GIVEN WITH THE SEED: the statements are not yours to turn. If you find one false, say at which input.
  Laid BY PROGRAM, IN A SANDBOX (cutbox-rows.mjs): the forced cells as the released guide's own fill.sh prints them over the translation b27d06b15d10b4f0… (all of the seat's roots in one cut). By AI agents, Wed Nov 11 2026. No macro, syntax, notation, axiom, sorry.
-/
import Derived.Test.YtldfpoacjcjnjaaChecked
import GoSem.Claim
import GoSem.ClaimJoined
import GoSem.ClaimMapViews
import Derived.JoinedTies
import Derived.KernelRfl
namespace Go.Proofs.Ytldfpoacjcjnjaa
/- THE CELL 'sum', in the pinned program and in every row, IS THE sha256 OF THE DUMP (.gsa) THAT YtldfpoacjcjnjaaProg.lean LOADS. Nothing in Lean hashes anything: it is a label: what it is worth is what the hold of that sum in a sandbox is worth. -/
noncomputable def Try.pinned : Pinned := { name := "ytldfpoacjcjnjaa", sum := "b27d06b15d10b4f03309f1b5e502478d8606ddffb1e5eae9df1019d057dc9e24", checked := Try.checked }
namespace Rows
def none {H : Type} : Left H := { results := [], args := [] }

/-- 'consulatelaw16.ClashJudges': WHATEVER THE INPUT: true; the input reads as it did. -/
def clashJudgesSpec : ChangeSpec := { name := "clashJudges", fn := fun _ => fun
  | [d1, d2, d3, d4] => { results := [.lit (.bool true)], args := [d1, d2, d3, d4] }
  | _ => none }
def clashJudgesRow : OpenClaim := { program := "ytldfpoacjcjnjaa", sum := "b27d06b15d10b4f03309f1b5e502478d8606ddffb1e5eae9df1019d057dc9e24", func := "consulate/consulatelaw16.ClashJudges", spec := "clashJudges", apart := false }
def ClashJudgesSaid : Prop := clashJudgesRow.holds Try.pinned (OpenSpec.ofChange clashJudgesSpec)

/-- ITS FALSE NEIGHBOUR: 'it returns false'. Refute it at one input. -/
def clashJudgesWrong : ChangeSpec := { name := "clashJudges", fn := fun _ => fun
  | [d1, d2, d3, d4] => { results := [.lit (.bool false)], args := [d1, d2, d3, d4] }
  | _ => none }
def ClashJudgesWrongFalsely : Prop := clashJudgesRow.holds Try.pinned (OpenSpec.ofChange clashJudgesWrong)

/-- 'consulatelaw16.ClashAgrees': WHATEVER THE INPUT: true; the input reads as it did. -/
def clashAgreesSpec : ChangeSpec := { name := "clashAgrees", fn := fun _ => fun
  | [d1, d2, d3, d4, d5] => { results := [.lit (.bool true)], args := [d1, d2, d3, d4, d5] }
  | _ => none }
def clashAgreesRow : OpenClaim := { program := "ytldfpoacjcjnjaa", sum := "b27d06b15d10b4f03309f1b5e502478d8606ddffb1e5eae9df1019d057dc9e24", func := "consulate/consulatelaw16.ClashAgrees", spec := "clashAgrees", apart := false }
def ClashAgreesSaid : Prop := clashAgreesRow.holds Try.pinned (OpenSpec.ofChange clashAgreesSpec)

/-- ITS FALSE NEIGHBOUR: 'it returns false'. Refute it at one input. -/
def clashAgreesWrong : ChangeSpec := { name := "clashAgrees", fn := fun _ => fun
  | [d1, d2, d3, d4, d5] => { results := [.lit (.bool false)], args := [d1, d2, d3, d4, d5] }
  | _ => none }
def ClashAgreesWrongFalsely : Prop := clashAgreesRow.holds Try.pinned (OpenSpec.ofChange clashAgreesWrong)

/-- 'consulatelaw16.ClashOrder': WHATEVER THE INPUT: true; the input reads as it did. -/
def clashOrderSpec : ChangeSpec := { name := "clashOrder", fn := fun _ => fun
  | [d1, d2, d3] => { results := [.lit (.bool true)], args := [d1, d2, d3] }
  | _ => none }
def clashOrderRow : OpenClaim := { program := "ytldfpoacjcjnjaa", sum := "b27d06b15d10b4f03309f1b5e502478d8606ddffb1e5eae9df1019d057dc9e24", func := "consulate/consulatelaw16.ClashOrder", spec := "clashOrder", unfollowed := true, recurses := true, apart := false }
def ClashOrderSaid : Prop := clashOrderRow.holds Try.pinned (OpenSpec.ofChange clashOrderSpec)

/-- ITS FALSE NEIGHBOUR: 'it returns false'. Refute it at one input. -/
def clashOrderWrong : ChangeSpec := { name := "clashOrder", fn := fun _ => fun
  | [d1, d2, d3] => { results := [.lit (.bool false)], args := [d1, d2, d3] }
  | _ => none }
def ClashOrderWrongFalsely : Prop := clashOrderRow.holds Try.pinned (OpenSpec.ofChange clashOrderWrong)

/-- 'consulatelaw16.ClashKnown': WHATEVER THE INPUT: true; the input reads as it did. -/
def clashKnownSpec : ChangeSpec := { name := "clashKnown", fn := fun _ => fun
  | [] => { results := [.lit (.bool true)], args := [] }
  | _ => none }
def clashKnownRow : OpenClaim := { program := "ytldfpoacjcjnjaa", sum := "b27d06b15d10b4f03309f1b5e502478d8606ddffb1e5eae9df1019d057dc9e24", func := "consulate/consulatelaw16.ClashKnown", spec := "clashKnown", apart := false }
def ClashKnownSaid : Prop := clashKnownRow.holds Try.pinned (OpenSpec.ofChange clashKnownSpec)

/-- ITS FALSE NEIGHBOUR: 'it returns false'. Refute it at one input. -/
def clashKnownWrong : ChangeSpec := { name := "clashKnown", fn := fun _ => fun
  | [] => { results := [.lit (.bool false)], args := [] }
  | _ => none }
def ClashKnownWrongFalsely : Prop := clashKnownRow.holds Try.pinned (OpenSpec.ofChange clashKnownWrong)

/- THE SECOND FORM. 'bulk': how many values and letters a reading holds, each counted each time it is reached (what is shared counts as often as it is met; a slice's spare places count too). A statement '..UptoSaid' is the law's where the arguments, and the package variables that the reading takes, are together of bulk at most 1048576: NARROWER than '..Said'. Prove '..Said' where nothing that the law and all that it calls make is longer than what came in: it says more and counts as full. Else prove '..UptoSaid'. A law counts once. -/
mutual
def uptoBulk {H : Type} : DataW H → Nat
  | .lit (.string bytes) => bytes.length + 1
  | .lit _ => 1
  | .nil => 1
  | .ptr d => uptoBulk d + 1
  | .slice elems spare => uptoBulkAll elems + uptoBulkAll spare + 1
  | .agg parts => uptoBulkAll parts + 1
  | .iface _ d => uptoBulk d + 1
  | .map entries => uptoBulkEntries entries + 1
  | .held _ => 1
def uptoBulkAll {H : Type} : List (DataW H) → Nat
  | [] => 0
  | d :: r => uptoBulk d + uptoBulkAll r
def uptoBulkEntries {H : Type} : List (Lit × DataW H) → Nat
  | [] => 0
  | x :: r => uptoBulkEntry x + uptoBulkEntries r
def uptoBulkEntry {H : Type} : Lit × DataW H → Nat
  | (.string bytes, d) => bytes.length + uptoBulk d + 1
  | (_, d) => uptoBulk d + 1
 end
def uptoSmall : (H : Type) → List (DataW H) → Bool := fun _ ds => decide (uptoBulkAll ds ≤ 1048576)
def OpenSpec.upto (s : _root_.Go.ChangeSpec) : _root_.Go.OpenSpec := { _root_.Go.OpenSpec.ofChange s with cond := some uptoSmall }

/-- 'consulatelaw16.ClashJudges', WHERE WHAT IT READS IS OF BULK AT MOST 1048576: true; the input reads as it did. -/
def clashJudgesUptoRow : OpenClaim := { program := "ytldfpoacjcjnjaa", sum := "b27d06b15d10b4f03309f1b5e502478d8606ddffb1e5eae9df1019d057dc9e24", func := "consulate/consulatelaw16.ClashJudges", spec := "clashJudges", apart := false, narrowed := true }
def ClashJudgesUptoSaid : Prop := clashJudgesUptoRow.holds Try.pinned (OpenSpec.upto clashJudgesSpec)

/-- 'consulatelaw16.ClashAgrees', WHERE WHAT IT READS IS OF BULK AT MOST 1048576: true; the input reads as it did. -/
def clashAgreesUptoRow : OpenClaim := { program := "ytldfpoacjcjnjaa", sum := "b27d06b15d10b4f03309f1b5e502478d8606ddffb1e5eae9df1019d057dc9e24", func := "consulate/consulatelaw16.ClashAgrees", spec := "clashAgrees", apart := false, narrowed := true }
def ClashAgreesUptoSaid : Prop := clashAgreesUptoRow.holds Try.pinned (OpenSpec.upto clashAgreesSpec)

/-- 'consulatelaw16.ClashOrder', WHERE WHAT IT READS IS OF BULK AT MOST 1048576: true; the input reads as it did. -/
def clashOrderUptoRow : OpenClaim := { program := "ytldfpoacjcjnjaa", sum := "b27d06b15d10b4f03309f1b5e502478d8606ddffb1e5eae9df1019d057dc9e24", func := "consulate/consulatelaw16.ClashOrder", spec := "clashOrder", unfollowed := true, recurses := true, apart := false, narrowed := true }
def ClashOrderUptoSaid : Prop := clashOrderUptoRow.holds Try.pinned (OpenSpec.upto clashOrderSpec)

/-- 'consulatelaw16.ClashKnown', WHERE WHAT IT READS IS OF BULK AT MOST 1048576: true; the input reads as it did. -/
def clashKnownUptoRow : OpenClaim := { program := "ytldfpoacjcjnjaa", sum := "b27d06b15d10b4f03309f1b5e502478d8606ddffb1e5eae9df1019d057dc9e24", func := "consulate/consulatelaw16.ClashKnown", spec := "clashKnown", apart := false, narrowed := true }
def ClashKnownUptoSaid : Prop := clashKnownUptoRow.holds Try.pinned (OpenSpec.upto clashKnownSpec)

end Rows
end Go.Proofs.Ytldfpoacjcjnjaa
