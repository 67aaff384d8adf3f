/-
  No cell of these rows narrows 'for every input' (looked for: loops, veiled, ifaces, maps, wideKeys, modest, calm, conditions, laid).
  DERIVED. THE GIVEN ROWS OF THIS SEAT. 3 by the template 'for every input the law returns true; each argument reads behind the call as it read before'; 0 by the template 'total and deterministic' (their statements: YtaniibilgdhdiaaTotals.lean).
  GIVEN WITH THE SEED: the statements are not yours to turn. If you find one false, say at which input.
  Laid BY PROGRAM, IN A SANDBOX (cutbox-rows.mjs): the forced cells as the released guide's own fill.sh prints them over the translation 29d6ce3a49ee3704… (all of the seat's roots in one cut). By AI agents, Wed Nov 11 2026. No macro, syntax, notation, axiom, sorry.
-/
import Derived.Test.YtaniibilgdhdiaaChecked
import GoSem.Claim
import GoSem.ClaimJoined
import GoSem.ClaimMapViews
import Derived.JoinedTies
import Derived.KernelRfl
namespace Go.Proofs.Ytaniibilgdhdiaa
/- THE CELL 'sum', in the pinned program and in every row, IS THE sha256 OF THE DUMP (.gsa) THAT YtaniibilgdhdiaaProg.lean LOADS. Nothing in Lean hashes anything: it is a label: what it is worth is what the hold of that sum in a sandbox is worth. -/
noncomputable def Try.pinned : Pinned := { name := "ytaniibilgdhdiaa", sum := "29d6ce3a49ee3704589507b7d026146c1979cf60366a8d345d3a703dcb6e3fa3", checked := Try.checked }
namespace Rows
def none {H : Type} : Left H := { results := [], args := [] }

/-- 'consulatelaw21.ChooseSteps': WHATEVER THE INPUT: true; the input reads as it did. -/
def chooseStepsSpec : ChangeSpec := { name := "chooseSteps", fn := fun _ => fun
  | [d1, d2] => { results := [.lit (.bool true)], args := [d1, d2] }
  | _ => none }
def chooseStepsRow : OpenClaim := { program := "ytaniibilgdhdiaa", sum := "29d6ce3a49ee3704589507b7d026146c1979cf60366a8d345d3a703dcb6e3fa3", func := "consulate/consulatelaw21.ChooseSteps", spec := "chooseSteps", unfollowed := true, recurses := true, apart := false }
def ChooseStepsSaid : Prop := chooseStepsRow.holds Try.pinned (OpenSpec.ofChange chooseStepsSpec)

/-- ITS FALSE NEIGHBOUR: 'it returns false'. Refute it at one input. -/
def chooseStepsWrong : ChangeSpec := { name := "chooseSteps", fn := fun _ => fun
  | [d1, d2] => { results := [.lit (.bool false)], args := [d1, d2] }
  | _ => none }
def ChooseStepsWrongFalsely : Prop := chooseStepsRow.holds Try.pinned (OpenSpec.ofChange chooseStepsWrong)

/-- 'consulatelaw21.ChooseAway': WHATEVER THE INPUT: true; the input reads as it did. -/
def chooseAwaySpec : ChangeSpec := { name := "chooseAway", fn := fun _ => fun
  | [d1, d2] => { results := [.lit (.bool true)], args := [d1, d2] }
  | _ => none }
def chooseAwayRow : OpenClaim := { program := "ytaniibilgdhdiaa", sum := "29d6ce3a49ee3704589507b7d026146c1979cf60366a8d345d3a703dcb6e3fa3", func := "consulate/consulatelaw21.ChooseAway", spec := "chooseAway", apart := false }
def ChooseAwaySaid : Prop := chooseAwayRow.holds Try.pinned (OpenSpec.ofChange chooseAwaySpec)

/-- ITS FALSE NEIGHBOUR: 'it returns false'. Refute it at one input. -/
def chooseAwayWrong : ChangeSpec := { name := "chooseAway", fn := fun _ => fun
  | [d1, d2] => { results := [.lit (.bool false)], args := [d1, d2] }
  | _ => none }
def ChooseAwayWrongFalsely : Prop := chooseAwayRow.holds Try.pinned (OpenSpec.ofChange chooseAwayWrong)

/-- 'consulatelaw21.ChooseOrder': WHATEVER THE INPUT: true; the input reads as it did. -/
def chooseOrderSpec : ChangeSpec := { name := "chooseOrder", fn := fun _ => fun
  | [d1, d2] => { results := [.lit (.bool true)], args := [d1, d2] }
  | _ => none }
def chooseOrderRow : OpenClaim := { program := "ytaniibilgdhdiaa", sum := "29d6ce3a49ee3704589507b7d026146c1979cf60366a8d345d3a703dcb6e3fa3", func := "consulate/consulatelaw21.ChooseOrder", spec := "chooseOrder", unfollowed := true, recurses := true, apart := false }
def ChooseOrderSaid : Prop := chooseOrderRow.holds Try.pinned (OpenSpec.ofChange chooseOrderSpec)

/-- ITS FALSE NEIGHBOUR: 'it returns false'. Refute it at one input. -/
def chooseOrderWrong : ChangeSpec := { name := "chooseOrder", fn := fun _ => fun
  | [d1, d2] => { results := [.lit (.bool false)], args := [d1, d2] }
  | _ => none }
def ChooseOrderWrongFalsely : Prop := chooseOrderRow.holds Try.pinned (OpenSpec.ofChange chooseOrderWrong)

/- THE SECOND FORM. 'bulk': how many values and letters a reading holds, each counted each time it is reached (what is shared counts as often as it is met; a slice's spare places count too). A statement '..UptoSaid' is the law's where the arguments, and the package variables that the reading takes, are together of bulk at most 1048576: NARROWER than '..Said'. Prove '..Said' where nothing that the law and all that it calls make is longer than what came in: it says more and counts as full. Else prove '..UptoSaid'. A law counts once. -/
mutual
def uptoBulk {H : Type} : DataW H → Nat
  | .lit (.string bytes) => bytes.length + 1
  | .lit _ => 1
  | .nil => 1
  | .ptr d => uptoBulk d + 1
  | .slice elems spare => uptoBulkAll elems + uptoBulkAll spare + 1
  | .agg parts => uptoBulkAll parts + 1
  | .iface _ d => uptoBulk d + 1
  | .map entries => uptoBulkEntries entries + 1
  | .held _ => 1
def uptoBulkAll {H : Type} : List (DataW H) → Nat
  | [] => 0
  | d :: r => uptoBulk d + uptoBulkAll r
def uptoBulkEntries {H : Type} : List (Lit × DataW H) → Nat
  | [] => 0
  | x :: r => uptoBulkEntry x + uptoBulkEntries r
def uptoBulkEntry {H : Type} : Lit × DataW H → Nat
  | (.string bytes, d) => bytes.length + uptoBulk d + 1
  | (_, d) => uptoBulk d + 1
 end
def uptoSmall : (H : Type) → List (DataW H) → Bool := fun _ ds => decide (uptoBulkAll ds ≤ 1048576)
def OpenSpec.upto (s : _root_.Go.ChangeSpec) : _root_.Go.OpenSpec := { _root_.Go.OpenSpec.ofChange s with cond := some uptoSmall }

/-- 'consulatelaw21.ChooseSteps', WHERE WHAT IT READS IS OF BULK AT MOST 1048576: true; the input reads as it did. -/
def chooseStepsUptoRow : OpenClaim := { program := "ytaniibilgdhdiaa", sum := "29d6ce3a49ee3704589507b7d026146c1979cf60366a8d345d3a703dcb6e3fa3", func := "consulate/consulatelaw21.ChooseSteps", spec := "chooseSteps", unfollowed := true, recurses := true, apart := false, narrowed := true }
def ChooseStepsUptoSaid : Prop := chooseStepsUptoRow.holds Try.pinned (OpenSpec.upto chooseStepsSpec)

/-- 'consulatelaw21.ChooseAway', WHERE WHAT IT READS IS OF BULK AT MOST 1048576: true; the input reads as it did. -/
def chooseAwayUptoRow : OpenClaim := { program := "ytaniibilgdhdiaa", sum := "29d6ce3a49ee3704589507b7d026146c1979cf60366a8d345d3a703dcb6e3fa3", func := "consulate/consulatelaw21.ChooseAway", spec := "chooseAway", apart := false, narrowed := true }
def ChooseAwayUptoSaid : Prop := chooseAwayUptoRow.holds Try.pinned (OpenSpec.upto chooseAwaySpec)

/-- 'consulatelaw21.ChooseOrder', WHERE WHAT IT READS IS OF BULK AT MOST 1048576: true; the input reads as it did. -/
def chooseOrderUptoRow : OpenClaim := { program := "ytaniibilgdhdiaa", sum := "29d6ce3a49ee3704589507b7d026146c1979cf60366a8d345d3a703dcb6e3fa3", func := "consulate/consulatelaw21.ChooseOrder", spec := "chooseOrder", unfollowed := true, recurses := true, apart := false, narrowed := true }
def ChooseOrderUptoSaid : Prop := chooseOrderUptoRow.holds Try.pinned (OpenSpec.upto chooseOrderSpec)

end Rows
end Go.Proofs.Ytaniibilgdhdiaa
