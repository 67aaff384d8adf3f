/- What comes of function 20 of this program, (*consulate.net.Net).Quiet, as the engine gives it. -/
import Derived.Test.YteoiaihjapddoaaChecked
import Derived.Test.YteoiaihjapddoaaZN
import Derived.Test.YteoiaihjapddoaaF37
namespace Go.Proofs.Yteoiaihjapddoaa.F20
open Go Go.Proofs Go.Proofs.Yteoiaihjapddoaa Go.RowKit Go.Proofs.Yteoiaihjapddoaa.Sx
set_option linter.unusedVariables false
set_option maxRecDepth 100000
def tab (l37_1 : F37.G1) : List (FuncId × Sx.Spec) := []
def pls (l37_1 : F37.G1) : List (FuncId × Plan) := [(37, F37.plan l37_1)]
@[reducible] def i : Sh := .pt true 59 (.sl true 61 (.sc .bool (.sc (.int .i64) (.sl true 5 (.sc (.int .u8) .nil) (.sl true 5 (.sc (.int .u8) .nil) .nil)))) (.sc .bool .nil)) .nil
@[reducible] def o : Sh := .sc .bool .nil
abbrev FT := (((List (Bool × Int × List (Int) × List (Int))) × Bool)) → Option (Bool × (((List (Bool × Int × List (Int) × List (Int))) × Bool)))
theorem tabS : AllS Try.prog (tab F37.l1) := trivial
theorem plsP : AllP Try.prog (pls F37.l1) := ⟨F37.planOk, trivial⟩
theorem mixed : Try.prog.follows .mixedOrders = true := by kernel_rfl
def fP (l37_1 : F37.G1) : FT := fun (n0, n1) =>
    bif decide (0 + n0.length ≤ n0.length) && true then
      (l37_1 (List.take n0.length n0, PUnit.unit, (↑n0.length : Int)) (OfNat.ofNat 0)).bind fun r0 =>
        bif decide (r0.fst.fst = 0) then
          bif decide (0 + n0.length ≤ n0.length) && true then some (true, List.take n0.length n0, n1) else none
        else
          bif decide (r0.fst.fst = 1) then
            bif decide (0 + n0.length ≤ n0.length) && true then
              some (!decide (r0.fst.snd ≥ 0), List.take n0.length n0, n1)
            else none
          else none
    else none
theorem fe (l37_1 : F37.G1) (d : ((List (Bool × Int × List (Int) × List (Int))) × Bool)) : bodyF (tabC Try.prog (tab l37_1) ((20, .none) :: pls l37_1) 100 10) 100 20 i o d = fP l37_1 d := by kernel_rfl
noncomputable def f : FT := fP F37.l1
def plan : Plan := .none
theorem planOk : PlanOk Try.prog (plan) (bodyOf Try.prog 20) := (planOk_of (plan) _ [] (by kernel_rfl) trivial)
theorem meets : MeetsF Try.prog 20 ⟨i, o, f⟩ :=
  funcT (fuel := 100) (depth := 10) (pl := (20, plan) :: pls F37.l1) mixed tabS ⟨planOk, plsP⟩ (fun d => fe F37.l1 d)
theorem spec : SpecOk Try.prog (fun _ => none) 20 (specF ⟨i, o, f⟩) := specF_ok (by kernel_rfl) meets
end Go.Proofs.Yteoiaihjapddoaa.F20
