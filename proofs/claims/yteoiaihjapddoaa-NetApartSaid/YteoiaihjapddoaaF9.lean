/- What comes of function 9 of this program, (*consulate.net.Net).Add, as the engine gives it. -/
import Derived.Test.YteoiaihjapddoaaChecked
import Derived.Test.YteoiaihjapddoaaZN
namespace Go.Proofs.Yteoiaihjapddoaa.F9
open Go Go.Proofs Go.Proofs.Yteoiaihjapddoaa Go.RowKit Go.Proofs.Yteoiaihjapddoaa.Sx
set_option linter.unusedVariables false
set_option maxRecDepth 100000
def tab : List (FuncId × Sx.Spec) := []
def pls : List (FuncId × Plan) := []
@[reducible] def i : Sh := .pt true 59 (.sl true 61 (.sc .bool (.sc (.int .i64) (.sl true 5 (.sc (.int .u8) .nil) (.sl true 5 (.sc (.int .u8) .nil) .nil)))) (.sc .bool .nil)) .nil
@[reducible] def o : Sh := .sc (.int .i64) (.sc (.int .i64) .nil)
abbrev FT := (((List (Bool × Int × List (Int) × List (Int))) × Bool)) → Option ((Int × Int) × (((List (Bool × Int × List (Int) × List (Int))) × Bool)))
theorem tabS : AllS Try.prog (tab) := trivial
theorem plsP : AllP Try.prog (pls) := trivial
theorem mixed : Try.prog.follows .mixedOrders = true := by kernel_rfl
def fP : FT := fun (n0, n1) =>
    bif !n1 then some ((0, 2), n0, n1)
    else
      bif decide ((↑n0.length : Int) ≥ 64) then
        bif decide (0 + n0.length ≤ n0.length) && true then some ((0, 7), List.take n0.length n0, n1) else none
      else
        bif decide (n0.length + 1 ≤ 1073741824) then
          bif decide (0 + n0.length ≤ n0.length) then
            bif decide (0 + (n0.length + 1) ≤ (List.take n0.length n0 ++ [(false, 0, [], [])]).length) && true then
              some
                ((IntKind.i64.wrap ((↑(n0.length + 1) : Int) - 1), 0),
                  List.take (n0.length + 1) (List.drop 0 (List.take n0.length n0 ++ [(false, 0, [], [])])), n1)
            else none
          else none
        else none
theorem fe (d : ((List (Bool × Int × List (Int) × List (Int))) × Bool)) : bodyF (tabC Try.prog (tab) ((9, .none) :: pls) 100 10) 100 9 i o d = fP d := by kernel_rfl
noncomputable def f : FT := fP
def plan : Plan := .none
theorem planOk : PlanOk Try.prog (plan) (bodyOf Try.prog 9) := (planOk_of (plan) _ [] (by kernel_rfl) trivial)
theorem meets : MeetsF Try.prog 9 ⟨i, o, f⟩ :=
  funcT (fuel := 100) (depth := 10) (pl := (9, plan) :: pls) mixed tabS ⟨planOk, plsP⟩ (fun d => fe  d)
theorem spec : SpecOk Try.prog (fun _ => none) 9 (specF ⟨i, o, f⟩) := specF_ok (by kernel_rfl) meets
end Go.Proofs.Yteoiaihjapddoaa.F9
