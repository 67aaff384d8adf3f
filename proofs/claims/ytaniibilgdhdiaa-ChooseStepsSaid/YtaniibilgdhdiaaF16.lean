/- What comes of function 16 of this program, cmp.Compare[uint32], as the engine gives it. -/
import Derived.Test.YtaniibilgdhdiaaChecked
import Derived.Test.YtaniibilgdhdiaaZN
namespace Go.Proofs.Ytaniibilgdhdiaa.F16
open Go Go.Proofs Go.Proofs.Ytaniibilgdhdiaa Go.RowKit Go.Proofs.Ytaniibilgdhdiaa.Sx
set_option linter.unusedVariables false
set_option maxRecDepth 100000
def tab : List (FuncId × Sx.Spec) := []
def pls : List (FuncId × Plan) := []
@[reducible] def i : Sh := .sc (.int .u32) (.sc (.int .u32) .nil)
@[reducible] def o : Sh := .sc (.int .i64) .nil
abbrev FT := (Int × Int) → Option (Int × Unit)
theorem tabS : AllS Try.prog (tab) := trivial
theorem plsP : AllP Try.prog (pls) := trivial
theorem mixed : Try.prog.follows .mixedOrders = true := by kernel_rfl
def fP : FT := fun (x, y) =>
    bif x != x then bif y != y then some (0, PUnit.unit) else some (-1, PUnit.unit)
    else
      bif y != y then some (1, PUnit.unit)
      else
        bif decide (x < y) then some (-1, PUnit.unit)
        else bif decide (x > y) then some (1, PUnit.unit) else some (0, PUnit.unit)
theorem fe (d : Int × Int) : bodyF (tabC Try.prog (tab) ((16, .none) :: pls) 100 10) 100 16 i o d = fP d := by kernel_rfl
noncomputable def f : FT := fP
def plan : Plan := .none
theorem planOk : PlanOk Try.prog (plan) (bodyOf Try.prog 16) := (planOk_of (plan) _ [] (by kernel_rfl) trivial)
theorem meets : MeetsF Try.prog 16 ⟨i, o, f⟩ :=
  funcT (fuel := 100) (depth := 10) (pl := (16, plan) :: pls) mixed tabS ⟨planOk, plsP⟩ (fun d => fe  d)
theorem spec : SpecOk Try.prog (fun _ => none) 16 (specF ⟨i, o, f⟩) := specF_ok (by kernel_rfl) meets
end Go.Proofs.Ytaniibilgdhdiaa.F16
