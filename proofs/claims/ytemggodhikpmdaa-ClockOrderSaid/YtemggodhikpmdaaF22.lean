/- What comes of function 22 of this program, (*consulate.consulateref13.Clock).Stop, as the engine gives it. -/
import Derived.Test.YtemggodhikpmdaaChecked
import Derived.Test.YtemggodhikpmdaaZM
namespace Go.Proofs.Ytemggodhikpmdaa.F22
open Go Go.Proofs Go.RowKit Go.Proofs.Ytemggodhikpmdaa.Sx
set_option linter.unusedVariables false
set_option maxRecDepth 100000
def tab : List (FuncId × Sx.Spec) := []
def pls : List (FuncId × Plan) := []
@[reducible] def i : Sh := .pt true 59 (.sc (.int .i64) (.sc (.int .i64) (.sc (.int .i64) (.sc (.int .i64) (.sc (.int .i64) .nil))))) (.sc (.int .i64) .nil)
@[reducible] def o : Sh := .sc (.int .i64) .nil
abbrev FT := ((Int × Int × Int × Int × Int) × Int) → Option (Int × ((Int × Int × Int × Int × Int)))
theorem tabS : AllS Try.prog (tab) := trivial
theorem plsP : AllP Try.prog (pls) := trivial
theorem mixed : Try.prog.follows .mixedOrders = true := by kernel_rfl
def fP : FT := fun ((c0, c1, c2, c3, c4), t) =>
    bif decide (t < 0) then some (1, c0, c1, c2, c3, c4)
    else
      bif decide (t > 3) then some (1, c0, c1, c2, c3, c4)
      else
        bif decide (0 ≤ t ∧ t < 4) then
          bif t.toNat.beq 0 then some (0, c0, -1, c2, c3, c4)
          else
            bif t.toNat.beq 1 then some (0, c0, c1, -1, c3, c4)
            else
              bif t.toNat.beq 2 then some (0, c0, c1, c2, -1, c4)
              else bif t.toNat.beq 3 then some (0, c0, c1, c2, c3, -1) else none
        else none
theorem fe (d : (Int × Int × Int × Int × Int) × Int) : bodyF (tabC Try.prog (tab) ((22, .none) :: pls) 100 10) 100 22 i o d = fP d := by kernel_rfl
noncomputable def f : FT := fP
def plan : Plan := .none
theorem planOk : PlanOk Try.prog (plan) (bodyOf Try.prog 22) := (planOk_of (plan) _ [] (by kernel_rfl) trivial)
theorem meets : MeetsF Try.prog 22 ⟨i, o, f⟩ :=
  funcT (fuel := 100) (depth := 10) (pl := (22, plan) :: pls) mixed tabS ⟨planOk, plsP⟩ (fun d => fe  d)
theorem spec : SpecOk Try.prog (fun _ => none) 22 (specF ⟨i, o, f⟩) := specF_ok (by kernel_rfl) meets
end Go.Proofs.Ytemggodhikpmdaa.F22
