/- What comes of function 27 of this program, (*consulate.consulateref13.Clock).Next, as the engine gives it. -/
import Derived.Test.YtemggodhikpmdaaChecked
import Derived.Test.YtemggodhikpmdaaZM
namespace Go.Proofs.Ytemggodhikpmdaa.F27
open Go Go.Proofs Go.RowKit Go.Proofs.Ytemggodhikpmdaa.Sx
set_option linter.unusedVariables false
set_option maxRecDepth 100000
def tab : List (FuncId × Sx.Spec) := []
def pls : List (FuncId × Plan) := []
@[reducible] def i : Sh := .pt true 59 (.sc (.int .i64) (.sc (.int .i64) (.sc (.int .i64) (.sc (.int .i64) (.sc (.int .i64) .nil))))) .nil
@[reducible] def o : Sh := .sc (.int .i64) (.sc (.int .i64) (.sc .bool .nil))
abbrev FT := ((Int × Int × Int × Int × Int)) → Option ((Int × Int × Bool) × ((Int × Int × Int × Int × Int)))
theorem tabS : AllS Try.prog (tab) := trivial
theorem plsP : AllP Try.prog (pls) := trivial
theorem mixed : Try.prog.follows .mixedOrders = true := by kernel_rfl
def fP : FT := fun (c0, c1, c2, c3, c4) =>
    bif decide (c1 ≥ 0) then
      bif decide (c2 ≥ 0) then
        bif decide (c2 < c1) then
          bif decide (c3 ≥ 0) then
            bif decide (c3 < c2) then
              bif decide (c4 ≥ 0) then
                bif decide (c4 < c3) then some ((3, c4, true), c0, c1, c2, c3, c4)
                else some ((2, c3, true), c0, c1, c2, c3, c4)
              else some ((2, c3, true), c0, c1, c2, c3, c4)
            else
              bif decide (c4 ≥ 0) then
                bif decide (c4 < c2) then some ((3, c4, true), c0, c1, c2, c3, c4)
                else some ((1, c2, true), c0, c1, c2, c3, c4)
              else some ((1, c2, true), c0, c1, c2, c3, c4)
          else
            bif decide (c4 ≥ 0) then
              bif decide (c4 < c2) then some ((3, c4, true), c0, c1, c2, c3, c4)
              else some ((1, c2, true), c0, c1, c2, c3, c4)
            else some ((1, c2, true), c0, c1, c2, c3, c4)
        else
          bif decide (c3 ≥ 0) then
            bif decide (c3 < c1) then
              bif decide (c4 ≥ 0) then
                bif decide (c4 < c3) then some ((3, c4, true), c0, c1, c2, c3, c4)
                else some ((2, c3, true), c0, c1, c2, c3, c4)
              else some ((2, c3, true), c0, c1, c2, c3, c4)
            else
              bif decide (c4 ≥ 0) then
                bif decide (c4 < c1) then some ((3, c4, true), c0, c1, c2, c3, c4)
                else some ((0, c1, true), c0, c1, c2, c3, c4)
              else some ((0, c1, true), c0, c1, c2, c3, c4)
          else
            bif decide (c4 ≥ 0) then
              bif decide (c4 < c1) then some ((3, c4, true), c0, c1, c2, c3, c4)
              else some ((0, c1, true), c0, c1, c2, c3, c4)
            else some ((0, c1, true), c0, c1, c2, c3, c4)
      else
        bif decide (c3 ≥ 0) then
          bif decide (c3 < c1) then
            bif decide (c4 ≥ 0) then
              bif decide (c4 < c3) then some ((3, c4, true), c0, c1, c2, c3, c4)
              else some ((2, c3, true), c0, c1, c2, c3, c4)
            else some ((2, c3, true), c0, c1, c2, c3, c4)
          else
            bif decide (c4 ≥ 0) then
              bif decide (c4 < c1) then some ((3, c4, true), c0, c1, c2, c3, c4)
              else some ((0, c1, true), c0, c1, c2, c3, c4)
            else some ((0, c1, true), c0, c1, c2, c3, c4)
        else
          bif decide (c4 ≥ 0) then
            bif decide (c4 < c1) then some ((3, c4, true), c0, c1, c2, c3, c4)
            else some ((0, c1, true), c0, c1, c2, c3, c4)
          else some ((0, c1, true), c0, c1, c2, c3, c4)
    else
      bif decide (c2 ≥ 0) then
        bif decide (c3 ≥ 0) then
          bif decide (c3 < c2) then
            bif decide (c4 ≥ 0) then
              bif decide (c4 < c3) then some ((3, c4, true), c0, c1, c2, c3, c4)
              else some ((2, c3, true), c0, c1, c2, c3, c4)
            else some ((2, c3, true), c0, c1, c2, c3, c4)
          else
            bif decide (c4 ≥ 0) then
              bif decide (c4 < c2) then some ((3, c4, true), c0, c1, c2, c3, c4)
              else some ((1, c2, true), c0, c1, c2, c3, c4)
            else some ((1, c2, true), c0, c1, c2, c3, c4)
        else
          bif decide (c4 ≥ 0) then
            bif decide (c4 < c2) then some ((3, c4, true), c0, c1, c2, c3, c4)
            else some ((1, c2, true), c0, c1, c2, c3, c4)
          else some ((1, c2, true), c0, c1, c2, c3, c4)
      else
        bif decide (c3 ≥ 0) then
          bif decide (c4 ≥ 0) then
            bif decide (c4 < c3) then some ((3, c4, true), c0, c1, c2, c3, c4)
            else some ((2, c3, true), c0, c1, c2, c3, c4)
          else some ((2, c3, true), c0, c1, c2, c3, c4)
        else
          bif decide (c4 ≥ 0) then some ((3, c4, true), c0, c1, c2, c3, c4) else some ((0, 0, false), c0, c1, c2, c3, c4)
theorem fe (d : (Int × Int × Int × Int × Int)) : bodyF (tabC Try.prog (tab) ((27, .none) :: pls) 100 10) 100 27 i o d = fP d := by kernel_rfl
noncomputable def f : FT := fP
def plan : Plan := .none
theorem planOk : PlanOk Try.prog (plan) (bodyOf Try.prog 27) := (planOk_of (plan) _ [] (by kernel_rfl) trivial)
theorem meets : MeetsF Try.prog 27 ⟨i, o, f⟩ :=
  funcT (fuel := 100) (depth := 10) (pl := (27, plan) :: pls) mixed tabS ⟨planOk, plsP⟩ (fun d => fe  d)
theorem spec : SpecOk Try.prog (fun _ => none) 27 (specF ⟨i, o, f⟩) := specF_ok (by kernel_rfl) meets
end Go.Proofs.Ytemggodhikpmdaa.F27
