/- What comes of function 26 of this program, (*consulate.clock.Clock).Next, as the engine gives it. -/
import Derived.Test.YtemggodhikpmdaaChecked
import Derived.Test.YtemggodhikpmdaaZM
namespace Go.Proofs.Ytemggodhikpmdaa.F26
open Go Go.Proofs Go.RowKit Go.Proofs.Ytemggodhikpmdaa.Sx
set_option linter.unusedVariables false
set_option maxRecDepth 100000
def tab : List (FuncId × Sx.Spec) := []
def pls : List (FuncId × Plan) := []
@[reducible] def i : Sh := .pt true 65 (.sc (.int .i64) (.sc .bool (.sc (.int .i64) (.sc .bool (.sc (.int .i64) (.sc .bool (.sc (.int .i64) (.sc .bool (.sc (.int .i64) (.sc .bool .nil)))))))))) .nil
@[reducible] def o : Sh := .sc (.int .i64) (.sc (.int .i64) (.sc .bool .nil))
abbrev FT := ((Int × Bool × Int × Bool × Int × Bool × Int × Bool × Int × Bool)) → Option ((Int × Int × Bool) × ((Int × Bool × Int × Bool × Int × Bool × Int × Bool × Int × Bool)))
theorem tabS : AllS Try.prog (tab) := trivial
theorem plsP : AllP Try.prog (pls) := trivial
theorem mixed : Try.prog.follows .mixedOrders = true := by kernel_rfl
def fP : FT := fun (c0, c1, c2, c3, c4, c5, c6, c7, c8, c9) =>
    bif !c9 then some ((0, 0, false), c0, c1, c2, c3, c4, c5, c6, c7, c8, c9)
    else
      bif c1 then
        bif c3 then
          bif decide (c4 < c2) then
            bif c5 then
              bif decide (c6 < c4) then
                bif c7 then
                  bif decide (c8 < c6) then some ((3, c8, true), c0, c1, c2, c3, c4, c5, c6, c7, c8, c9)
                  else some ((2, c6, true), c0, c1, c2, c3, c4, c5, c6, c7, c8, c9)
                else some ((2, c6, true), c0, c1, c2, c3, c4, c5, c6, c7, c8, c9)
              else
                bif c7 then
                  bif decide (c8 < c4) then some ((3, c8, true), c0, c1, c2, c3, c4, c5, c6, c7, c8, c9)
                  else some ((1, c4, true), c0, c1, c2, c3, c4, c5, c6, c7, c8, c9)
                else some ((1, c4, true), c0, c1, c2, c3, c4, c5, c6, c7, c8, c9)
            else
              bif c7 then
                bif decide (c8 < c4) then some ((3, c8, true), c0, c1, c2, c3, c4, c5, c6, c7, c8, c9)
                else some ((1, c4, true), c0, c1, c2, c3, c4, c5, c6, c7, c8, c9)
              else some ((1, c4, true), c0, c1, c2, c3, c4, c5, c6, c7, c8, c9)
          else
            bif c5 then
              bif decide (c6 < c2) then
                bif c7 then
                  bif decide (c8 < c6) then some ((3, c8, true), c0, c1, c2, c3, c4, c5, c6, c7, c8, c9)
                  else some ((2, c6, true), c0, c1, c2, c3, c4, c5, c6, c7, c8, c9)
                else some ((2, c6, true), c0, c1, c2, c3, c4, c5, c6, c7, c8, c9)
              else
                bif c7 then
                  bif decide (c8 < c2) then some ((3, c8, true), c0, c1, c2, c3, c4, c5, c6, c7, c8, c9)
                  else some ((0, c2, true), c0, c1, c2, c3, c4, c5, c6, c7, c8, c9)
                else some ((0, c2, true), c0, c1, c2, c3, c4, c5, c6, c7, c8, c9)
            else
              bif c7 then
                bif decide (c8 < c2) then some ((3, c8, true), c0, c1, c2, c3, c4, c5, c6, c7, c8, c9)
                else some ((0, c2, true), c0, c1, c2, c3, c4, c5, c6, c7, c8, c9)
              else some ((0, c2, true), c0, c1, c2, c3, c4, c5, c6, c7, c8, c9)
        else
          bif c5 then
            bif decide (c6 < c2) then
              bif c7 then
                bif decide (c8 < c6) then some ((3, c8, true), c0, c1, c2, c3, c4, c5, c6, c7, c8, c9)
                else some ((2, c6, true), c0, c1, c2, c3, c4, c5, c6, c7, c8, c9)
              else some ((2, c6, true), c0, c1, c2, c3, c4, c5, c6, c7, c8, c9)
            else
              bif c7 then
                bif decide (c8 < c2) then some ((3, c8, true), c0, c1, c2, c3, c4, c5, c6, c7, c8, c9)
                else some ((0, c2, true), c0, c1, c2, c3, c4, c5, c6, c7, c8, c9)
              else some ((0, c2, true), c0, c1, c2, c3, c4, c5, c6, c7, c8, c9)
          else
            bif c7 then
              bif decide (c8 < c2) then some ((3, c8, true), c0, c1, c2, c3, c4, c5, c6, c7, c8, c9)
              else some ((0, c2, true), c0, c1, c2, c3, c4, c5, c6, c7, c8, c9)
            else some ((0, c2, true), c0, c1, c2, c3, c4, c5, c6, c7, c8, c9)
      else
        bif c3 then
          bif c5 then
            bif decide (c6 < c4) then
              bif c7 then
                bif decide (c8 < c6) then some ((3, c8, true), c0, c1, c2, c3, c4, c5, c6, c7, c8, c9)
                else some ((2, c6, true), c0, c1, c2, c3, c4, c5, c6, c7, c8, c9)
              else some ((2, c6, true), c0, c1, c2, c3, c4, c5, c6, c7, c8, c9)
            else
              bif c7 then
                bif decide (c8 < c4) then some ((3, c8, true), c0, c1, c2, c3, c4, c5, c6, c7, c8, c9)
                else some ((1, c4, true), c0, c1, c2, c3, c4, c5, c6, c7, c8, c9)
              else some ((1, c4, true), c0, c1, c2, c3, c4, c5, c6, c7, c8, c9)
          else
            bif c7 then
              bif decide (c8 < c4) then some ((3, c8, true), c0, c1, c2, c3, c4, c5, c6, c7, c8, c9)
              else some ((1, c4, true), c0, c1, c2, c3, c4, c5, c6, c7, c8, c9)
            else some ((1, c4, true), c0, c1, c2, c3, c4, c5, c6, c7, c8, c9)
        else
          bif c5 then
            bif c7 then
              bif decide (c8 < c6) then some ((3, c8, true), c0, c1, c2, c3, c4, c5, c6, c7, c8, c9)
              else some ((2, c6, true), c0, c1, c2, c3, c4, c5, c6, c7, c8, c9)
            else some ((2, c6, true), c0, c1, c2, c3, c4, c5, c6, c7, c8, c9)
          else
            bif c7 then some ((3, c8, true), c0, c1, c2, c3, c4, c5, c6, c7, c8, c9)
            else some ((0, 0, false), c0, c1, c2, c3, c4, c5, c6, c7, c8, c9)
theorem fe (d : (Int × Bool × Int × Bool × Int × Bool × Int × Bool × Int × Bool)) : bodyF (tabC Try.prog (tab) ((26, .none) :: pls) 100 10) 100 26 i o d = fP d := by kernel_rfl
noncomputable def f : FT := fP
def plan : Plan := .none
theorem planOk : PlanOk Try.prog (plan) (bodyOf Try.prog 26) := (planOk_of (plan) _ [] (by kernel_rfl) trivial)
theorem meets : MeetsF Try.prog 26 ⟨i, o, f⟩ :=
  funcT (fuel := 100) (depth := 10) (pl := (26, plan) :: pls) mixed tabS ⟨planOk, plsP⟩ (fun d => fe  d)
theorem spec : SpecOk Try.prog (fun _ => none) 26 (specF ⟨i, o, f⟩) := specF_ok (by kernel_rfl) meets
end Go.Proofs.Ytemggodhikpmdaa.F26
