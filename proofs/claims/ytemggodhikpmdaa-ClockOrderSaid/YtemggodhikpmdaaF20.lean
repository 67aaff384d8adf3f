/- What comes of function 20 of this program, (*consulate.consulateref13.Clock).Start, as the engine gives it. -/
import Derived.Test.YtemggodhikpmdaaChecked
import Derived.Test.YtemggodhikpmdaaZM
namespace Go.Proofs.Ytemggodhikpmdaa.F20
open Go Go.Proofs Go.RowKit Go.Proofs.Ytemggodhikpmdaa.Sx
set_option linter.unusedVariables false
set_option maxRecDepth 100000
def tab : List (FuncId × Sx.Spec) := []
def pls : List (FuncId × Plan) := []
@[reducible] def i : Sh := .pt true 59 (.sc (.int .i64) (.sc (.int .i64) (.sc (.int .i64) (.sc (.int .i64) (.sc (.int .i64) .nil))))) (.sc (.int .i64) (.sc (.int .i64) .nil))
@[reducible] def o : Sh := .sc (.int .i64) .nil
abbrev FT := ((Int × Int × Int × Int × Int) × Int × Int) → Option (Int × ((Int × Int × Int × Int × Int)))
theorem tabS : AllS Try.prog (tab) := trivial
theorem plsP : AllP Try.prog (pls) := trivial
theorem mixed : Try.prog.follows .mixedOrders = true := by kernel_rfl
def fP : FT := fun ((c0, c1, c2, c3, c4), t, ticks) =>
    bif decide (t < 0) then some (1, c0, c1, c2, c3, c4)
    else
      bif decide (t > 3) then some (1, c0, c1, c2, c3, c4)
      else
        bif decide (ticks < 0) then some (1, c0, c1, c2, c3, c4)
        else
          bif decide (ticks > IntKind.i64.wrap (1099511627776 - c0)) then
            bif decide (0 ≤ t ∧ t < 4) then
              bif t.toNat.beq 0 then some (0, c0, 1099511627776, c2, c3, c4)
              else
                bif t.toNat.beq 1 then some (0, c0, c1, 1099511627776, c3, c4)
                else
                  bif t.toNat.beq 2 then some (0, c0, c1, c2, 1099511627776, c4)
                  else bif t.toNat.beq 3 then some (0, c0, c1, c2, c3, 1099511627776) else none
            else none
          else
            bif decide (0 ≤ t ∧ t < 4) then
              bif t.toNat.beq 0 then some (0, c0, IntKind.i64.wrap (c0 + ticks), c2, c3, c4)
              else
                bif t.toNat.beq 1 then some (0, c0, c1, IntKind.i64.wrap (c0 + ticks), c3, c4)
                else
                  bif t.toNat.beq 2 then some (0, c0, c1, c2, IntKind.i64.wrap (c0 + ticks), c4)
                  else bif t.toNat.beq 3 then some (0, c0, c1, c2, c3, IntKind.i64.wrap (c0 + ticks)) else none
            else none
theorem fe (d : (Int × Int × Int × Int × Int) × Int × Int) : bodyF (tabC Try.prog (tab) ((20, .none) :: pls) 100 10) 100 20 i o d = fP d := by kernel_rfl
noncomputable def f : FT := fP
def plan : Plan := .none
theorem planOk : PlanOk Try.prog (plan) (bodyOf Try.prog 20) := (planOk_of (plan) _ [] (by kernel_rfl) trivial)
theorem meets : MeetsF Try.prog 20 ⟨i, o, f⟩ :=
  funcT (fuel := 100) (depth := 10) (pl := (20, plan) :: pls) mixed tabS ⟨planOk, plsP⟩ (fun d => fe  d)
theorem spec : SpecOk Try.prog (fun _ => none) 20 (specF ⟨i, o, f⟩) := specF_ok (by kernel_rfl) meets
end Go.Proofs.Ytemggodhikpmdaa.F20
