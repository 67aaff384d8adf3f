/- What comes of function 19 of this program, (*consulate.clock.Clock).Start, as the engine gives it. -/
import Derived.Test.YtemggodhikpmdaaChecked
import Derived.Test.YtemggodhikpmdaaZM
namespace Go.Proofs.Ytemggodhikpmdaa.F19
open Go Go.Proofs Go.RowKit Go.Proofs.Ytemggodhikpmdaa.Sx
set_option linter.unusedVariables false
set_option maxRecDepth 100000
def tab : List (FuncId × Sx.Spec) := []
def pls : List (FuncId × Plan) := []
@[reducible] def i : Sh := .pt true 65 (.sc (.int .i64) (.sc .bool (.sc (.int .i64) (.sc .bool (.sc (.int .i64) (.sc .bool (.sc (.int .i64) (.sc .bool (.sc (.int .i64) (.sc .bool .nil)))))))))) (.sc (.int .i64) (.sc (.int .i64) .nil))
@[reducible] def o : Sh := .sc (.int .i64) .nil
abbrev FT := ((Int × Bool × Int × Bool × Int × Bool × Int × Bool × Int × Bool) × Int × Int) → Option (Int × ((Int × Bool × Int × Bool × Int × Bool × Int × Bool × Int × Bool)))
theorem tabS : AllS Try.prog (tab) := trivial
theorem plsP : AllP Try.prog (pls) := trivial
theorem mixed : Try.prog.follows .mixedOrders = true := by kernel_rfl
def fP : FT := fun ((c0, c1, c2, c3, c4, c5, c6, c7, c8, c9), t, ticks) =>
    bif !c9 then some (2, c0, c1, c2, c3, c4, c5, c6, c7, c8, c9)
    else
      bif decide (t < 0) then some (1, c0, c1, c2, c3, c4, c5, c6, c7, c8, c9)
      else
        bif decide (t ≥ 4) then some (1, c0, c1, c2, c3, c4, c5, c6, c7, c8, c9)
        else
          bif decide (ticks < 0) then some (1, c0, c1, c2, c3, c4, c5, c6, c7, c8, c9)
          else
            bif decide (0 ≤ t ∧ t < 4) then
              bif t.toNat.beq 0 then
                some
                  (0, c0, true,
                    IntKind.i64.wrap
                      (c0 +
                        if IntKind.i64.wrap (1099511627776 - c0) < ticks then IntKind.i64.wrap (1099511627776 - c0)
                        else ticks),
                    c3, c4, c5, c6, c7, c8, c9)
              else
                bif t.toNat.beq 1 then
                  some
                    (0, c0, c1, c2, true,
                      IntKind.i64.wrap
                        (c0 +
                          if IntKind.i64.wrap (1099511627776 - c0) < ticks then IntKind.i64.wrap (1099511627776 - c0)
                          else ticks),
                      c5, c6, c7, c8, c9)
                else
                  bif t.toNat.beq 2 then
                    some
                      (0, c0, c1, c2, c3, c4, true,
                        IntKind.i64.wrap
                          (c0 +
                            if IntKind.i64.wrap (1099511627776 - c0) < ticks then IntKind.i64.wrap (1099511627776 - c0)
                            else ticks),
                        c7, c8, c9)
                  else
                    bif t.toNat.beq 3 then
                      some
                        (0, c0, c1, c2, c3, c4, c5, c6, true,
                          IntKind.i64.wrap
                            (c0 +
                              if IntKind.i64.wrap (1099511627776 - c0) < ticks then IntKind.i64.wrap (1099511627776 - c0)
                              else ticks),
                          c9)
                    else none
            else none
theorem fe (d : (Int × Bool × Int × Bool × Int × Bool × Int × Bool × Int × Bool) × Int × Int) : bodyF (tabC Try.prog (tab) ((19, .none) :: pls) 100 10) 100 19 i o d = fP d := by kernel_rfl
noncomputable def f : FT := fP
def plan : Plan := .none
theorem planOk : PlanOk Try.prog (plan) (bodyOf Try.prog 19) := (planOk_of (plan) _ [] (by kernel_rfl) trivial)
theorem meets : MeetsF Try.prog 19 ⟨i, o, f⟩ :=
  funcT (fuel := 100) (depth := 10) (pl := (19, plan) :: pls) mixed tabS ⟨planOk, plsP⟩ (fun d => fe  d)
theorem spec : SpecOk Try.prog (fun _ => none) 19 (specF ⟨i, o, f⟩) := specF_ok (by kernel_rfl) meets
end Go.Proofs.Ytemggodhikpmdaa.F19
