/- What comes of function 23 of this program, (*consulate.clock.Clock).Go, as the engine gives it. -/
import Derived.Test.YtemggodhikpmdaaChecked
import Derived.Test.YtemggodhikpmdaaZM
import Derived.Test.YtemggodhikpmdaaF26
namespace Go.Proofs.Ytemggodhikpmdaa.F23
open Go Go.Proofs Go.RowKit Go.Proofs.Ytemggodhikpmdaa.Sx
set_option linter.unusedVariables false
set_option maxRecDepth 100000
def tab (x26 : F26.FT) : List (FuncId × Sx.Spec) := [(26, specF ⟨F26.i, F26.o, x26⟩)]
def pls (x26 : F26.FT) : List (FuncId × Plan) := []
@[reducible] def i : Sh := .pt true 65 (.sc (.int .i64) (.sc .bool (.sc (.int .i64) (.sc .bool (.sc (.int .i64) (.sc .bool (.sc (.int .i64) (.sc .bool (.sc (.int .i64) (.sc .bool .nil)))))))))) (.sc (.int .i64) .nil)
@[reducible] def o : Sh := .sc (.int .i64) (.sc .bool .nil)
abbrev FT := ((Int × Bool × Int × Bool × Int × Bool × Int × Bool × Int × Bool) × Int) → Option ((Int × Bool) × ((Int × Bool × Int × Bool × Int × Bool × Int × Bool × Int × Bool)))
theorem tabS : AllS Try.prog (tab F26.f) := ⟨F26.spec, trivial⟩
theorem plsP : AllP Try.prog (pls F26.f) := trivial
theorem mixed : Try.prog.follows .mixedOrders = true := by kernel_rfl
def fP (x26 : F26.FT) : FT := fun ((c0, c1, c2, c3, c4, c5, c6, c7, c8, c9), until0) =>
    bif !c9 then some ((0, false), c0, c1, c2, c3, c4, c5, c6, c7, c8, c9)
    else
      (x26 (c0, c1, c2, c3, c4, c5, c6, c7, c8, c9)).bind fun r0 =>
        bif r0.fst.snd.snd then
          bif decide (r0.fst.snd.fst ≤ if r0.snd.fst > until0 then r0.snd.fst else until0) then
            bif decide (0 ≤ r0.fst.fst ∧ r0.fst.fst < 4) then
              bif (Int.toNat r0.fst.fst).beq 0 then
                some
                  ((r0.fst.fst, true), r0.fst.snd.fst, false, 0, r0.snd.snd.snd.snd.fst, r0.snd.snd.snd.snd.snd.fst,
                    r0.snd.snd.snd.snd.snd.snd.fst, r0.snd.snd.snd.snd.snd.snd.snd.fst,
                    r0.snd.snd.snd.snd.snd.snd.snd.snd.fst, r0.snd.snd.snd.snd.snd.snd.snd.snd.snd.fst,
                    r0.snd.snd.snd.snd.snd.snd.snd.snd.snd.snd)
              else
                bif (Int.toNat r0.fst.fst).beq 1 then
                  some
                    ((r0.fst.fst, true), r0.fst.snd.fst, r0.snd.snd.fst, r0.snd.snd.snd.fst, false, 0,
                      r0.snd.snd.snd.snd.snd.snd.fst, r0.snd.snd.snd.snd.snd.snd.snd.fst,
                      r0.snd.snd.snd.snd.snd.snd.snd.snd.fst, r0.snd.snd.snd.snd.snd.snd.snd.snd.snd.fst,
                      r0.snd.snd.snd.snd.snd.snd.snd.snd.snd.snd)
                else
                  bif (Int.toNat r0.fst.fst).beq 2 then
                    some
                      ((r0.fst.fst, true), r0.fst.snd.fst, r0.snd.snd.fst, r0.snd.snd.snd.fst, r0.snd.snd.snd.snd.fst,
                        r0.snd.snd.snd.snd.snd.fst, false, 0, r0.snd.snd.snd.snd.snd.snd.snd.snd.fst,
                        r0.snd.snd.snd.snd.snd.snd.snd.snd.snd.fst, r0.snd.snd.snd.snd.snd.snd.snd.snd.snd.snd)
                  else
                    bif (Int.toNat r0.fst.fst).beq 3 then
                      some
                        ((r0.fst.fst, true), r0.fst.snd.fst, r0.snd.snd.fst, r0.snd.snd.snd.fst, r0.snd.snd.snd.snd.fst,
                          r0.snd.snd.snd.snd.snd.fst, r0.snd.snd.snd.snd.snd.snd.fst, r0.snd.snd.snd.snd.snd.snd.snd.fst,
                          false, 0, r0.snd.snd.snd.snd.snd.snd.snd.snd.snd.snd)
                    else none
            else none
          else
            some
              ((0, false),
                if (if 1099511627776 < until0 then 1099511627776 else until0) > r0.snd.fst then
                  if 1099511627776 < until0 then 1099511627776 else until0
                else r0.snd.fst,
                r0.snd.snd.fst, r0.snd.snd.snd.fst, r0.snd.snd.snd.snd.fst, r0.snd.snd.snd.snd.snd.fst,
                r0.snd.snd.snd.snd.snd.snd.fst, r0.snd.snd.snd.snd.snd.snd.snd.fst,
                r0.snd.snd.snd.snd.snd.snd.snd.snd.fst, r0.snd.snd.snd.snd.snd.snd.snd.snd.snd.fst,
                r0.snd.snd.snd.snd.snd.snd.snd.snd.snd.snd)
        else
          some
            ((0, false),
              if (if 1099511627776 < until0 then 1099511627776 else until0) > r0.snd.fst then
                if 1099511627776 < until0 then 1099511627776 else until0
              else r0.snd.fst,
              r0.snd.snd.fst, r0.snd.snd.snd.fst, r0.snd.snd.snd.snd.fst, r0.snd.snd.snd.snd.snd.fst,
              r0.snd.snd.snd.snd.snd.snd.fst, r0.snd.snd.snd.snd.snd.snd.snd.fst, r0.snd.snd.snd.snd.snd.snd.snd.snd.fst,
              r0.snd.snd.snd.snd.snd.snd.snd.snd.snd.fst, r0.snd.snd.snd.snd.snd.snd.snd.snd.snd.snd)
theorem fe (x26 : F26.FT) (d : (Int × Bool × Int × Bool × Int × Bool × Int × Bool × Int × Bool) × Int) : bodyF (tabC Try.prog (tab x26) ((23, .none) :: pls x26) 100 10) 100 23 i o d = fP x26 d := by kernel_rfl
noncomputable def f : FT := fP F26.f
def plan : Plan := .none
theorem planOk : PlanOk Try.prog (plan) (bodyOf Try.prog 23) := (planOk_of (plan) _ [] (by kernel_rfl) trivial)
theorem meets : MeetsF Try.prog 23 ⟨i, o, f⟩ :=
  funcT (fuel := 100) (depth := 10) (pl := (23, plan) :: pls F26.f) mixed tabS ⟨planOk, plsP⟩ (fun d => fe F26.f d)
theorem spec : SpecOk Try.prog (fun _ => none) 23 (specF ⟨i, o, f⟩) := specF_ok (by kernel_rfl) meets
end Go.Proofs.Ytemggodhikpmdaa.F23
