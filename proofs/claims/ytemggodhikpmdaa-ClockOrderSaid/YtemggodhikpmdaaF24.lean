/- What comes of function 24 of this program, (*consulate.consulateref13.Clock).Go, as the engine gives it. -/
import Derived.Test.YtemggodhikpmdaaChecked
import Derived.Test.YtemggodhikpmdaaZM
import Derived.Test.YtemggodhikpmdaaF27
namespace Go.Proofs.Ytemggodhikpmdaa.F24
open Go Go.Proofs Go.RowKit Go.Proofs.Ytemggodhikpmdaa.Sx
set_option linter.unusedVariables false
set_option maxRecDepth 100000
def tab (x27 : F27.FT) : List (FuncId × Sx.Spec) := [(27, specF ⟨F27.i, F27.o, x27⟩)]
def pls (x27 : F27.FT) : List (FuncId × Plan) := []
@[reducible] def i : Sh := .pt true 59 (.sc (.int .i64) (.sc (.int .i64) (.sc (.int .i64) (.sc (.int .i64) (.sc (.int .i64) .nil))))) (.sc (.int .i64) .nil)
@[reducible] def o : Sh := .sc (.int .i64) (.sc .bool .nil)
abbrev FT := ((Int × Int × Int × Int × Int) × Int) → Option ((Int × Bool) × ((Int × Int × Int × Int × Int)))
theorem tabS : AllS Try.prog (tab F27.f) := ⟨F27.spec, trivial⟩
theorem plsP : AllP Try.prog (pls F27.f) := trivial
theorem mixed : Try.prog.follows .mixedOrders = true := by kernel_rfl
def fP (x27 : F27.FT) : FT := fun ((c0, c1, c2, c3, c4), until0) =>
    (x27 (c0, c1, c2, c3, c4)).bind fun r0 =>
      bif r0.fst.snd.snd then
        bif decide (r0.fst.snd.fst ≤ until0) then
          bif decide (0 ≤ r0.fst.fst ∧ r0.fst.fst < 4) then
            bif (Int.toNat r0.fst.fst).beq 0 then
              some
                ((r0.fst.fst, true), r0.fst.snd.fst, -1, r0.snd.snd.snd.fst, r0.snd.snd.snd.snd.fst,
                  r0.snd.snd.snd.snd.snd)
            else
              bif (Int.toNat r0.fst.fst).beq 1 then
                some
                  ((r0.fst.fst, true), r0.fst.snd.fst, r0.snd.snd.fst, -1, r0.snd.snd.snd.snd.fst, r0.snd.snd.snd.snd.snd)
              else
                bif (Int.toNat r0.fst.fst).beq 2 then
                  some
                    ((r0.fst.fst, true), r0.fst.snd.fst, r0.snd.snd.fst, r0.snd.snd.snd.fst, -1, r0.snd.snd.snd.snd.snd)
                else
                  bif (Int.toNat r0.fst.fst).beq 3 then
                    some
                      ((r0.fst.fst, true), r0.fst.snd.fst, r0.snd.snd.fst, r0.snd.snd.snd.fst, r0.snd.snd.snd.snd.fst, -1)
                  else none
          else none
        else
          bif r0.fst.snd.fst == r0.snd.fst then
            bif decide (0 ≤ r0.fst.fst ∧ r0.fst.fst < 4) then
              bif (Int.toNat r0.fst.fst).beq 0 then
                some
                  ((r0.fst.fst, true), r0.fst.snd.fst, -1, r0.snd.snd.snd.fst, r0.snd.snd.snd.snd.fst,
                    r0.snd.snd.snd.snd.snd)
              else
                bif (Int.toNat r0.fst.fst).beq 1 then
                  some
                    ((r0.fst.fst, true), r0.fst.snd.fst, r0.snd.snd.fst, -1, r0.snd.snd.snd.snd.fst,
                      r0.snd.snd.snd.snd.snd)
                else
                  bif (Int.toNat r0.fst.fst).beq 2 then
                    some
                      ((r0.fst.fst, true), r0.fst.snd.fst, r0.snd.snd.fst, r0.snd.snd.snd.fst, -1, r0.snd.snd.snd.snd.snd)
                  else
                    bif (Int.toNat r0.fst.fst).beq 3 then
                      some
                        ((r0.fst.fst, true), r0.fst.snd.fst, r0.snd.snd.fst, r0.snd.snd.snd.fst, r0.snd.snd.snd.snd.fst,
                          -1)
                    else none
            else none
          else
            bif decide (until0 > 1099511627776) then
              bif decide (1099511627776 > r0.snd.fst) then
                some
                  ((0, false), 1099511627776, r0.snd.snd.fst, r0.snd.snd.snd.fst, r0.snd.snd.snd.snd.fst,
                    r0.snd.snd.snd.snd.snd)
              else some ((0, false), r0.snd)
            else
              bif decide (until0 > r0.snd.fst) then
                some
                  ((0, false), until0, r0.snd.snd.fst, r0.snd.snd.snd.fst, r0.snd.snd.snd.snd.fst, r0.snd.snd.snd.snd.snd)
              else some ((0, false), r0.snd)
      else
        bif decide (until0 > 1099511627776) then
          bif decide (1099511627776 > r0.snd.fst) then
            some
              ((0, false), 1099511627776, r0.snd.snd.fst, r0.snd.snd.snd.fst, r0.snd.snd.snd.snd.fst,
                r0.snd.snd.snd.snd.snd)
          else some ((0, false), r0.snd)
        else
          bif decide (until0 > r0.snd.fst) then
            some ((0, false), until0, r0.snd.snd.fst, r0.snd.snd.snd.fst, r0.snd.snd.snd.snd.fst, r0.snd.snd.snd.snd.snd)
          else some ((0, false), r0.snd)
theorem fe (x27 : F27.FT) (d : (Int × Int × Int × Int × Int) × Int) : bodyF (tabC Try.prog (tab x27) ((24, .none) :: pls x27) 100 10) 100 24 i o d = fP x27 d := by kernel_rfl
noncomputable def f : FT := fP F27.f
def plan : Plan := .none
theorem planOk : PlanOk Try.prog (plan) (bodyOf Try.prog 24) := (planOk_of (plan) _ [] (by kernel_rfl) trivial)
theorem meets : MeetsF Try.prog 24 ⟨i, o, f⟩ :=
  funcT (fuel := 100) (depth := 10) (pl := (24, plan) :: pls F27.f) mixed tabS ⟨planOk, plsP⟩ (fun d => fe F27.f d)
theorem spec : SpecOk Try.prog (fun _ => none) 24 (specF ⟨i, o, f⟩) := specF_ok (by kernel_rfl) meets
end Go.Proofs.Ytemggodhikpmdaa.F24
