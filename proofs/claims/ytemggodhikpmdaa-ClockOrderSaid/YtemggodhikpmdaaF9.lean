/- What comes of function 9 of this program, consulate.consulatelaw13.started, as the engine gives it. -/
import Derived.Test.YtemggodhikpmdaaChecked
import Derived.Test.YtemggodhikpmdaaZM
import Derived.Test.YtemggodhikpmdaaF19
namespace Go.Proofs.Ytemggodhikpmdaa.F9
open Go Go.Proofs Go.RowKit Go.Proofs.Ytemggodhikpmdaa.Sx
set_option linter.unusedVariables false
set_option maxRecDepth 100000
def tab (x19 : F19.FT) : List (FuncId × Sx.Spec) := [(19, specF ⟨F19.i, F19.o, x19⟩)]
def pls (x19 : F19.FT) : List (FuncId × Plan) := []
@[reducible] def i : Sh := .sc (.int .i64) (.ag (.sc (.int .i64) (.sc (.int .i64) (.sc (.int .i64) (.sc (.int .i64) .nil)))) .nil)
@[reducible] def o : Sh := .po true 65 (.sc (.int .i64) (.sc .bool (.sc (.int .i64) (.sc .bool (.sc (.int .i64) (.sc .bool (.sc (.int .i64) (.sc .bool (.sc (.int .i64) (.sc .bool .nil)))))))))) .nil
abbrev FT := (Int × (Int × Int × Int × Int)) → Option (((Option (Int × Bool × Int × Bool × Int × Bool × Int × Bool × Int × Bool))) × Unit)
theorem tabS : AllS Try.prog (tab F19.f) := ⟨F19.spec, trivial⟩
theorem plsP : AllP Try.prog (pls F19.f) := trivial
theorem mixed : Try.prog.follows .mixedOrders = true := by kernel_rfl
def fP (x19 : F19.FT) : FT := fun (now, (l0, l1, l2, l3)) =>
    bif decide (now < 0) then some (none, PUnit.unit)
    else
      bif decide (now > 1099511627776) then some (none, PUnit.unit)
      else
        bif decide (l0 ≥ 0) then
          (x19 ((now, false, 0, false, 0, false, 0, false, 0, true), 0, l0)).bind fun r0 =>
            bif decide (l1 ≥ 0) then
              (x19 (r0.snd, 1, l1)).bind fun r1 =>
                bif decide (l2 ≥ 0) then
                  (x19 (r1.snd, 2, l2)).bind fun r2 =>
                    bif decide (l3 ≥ 0) then (x19 (r2.snd, 3, l3)).bind fun r3 => some (some r3.snd, PUnit.unit)
                    else some (some r2.snd, PUnit.unit)
                else
                  bif decide (l3 ≥ 0) then (x19 (r1.snd, 3, l3)).bind fun r2 => some (some r2.snd, PUnit.unit)
                  else some (some r1.snd, PUnit.unit)
            else
              bif decide (l2 ≥ 0) then
                (x19 (r0.snd, 2, l2)).bind fun r1 =>
                  bif decide (l3 ≥ 0) then (x19 (r1.snd, 3, l3)).bind fun r2 => some (some r2.snd, PUnit.unit)
                  else some (some r1.snd, PUnit.unit)
              else
                bif decide (l3 ≥ 0) then (x19 (r0.snd, 3, l3)).bind fun r1 => some (some r1.snd, PUnit.unit)
                else some (some r0.snd, PUnit.unit)
        else
          bif decide (l1 ≥ 0) then
            (x19 ((now, false, 0, false, 0, false, 0, false, 0, true), 1, l1)).bind fun r0 =>
              bif decide (l2 ≥ 0) then
                (x19 (r0.snd, 2, l2)).bind fun r1 =>
                  bif decide (l3 ≥ 0) then (x19 (r1.snd, 3, l3)).bind fun r2 => some (some r2.snd, PUnit.unit)
                  else some (some r1.snd, PUnit.unit)
              else
                bif decide (l3 ≥ 0) then (x19 (r0.snd, 3, l3)).bind fun r1 => some (some r1.snd, PUnit.unit)
                else some (some r0.snd, PUnit.unit)
          else
            bif decide (l2 ≥ 0) then
              (x19 ((now, false, 0, false, 0, false, 0, false, 0, true), 2, l2)).bind fun r0 =>
                bif decide (l3 ≥ 0) then (x19 (r0.snd, 3, l3)).bind fun r1 => some (some r1.snd, PUnit.unit)
                else some (some r0.snd, PUnit.unit)
            else
              bif decide (l3 ≥ 0) then
                (x19 ((now, false, 0, false, 0, false, 0, false, 0, true), 3, l3)).bind fun r0 =>
                  some (some r0.snd, PUnit.unit)
              else some (some (now, false, 0, false, 0, false, 0, false, 0, true), PUnit.unit)
theorem fe (x19 : F19.FT) (d : Int × (Int × Int × Int × Int)) : bodyF (tabC Try.prog (tab x19) ((9, .none) :: pls x19) 100 10) 100 9 i o d = fP x19 d := by kernel_rfl
noncomputable def f : FT := fP F19.f
def plan : Plan := .none
theorem planOk : PlanOk Try.prog (plan) (bodyOf Try.prog 9) := (planOk_of (plan) _ [] (by kernel_rfl) trivial)
theorem meets : MeetsF Try.prog 9 ⟨i, o, f⟩ :=
  funcT (fuel := 100) (depth := 10) (pl := (9, plan) :: pls F19.f) mixed tabS ⟨planOk, plsP⟩ (fun d => fe F19.f d)
theorem spec : SpecOk Try.prog (fun _ => none) 9 (specF ⟨i, o, f⟩) := specF_ok (by kernel_rfl) meets
end Go.Proofs.Ytemggodhikpmdaa.F9
