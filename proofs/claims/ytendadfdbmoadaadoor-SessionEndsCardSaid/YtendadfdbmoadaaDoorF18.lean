/- What comes of function 18 of this program, consulate.consulateref14.early, as the engine gives it. -/
import Derived.Test.YtendadfdbmoadaaDoorChecked
import Derived.Test.YtendadfdbmoadaaDoorZN
import Derived.Test.YtendadfdbmoadaaDoorF19
namespace Go.Proofs.YtendadfdbmoadaaDoor.F18
open Go Go.Proofs Go.Proofs.YtendadfdbmoadaaDoor Go.RowKit Go.Proofs.YtendadfdbmoadaaDoor.Sx
set_option linter.unusedVariables false
set_option maxRecDepth 100000
def tab (x19 : F19.FT) : List (FuncId × Sx.Spec) := [(19, specF ⟨F19.i, F19.o, x19⟩)]
def pls (x19 : F19.FT) : List (FuncId × Plan) := []
@[reducible] def i : Sh := .ag (.sc (.int .i64) (.sc (.int .i64) .nil)) (.ag (.sc (.int .i64) (.sc (.int .i64) (.sc (.int .i64) (.sc (.int .i64) (.sc (.int .i64) (.sl false 5 (.sc (.int .u8) .nil) .nil)))))) .nil)
@[reducible] def o : Sh := .ag (.sc (.int .i64) (.sc (.int .i64) .nil)) (.sl true 63 (.sc (.int .i64) (.sc (.int .i64) (.sc (.int .i64) (.sc (.int .i64) (.sc (.int .i64) (.sl false 5 (.sc (.int .u8) .nil) .nil)))))) .nil)
abbrev FT := ((Int × Int) × (Int × Int × Int × Int × Int × List (Int))) → Option (((Int × Int) × (List (Int × Int × Int × Int × Int × List (Int)))) × Unit)
theorem tabS : AllS Tryd.prog (tab F19.f) := ⟨F19.spec, trivial⟩
theorem plsP : AllP Tryd.prog (pls F19.f) := trivial
theorem mixed : Tryd.prog.follows .mixedOrders = true := by kernel_rfl
def fP (x19 : F19.FT) : FT := fun ((m0, m1), (e0, e1, e2, e3, e4, e5)) =>
    bif e0 == 6 then
      bif m0 == 1 then
        bif e0 == 1 then some (((2, 0), [(3, 1, 120, 0, 0, []), (6, 0, 0, 0, 0, [])]), PUnit.unit)
        else
          bif e1 == 1 then some (((2, 0), [(3, 1, 120, 0, 0, []), (6, 0, 0, 0, 0, [])]), PUnit.unit)
          else
            bif e0 == 2 then some (((m0, m1), [(4, 1, 0, 0, 0, [])]), PUnit.unit) else some (((m0, m1), []), PUnit.unit)
      else
        bif e0 == 2 then
          (x19 (m0, 2, 0, 0, [])).bind fun r0 =>
            bif decide (0 + List.length r0.fst.snd ≤ List.length r0.fst.snd) && true then
              some
                (((r0.fst.fst.fst, r0.fst.fst.snd), List.take (List.length r0.fst.snd) (List.drop 0 r0.fst.snd)),
                  PUnit.unit)
            else none
        else
          bif e0 == 3 then some (((4, 0), [(4, 1, 0, 0, 0, []), (1, 1, 0, 0, 0, []), (3, 2, 240, 0, 0, [])]), PUnit.unit)
          else
            bif e0 == 4 then some (((3, 0), [(3, 1, 120, 0, 0, [])]), PUnit.unit)
            else
              bif e1 == 1 then some (((2, 0), [(3, 1, 120, 0, 0, []), (6, 0, 0, 0, 0, [])]), PUnit.unit)
              else some (((m0, m1), []), PUnit.unit)
    else
      bif m0 == 1 then
        bif e0 == 1 then some (((2, 0), [(3, 1, 120, 0, 0, []), (6, 0, 0, 0, 0, [])]), PUnit.unit)
        else bif e0 == 2 then some (((m0, m1), [(4, 1, 0, 0, 0, [])]), PUnit.unit) else some (((m0, m1), []), PUnit.unit)
      else
        bif e0 == 2 then
          (x19 (m0, 2, 0, 0, [])).bind fun r0 =>
            bif decide (0 + List.length r0.fst.snd ≤ List.length r0.fst.snd) && true then
              some
                (((r0.fst.fst.fst, r0.fst.fst.snd), List.take (List.length r0.fst.snd) (List.drop 0 r0.fst.snd)),
                  PUnit.unit)
            else none
        else
          bif e0 == 3 then some (((4, 0), [(4, 1, 0, 0, 0, []), (1, 1, 0, 0, 0, []), (3, 2, 240, 0, 0, [])]), PUnit.unit)
          else
            bif e0 == 4 then some (((3, 0), [(3, 1, 120, 0, 0, [])]), PUnit.unit) else some (((m0, m1), []), PUnit.unit)
theorem fe (x19 : F19.FT) (d : (Int × Int) × (Int × Int × Int × Int × Int × List (Int))) : bodyF (tabC Tryd.prog (tab x19) ((18, .none) :: pls x19) 100 10) 100 18 i o d = fP x19 d := by kernel_rfl
noncomputable def f : FT := fP F19.f
def plan : Plan := .none
theorem planOk : PlanOk Tryd.prog (plan) (bodyOf Tryd.prog 18) := (planOk_of (plan) _ [] (by kernel_rfl) trivial)
theorem meets : MeetsF Tryd.prog 18 ⟨i, o, f⟩ :=
  funcT (fuel := 100) (depth := 10) (pl := (18, plan) :: pls F19.f) mixed tabS ⟨planOk, plsP⟩ (fun d => fe F19.f d)
theorem spec : SpecOk Tryd.prog (fun _ => none) 18 (specF ⟨i, o, f⟩) := specF_ok (by kernel_rfl) meets
end Go.Proofs.YtendadfdbmoadaaDoor.F18
