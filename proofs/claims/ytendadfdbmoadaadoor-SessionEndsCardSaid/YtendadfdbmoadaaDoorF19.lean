/- What comes of function 19 of this program, consulate.consulateref14.ends, as the engine gives it. -/
import Derived.Test.YtendadfdbmoadaaDoorChecked
import Derived.Test.YtendadfdbmoadaaDoorZN
namespace Go.Proofs.YtendadfdbmoadaaDoor.F19
open Go Go.Proofs Go.Proofs.YtendadfdbmoadaaDoor Go.RowKit Go.Proofs.YtendadfdbmoadaaDoor.Sx
set_option linter.unusedVariables false
set_option maxRecDepth 100000
def tab : List (FuncId × Sx.Spec) := []
def pls : List (FuncId × Plan) := []
@[reducible] def i : Sh := .sc (.int .i64) (.sc (.int .i64) (.sc (.int .i64) (.sc (.int .i64) (.sl false 5 (.sc (.int .u8) .nil) .nil))))
@[reducible] def o : Sh := .ag (.sc (.int .i64) (.sc (.int .i64) .nil)) (.sl true 63 (.sc (.int .i64) (.sc (.int .i64) (.sc (.int .i64) (.sc (.int .i64) (.sc (.int .i64) (.sl false 5 (.sc (.int .u8) .nil) .nil)))))) .nil)
abbrev FT := (Int × Int × Int × Int × List (Int)) → Option (((Int × Int) × (List (Int × Int × Int × Int × Int × List (Int)))) × Unit)
theorem tabS : AllS Tryd.prog (tab) := trivial
theorem plsP : AllP Tryd.prog (pls) := trivial
theorem mixed : Tryd.prog.follows .mixedOrders = true := by kernel_rfl
def fP : FT := fun (state, kind, code, sub, data) =>
    bif code != 0 then
      bif state == 6 then
        bif kind != 2 then
          bif decide (0 + data.length ≤ data.length) && true then
            some
              (((1, 0),
                  [(2, 0, 0, code, sub, List.take data.length data), (5, 0, 0, 0, 0, []), (4, 1, 0, 0, 0, []),
                    (4, 2, 0, 0, 0, []), (4, 3, 0, 0, 0, []), (8, 0, 0, 0, 0, []), (3, 1, 120, 0, 0, [])]),
                PUnit.unit)
          else none
        else
          bif decide (0 + data.length ≤ data.length) && true then
            some
              (((1, 0),
                  [(2, 0, 0, code, sub, List.take data.length data), (5, 0, 0, 0, 0, []), (4, 1, 0, 0, 0, []),
                    (4, 2, 0, 0, 0, []), (4, 3, 0, 0, 0, []), (8, 0, 0, 0, 0, [])]),
                PUnit.unit)
          else none
      else
        bif kind != 2 then
          bif decide (0 + data.length ≤ data.length) && true then
            some
              (((1, 0),
                  [(2, 0, 0, code, sub, List.take data.length data), (5, 0, 0, 0, 0, []), (4, 1, 0, 0, 0, []),
                    (4, 2, 0, 0, 0, []), (4, 3, 0, 0, 0, []), (3, 1, 120, 0, 0, [])]),
                PUnit.unit)
          else none
        else
          bif decide (0 + data.length ≤ data.length) && true then
            some
              (((1, 0),
                  [(2, 0, 0, code, sub, List.take data.length data), (5, 0, 0, 0, 0, []), (4, 1, 0, 0, 0, []),
                    (4, 2, 0, 0, 0, []), (4, 3, 0, 0, 0, [])]),
                PUnit.unit)
          else none
    else
      bif sub != 0 then
        bif state == 6 then
          bif kind != 2 then
            bif decide (0 + data.length ≤ data.length) && true then
              some
                (((1, 0),
                    [(2, 0, 0, code, sub, List.take data.length data), (5, 0, 0, 0, 0, []), (4, 1, 0, 0, 0, []),
                      (4, 2, 0, 0, 0, []), (4, 3, 0, 0, 0, []), (8, 0, 0, 0, 0, []), (3, 1, 120, 0, 0, [])]),
                  PUnit.unit)
            else none
          else
            bif decide (0 + data.length ≤ data.length) && true then
              some
                (((1, 0),
                    [(2, 0, 0, code, sub, List.take data.length data), (5, 0, 0, 0, 0, []), (4, 1, 0, 0, 0, []),
                      (4, 2, 0, 0, 0, []), (4, 3, 0, 0, 0, []), (8, 0, 0, 0, 0, [])]),
                  PUnit.unit)
            else none
        else
          bif kind != 2 then
            bif decide (0 + data.length ≤ data.length) && true then
              some
                (((1, 0),
                    [(2, 0, 0, code, sub, List.take data.length data), (5, 0, 0, 0, 0, []), (4, 1, 0, 0, 0, []),
                      (4, 2, 0, 0, 0, []), (4, 3, 0, 0, 0, []), (3, 1, 120, 0, 0, [])]),
                  PUnit.unit)
            else none
          else
            bif decide (0 + data.length ≤ data.length) && true then
              some
                (((1, 0),
                    [(2, 0, 0, code, sub, List.take data.length data), (5, 0, 0, 0, 0, []), (4, 1, 0, 0, 0, []),
                      (4, 2, 0, 0, 0, []), (4, 3, 0, 0, 0, [])]),
                  PUnit.unit)
            else none
      else
        bif state == 6 then
          bif kind != 2 then
            some
              (((1, 0),
                  [(5, 0, 0, 0, 0, []), (4, 1, 0, 0, 0, []), (4, 2, 0, 0, 0, []), (4, 3, 0, 0, 0, []),
                    (8, 0, 0, 0, 0, []), (3, 1, 120, 0, 0, [])]),
                PUnit.unit)
          else
            some
              (((1, 0),
                  [(5, 0, 0, 0, 0, []), (4, 1, 0, 0, 0, []), (4, 2, 0, 0, 0, []), (4, 3, 0, 0, 0, []),
                    (8, 0, 0, 0, 0, [])]),
                PUnit.unit)
        else
          bif kind != 2 then
            some
              (((1, 0),
                  [(5, 0, 0, 0, 0, []), (4, 1, 0, 0, 0, []), (4, 2, 0, 0, 0, []), (4, 3, 0, 0, 0, []),
                    (3, 1, 120, 0, 0, [])]),
                PUnit.unit)
          else
            some
              (((1, 0), [(5, 0, 0, 0, 0, []), (4, 1, 0, 0, 0, []), (4, 2, 0, 0, 0, []), (4, 3, 0, 0, 0, [])]), PUnit.unit)
theorem fe (d : Int × Int × Int × Int × List (Int)) : bodyF (tabC Tryd.prog (tab) ((19, .none) :: pls) 100 10) 100 19 i o d = fP d := by kernel_rfl
noncomputable def f : FT := fP
def plan : Plan := .none
theorem planOk : PlanOk Tryd.prog (plan) (bodyOf Tryd.prog 19) := (planOk_of (plan) _ [] (by kernel_rfl) trivial)
theorem meets : MeetsF Tryd.prog 19 ⟨i, o, f⟩ :=
  funcT (fuel := 100) (depth := 10) (pl := (19, plan) :: pls) mixed tabS ⟨planOk, plsP⟩ (fun d => fe  d)
theorem spec : SpecOk Tryd.prog (fun _ => none) 19 (specF ⟨i, o, f⟩) := specF_ok (by kernel_rfl) meets
end Go.Proofs.YtendadfdbmoadaaDoor.F19
