/- What comes of function 16 of this program, consulate.session.clean, as the engine gives it. -/
import Derived.Test.YtendadfdbmoadaaDoorChecked
import Derived.Test.YtendadfdbmoadaaDoorZN
namespace Go.Proofs.YtendadfdbmoadaaDoor.F16
open Go Go.Proofs Go.Proofs.YtendadfdbmoadaaDoor Go.RowKit Go.Proofs.YtendadfdbmoadaaDoor.Sx
set_option linter.unusedVariables false
set_option maxRecDepth 100000
def tab : List (FuncId × Sx.Spec) := []
def pls : List (FuncId × Plan) := []
@[reducible] def i : Sh := .ag (.sc (.int .i64) (.sc (.int .i64) .nil)) (.ag (.sc (.int .i64) (.sc (.int .u8) (.sc (.int .i64) (.sc (.int .u8) (.sc (.int .u8) (.sl false 5 (.sc (.int .u8) .nil) .nil)))))) .nil)
@[reducible] def o : Sh := .ag (.sc (.int .i64) (.sc (.int .i64) .nil)) (.ag (.sc (.int .i64) (.sc (.int .u8) (.sc (.int .i64) (.sc (.int .u8) (.sc (.int .u8) (.sl false 5 (.sc (.int .u8) .nil) .nil)))))) .nil)
abbrev FT := ((Int × Int) × (Int × Int × Int × Int × Int × List (Int))) → Option (((Int × Int) × (Int × Int × Int × Int × Int × List (Int))) × Unit)
theorem tabS : AllS Tryd.prog (tab) := trivial
theorem plsP : AllP Tryd.prog (pls) := trivial
theorem mixed : Tryd.prog.follows .mixedOrders = true := by kernel_rfl
def fP : FT := fun ((m0, m1), (e0, e1, e2, e3, e4, e5)) =>
    bif decide (m0 < 1) then
      bif e0 != 5 then
        bif decide (0 + e5.length ≤ e5.length) && true then
          some (((1, 0), e0, e1, e2, e3, e4, List.take e5.length e5), PUnit.unit)
        else none
      else
        bif decide (e2 < 0) then
          bif decide (e1 < 1) then some (((1, 0), 7, e1, e2, 1, 3, []), PUnit.unit)
          else
            bif decide (e1 > 5) then some (((1, 0), 7, e1, e2, 1, 3, []), PUnit.unit)
            else
              bif e1 == 1 then some (((1, 0), 7, e1, e2, 2, 6, []), PUnit.unit)
              else
                bif decide (0 + e5.length ≤ e5.length) && true then
                  some (((1, 0), e0, e1, e2, e3, e4, List.take e5.length e5), PUnit.unit)
                else none
        else
          bif e2 == 1 then
            bif decide (e1 < 1) then some (((1, 0), 7, e1, e2, 1, 3, []), PUnit.unit)
            else
              bif decide (e1 > 5) then some (((1, 0), 7, e1, e2, 1, 3, []), PUnit.unit)
              else
                bif e1 == 1 then some (((1, 0), 7, e1, e2, 2, 6, []), PUnit.unit)
                else
                  bif decide (0 + e5.length ≤ e5.length) && true then
                    some (((1, 0), e0, e1, e2, e3, e4, List.take e5.length e5), PUnit.unit)
                  else none
          else
            bif e2 == 2 then
              bif decide (e1 < 1) then some (((1, 0), 7, e1, e2, 1, 3, []), PUnit.unit)
              else
                bif decide (e1 > 5) then some (((1, 0), 7, e1, e2, 1, 3, []), PUnit.unit)
                else
                  bif e1 == 1 then some (((1, 0), 7, e1, e2, 2, 6, []), PUnit.unit)
                  else
                    bif decide (0 + e5.length ≤ e5.length) && true then
                      some (((1, 0), e0, e1, e2, e3, e4, List.take e5.length e5), PUnit.unit)
                    else none
            else
              bif decide (e1 < 1) then some (((1, 0), 7, e1, e2, 1, 3, []), PUnit.unit)
              else
                bif decide (e1 > 5) then some (((1, 0), 7, e1, e2, 1, 3, []), PUnit.unit)
                else
                  bif e1 == 1 then
                    bif decide (e2 > 65535) then some (((1, 0), 7, e1, e2, 2, 6, []), PUnit.unit)
                    else
                      bif decide (0 + e5.length ≤ e5.length) && true then
                        some (((1, 0), e0, e1, e2, e3, e4, List.take e5.length e5), PUnit.unit)
                      else none
                  else
                    bif decide (0 + e5.length ≤ e5.length) && true then
                      some (((1, 0), e0, e1, e2, e3, e4, List.take e5.length e5), PUnit.unit)
                    else none
    else
      bif decide (m0 > 6) then
        bif e0 != 5 then
          bif decide (0 + e5.length ≤ e5.length) && true then
            some (((1, 0), e0, e1, e2, e3, e4, List.take e5.length e5), PUnit.unit)
          else none
        else
          bif decide (e2 < 0) then
            bif decide (e1 < 1) then some (((1, 0), 7, e1, e2, 1, 3, []), PUnit.unit)
            else
              bif decide (e1 > 5) then some (((1, 0), 7, e1, e2, 1, 3, []), PUnit.unit)
              else
                bif e1 == 1 then some (((1, 0), 7, e1, e2, 2, 6, []), PUnit.unit)
                else
                  bif decide (0 + e5.length ≤ e5.length) && true then
                    some (((1, 0), e0, e1, e2, e3, e4, List.take e5.length e5), PUnit.unit)
                  else none
          else
            bif e2 == 1 then
              bif decide (e1 < 1) then some (((1, 0), 7, e1, e2, 1, 3, []), PUnit.unit)
              else
                bif decide (e1 > 5) then some (((1, 0), 7, e1, e2, 1, 3, []), PUnit.unit)
                else
                  bif e1 == 1 then some (((1, 0), 7, e1, e2, 2, 6, []), PUnit.unit)
                  else
                    bif decide (0 + e5.length ≤ e5.length) && true then
                      some (((1, 0), e0, e1, e2, e3, e4, List.take e5.length e5), PUnit.unit)
                    else none
            else
              bif e2 == 2 then
                bif decide (e1 < 1) then some (((1, 0), 7, e1, e2, 1, 3, []), PUnit.unit)
                else
                  bif decide (e1 > 5) then some (((1, 0), 7, e1, e2, 1, 3, []), PUnit.unit)
                  else
                    bif e1 == 1 then some (((1, 0), 7, e1, e2, 2, 6, []), PUnit.unit)
                    else
                      bif decide (0 + e5.length ≤ e5.length) && true then
                        some (((1, 0), e0, e1, e2, e3, e4, List.take e5.length e5), PUnit.unit)
                      else none
              else
                bif decide (e1 < 1) then some (((1, 0), 7, e1, e2, 1, 3, []), PUnit.unit)
                else
                  bif decide (e1 > 5) then some (((1, 0), 7, e1, e2, 1, 3, []), PUnit.unit)
                  else
                    bif e1 == 1 then
                      bif decide (e2 > 65535) then some (((1, 0), 7, e1, e2, 2, 6, []), PUnit.unit)
                      else
                        bif decide (0 + e5.length ≤ e5.length) && true then
                          some (((1, 0), e0, e1, e2, e3, e4, List.take e5.length e5), PUnit.unit)
                        else none
                    else
                      bif decide (0 + e5.length ≤ e5.length) && true then
                        some (((1, 0), e0, e1, e2, e3, e4, List.take e5.length e5), PUnit.unit)
                      else none
      else
        bif decide (m0 < 5) then
          bif e0 != 5 then
            bif decide (0 + e5.length ≤ e5.length) && true then
              some (((m0, 0), e0, e1, e2, e3, e4, List.take e5.length e5), PUnit.unit)
            else none
          else
            bif decide (e2 < 0) then
              bif decide (e1 < 1) then some (((m0, 0), 7, e1, e2, 1, 3, []), PUnit.unit)
              else
                bif decide (e1 > 5) then some (((m0, 0), 7, e1, e2, 1, 3, []), PUnit.unit)
                else
                  bif e1 == 1 then some (((m0, 0), 7, e1, e2, 2, 6, []), PUnit.unit)
                  else
                    bif decide (0 + e5.length ≤ e5.length) && true then
                      some (((m0, 0), e0, e1, e2, e3, e4, List.take e5.length e5), PUnit.unit)
                    else none
            else
              bif e2 == 1 then
                bif decide (e1 < 1) then some (((m0, 0), 7, e1, e2, 1, 3, []), PUnit.unit)
                else
                  bif decide (e1 > 5) then some (((m0, 0), 7, e1, e2, 1, 3, []), PUnit.unit)
                  else
                    bif e1 == 1 then some (((m0, 0), 7, e1, e2, 2, 6, []), PUnit.unit)
                    else
                      bif decide (0 + e5.length ≤ e5.length) && true then
                        some (((m0, 0), e0, e1, e2, e3, e4, List.take e5.length e5), PUnit.unit)
                      else none
              else
                bif e2 == 2 then
                  bif decide (e1 < 1) then some (((m0, 0), 7, e1, e2, 1, 3, []), PUnit.unit)
                  else
                    bif decide (e1 > 5) then some (((m0, 0), 7, e1, e2, 1, 3, []), PUnit.unit)
                    else
                      bif e1 == 1 then some (((m0, 0), 7, e1, e2, 2, 6, []), PUnit.unit)
                      else
                        bif decide (0 + e5.length ≤ e5.length) && true then
                          some (((m0, 0), e0, e1, e2, e3, e4, List.take e5.length e5), PUnit.unit)
                        else none
                else
                  bif decide (e1 < 1) then some (((m0, 0), 7, e1, e2, 1, 3, []), PUnit.unit)
                  else
                    bif decide (e1 > 5) then some (((m0, 0), 7, e1, e2, 1, 3, []), PUnit.unit)
                    else
                      bif e1 == 1 then
                        bif decide (e2 > 65535) then some (((m0, 0), 7, e1, e2, 2, 6, []), PUnit.unit)
                        else
                          bif decide (0 + e5.length ≤ e5.length) && true then
                            some (((m0, 0), e0, e1, e2, e3, e4, List.take e5.length e5), PUnit.unit)
                          else none
                      else
                        bif decide (0 + e5.length ≤ e5.length) && true then
                          some (((m0, 0), e0, e1, e2, e3, e4, List.take e5.length e5), PUnit.unit)
                        else none
        else
          bif e0 != 5 then
            bif decide (0 + e5.length ≤ e5.length) && true then
              some (((m0, m1), e0, e1, e2, e3, e4, List.take e5.length e5), PUnit.unit)
            else none
          else
            bif decide (e2 < 0) then
              bif decide (e1 < 1) then some (((m0, m1), 7, e1, e2, 1, 3, []), PUnit.unit)
              else
                bif decide (e1 > 5) then some (((m0, m1), 7, e1, e2, 1, 3, []), PUnit.unit)
                else
                  bif e1 == 1 then some (((m0, m1), 7, e1, e2, 2, 6, []), PUnit.unit)
                  else
                    bif decide (0 + e5.length ≤ e5.length) && true then
                      some (((m0, m1), e0, e1, e2, e3, e4, List.take e5.length e5), PUnit.unit)
                    else none
            else
              bif e2 == 1 then
                bif decide (e1 < 1) then some (((m0, m1), 7, e1, e2, 1, 3, []), PUnit.unit)
                else
                  bif decide (e1 > 5) then some (((m0, m1), 7, e1, e2, 1, 3, []), PUnit.unit)
                  else
                    bif e1 == 1 then some (((m0, m1), 7, e1, e2, 2, 6, []), PUnit.unit)
                    else
                      bif decide (0 + e5.length ≤ e5.length) && true then
                        some (((m0, m1), e0, e1, e2, e3, e4, List.take e5.length e5), PUnit.unit)
                      else none
              else
                bif e2 == 2 then
                  bif decide (e1 < 1) then some (((m0, m1), 7, e1, e2, 1, 3, []), PUnit.unit)
                  else
                    bif decide (e1 > 5) then some (((m0, m1), 7, e1, e2, 1, 3, []), PUnit.unit)
                    else
                      bif e1 == 1 then some (((m0, m1), 7, e1, e2, 2, 6, []), PUnit.unit)
                      else
                        bif decide (0 + e5.length ≤ e5.length) && true then
                          some (((m0, m1), e0, e1, e2, e3, e4, List.take e5.length e5), PUnit.unit)
                        else none
                else
                  bif decide (e1 < 1) then some (((m0, m1), 7, e1, e2, 1, 3, []), PUnit.unit)
                  else
                    bif decide (e1 > 5) then some (((m0, m1), 7, e1, e2, 1, 3, []), PUnit.unit)
                    else
                      bif e1 == 1 then
                        bif decide (e2 > 65535) then some (((m0, m1), 7, e1, e2, 2, 6, []), PUnit.unit)
                        else
                          bif decide (0 + e5.length ≤ e5.length) && true then
                            some (((m0, m1), e0, e1, e2, e3, e4, List.take e5.length e5), PUnit.unit)
                          else none
                      else
                        bif decide (0 + e5.length ≤ e5.length) && true then
                          some (((m0, m1), e0, e1, e2, e3, e4, List.take e5.length e5), PUnit.unit)
                        else none
theorem fe (d : (Int × Int) × (Int × Int × Int × Int × Int × List (Int))) : bodyF (tabC Tryd.prog (tab) ((16, .none) :: pls) 100 10) 100 16 i o d = fP d := by kernel_rfl
noncomputable def f : FT := fP
def plan : Plan := .none
theorem planOk : PlanOk Tryd.prog (plan) (bodyOf Tryd.prog 16) := (planOk_of (plan) _ [] (by kernel_rfl) trivial)
theorem meets : MeetsF Tryd.prog 16 ⟨i, o, f⟩ :=
  funcT (fuel := 100) (depth := 10) (pl := (16, plan) :: pls) mixed tabS ⟨planOk, plsP⟩ (fun d => fe  d)
theorem spec : SpecOk Tryd.prog (fun _ => none) 16 (specF ⟨i, o, f⟩) := specF_ok (by kernel_rfl) meets
end Go.Proofs.YtendadfdbmoadaaDoor.F16
