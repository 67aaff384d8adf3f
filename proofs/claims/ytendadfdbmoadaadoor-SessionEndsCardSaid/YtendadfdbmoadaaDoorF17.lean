/- What comes of function 17 of this program, (consulate.session.Machine).all, as the engine gives it. -/
import Derived.Test.YtendadfdbmoadaaDoorChecked
import Derived.Test.YtendadfdbmoadaaDoorZN
import Derived.Test.YtendadfdbmoadaaDoorF22
namespace Go.Proofs.YtendadfdbmoadaaDoor.F17
open Go Go.Proofs Go.Proofs.YtendadfdbmoadaaDoor Go.RowKit Go.Proofs.YtendadfdbmoadaaDoor.Sx
set_option linter.unusedVariables false
set_option maxRecDepth 100000
def tab (x22 : F22.FT) : List (FuncId × Sx.Spec) := [(22, specF ⟨F22.i, F22.o, x22⟩)]
def pls (x22 : F22.FT) : List (FuncId × Plan) := []
@[reducible] def i : Sh := .ag (.sc (.int .i64) (.sc (.int .i64) .nil)) (.ag (.sc (.int .i64) (.sc (.int .u8) (.sc (.int .i64) (.sc (.int .u8) (.sc (.int .u8) (.sl false 5 (.sc (.int .u8) .nil) .nil)))))) .nil)
@[reducible] def o : Sh := .ag (.sc (.int .i64) (.sc (.int .i64) .nil)) (.sl true 48 (.sc (.int .i64) (.sc (.int .u8) (.sc (.int .i64) (.sc (.int .u8) (.sc (.int .u8) (.sl false 5 (.sc (.int .u8) .nil) .nil)))))) (.sc .bool .nil))
abbrev FT := ((Int × Int) × (Int × Int × Int × Int × Int × List (Int))) → Option (((Int × Int) × (List (Int × Int × Int × Int × Int × List (Int))) × Bool) × Unit)
theorem tabS : AllS Tryd.prog (tab F22.f) := ⟨F22.spec, trivial⟩
theorem plsP : AllP Tryd.prog (pls F22.f) := trivial
theorem mixed : Tryd.prog.follows .mixedOrders = true := by kernel_rfl
def fP (x22 : F22.FT) : FT := fun ((m0, m1), (e0, e1, e2, e3, e4, e5)) =>
    bif decide (m0 < 4) then some (((m0, m1), [], false), PUnit.unit)
    else
      bif e0 == 5 then
        bif e1 == 3 then
          (x22 ((m0, m1), e0, e1, e2, 0, 0, [])).bind fun r0 =>
            bif decide (0 + List.length r0.fst.snd ≤ List.length r0.fst.snd) && true then
              some
                (((r0.fst.fst.fst, r0.fst.fst.snd), List.take (List.length r0.fst.snd) (List.drop 0 r0.fst.snd), true),
                  PUnit.unit)
            else none
        else
          bif e0 == 2 then
            (x22 ((m0, m1), e0, e1, e2, 6, 2, [])).bind fun r0 =>
              bif decide (0 + List.length r0.fst.snd ≤ List.length r0.fst.snd) && true then
                some
                  (((r0.fst.fst.fst, r0.fst.fst.snd), List.take (List.length r0.fst.snd) (List.drop 0 r0.fst.snd), true),
                    PUnit.unit)
              else none
          else
            bif e0 == 6 then
              bif e1 == 2 then
                (x22 ((m0, m1), e0, e1, e2, 4, 0, [])).bind fun r0 =>
                  bif decide (0 + List.length r0.fst.snd ≤ List.length r0.fst.snd) && true then
                    some
                      (((r0.fst.fst.fst, r0.fst.fst.snd), List.take (List.length r0.fst.snd) (List.drop 0 r0.fst.snd),
                          true),
                        PUnit.unit)
                  else none
              else
                bif e0 != 7 then
                  bif e0 != 8 then some (((m0, m1), [], false), PUnit.unit)
                  else
                    bif decide (0 + e5.length ≤ e5.length) && true then
                      (x22 ((m0, m1), e0, e1, e2, e3, e4, List.take e5.length e5)).bind fun r0 =>
                        bif decide (0 + List.length r0.fst.snd ≤ List.length r0.fst.snd) && true then
                          some
                            (((r0.fst.fst.fst, r0.fst.fst.snd),
                                List.take (List.length r0.fst.snd) (List.drop 0 r0.fst.snd), true),
                              PUnit.unit)
                        else none
                    else none
                else
                  bif decide (0 + e5.length ≤ e5.length) && true then
                    (x22 ((m0, m1), e0, e1, e2, e3, e4, List.take e5.length e5)).bind fun r0 =>
                      bif decide (0 + List.length r0.fst.snd ≤ List.length r0.fst.snd) && true then
                        some
                          (((r0.fst.fst.fst, r0.fst.fst.snd), List.take (List.length r0.fst.snd) (List.drop 0 r0.fst.snd),
                              true),
                            PUnit.unit)
                      else none
                  else none
            else
              bif e0 != 7 then
                bif e0 != 8 then some (((m0, m1), [], false), PUnit.unit)
                else
                  bif decide (0 + e5.length ≤ e5.length) && true then
                    (x22 ((m0, m1), e0, e1, e2, e3, e4, List.take e5.length e5)).bind fun r0 =>
                      bif decide (0 + List.length r0.fst.snd ≤ List.length r0.fst.snd) && true then
                        some
                          (((r0.fst.fst.fst, r0.fst.fst.snd), List.take (List.length r0.fst.snd) (List.drop 0 r0.fst.snd),
                              true),
                            PUnit.unit)
                      else none
                  else none
              else
                bif decide (0 + e5.length ≤ e5.length) && true then
                  (x22 ((m0, m1), e0, e1, e2, e3, e4, List.take e5.length e5)).bind fun r0 =>
                    bif decide (0 + List.length r0.fst.snd ≤ List.length r0.fst.snd) && true then
                      some
                        (((r0.fst.fst.fst, r0.fst.fst.snd), List.take (List.length r0.fst.snd) (List.drop 0 r0.fst.snd),
                            true),
                          PUnit.unit)
                    else none
                else none
      else
        bif e0 == 2 then
          (x22 ((m0, m1), e0, e1, e2, 6, 2, [])).bind fun r0 =>
            bif decide (0 + List.length r0.fst.snd ≤ List.length r0.fst.snd) && true then
              some
                (((r0.fst.fst.fst, r0.fst.fst.snd), List.take (List.length r0.fst.snd) (List.drop 0 r0.fst.snd), true),
                  PUnit.unit)
            else none
        else
          bif e0 == 6 then
            bif e1 == 2 then
              (x22 ((m0, m1), e0, e1, e2, 4, 0, [])).bind fun r0 =>
                bif decide (0 + List.length r0.fst.snd ≤ List.length r0.fst.snd) && true then
                  some
                    (((r0.fst.fst.fst, r0.fst.fst.snd), List.take (List.length r0.fst.snd) (List.drop 0 r0.fst.snd),
                        true),
                      PUnit.unit)
                else none
            else
              bif e0 != 7 then
                bif e0 != 8 then some (((m0, m1), [], false), PUnit.unit)
                else
                  bif decide (0 + e5.length ≤ e5.length) && true then
                    (x22 ((m0, m1), e0, e1, e2, e3, e4, List.take e5.length e5)).bind fun r0 =>
                      bif decide (0 + List.length r0.fst.snd ≤ List.length r0.fst.snd) && true then
                        some
                          (((r0.fst.fst.fst, r0.fst.fst.snd), List.take (List.length r0.fst.snd) (List.drop 0 r0.fst.snd),
                              true),
                            PUnit.unit)
                      else none
                  else none
              else
                bif decide (0 + e5.length ≤ e5.length) && true then
                  (x22 ((m0, m1), e0, e1, e2, e3, e4, List.take e5.length e5)).bind fun r0 =>
                    bif decide (0 + List.length r0.fst.snd ≤ List.length r0.fst.snd) && true then
                      some
                        (((r0.fst.fst.fst, r0.fst.fst.snd), List.take (List.length r0.fst.snd) (List.drop 0 r0.fst.snd),
                            true),
                          PUnit.unit)
                    else none
                else none
          else
            bif e0 != 7 then
              bif e0 != 8 then some (((m0, m1), [], false), PUnit.unit)
              else
                bif decide (0 + e5.length ≤ e5.length) && true then
                  (x22 ((m0, m1), e0, e1, e2, e3, e4, List.take e5.length e5)).bind fun r0 =>
                    bif decide (0 + List.length r0.fst.snd ≤ List.length r0.fst.snd) && true then
                      some
                        (((r0.fst.fst.fst, r0.fst.fst.snd), List.take (List.length r0.fst.snd) (List.drop 0 r0.fst.snd),
                            true),
                          PUnit.unit)
                    else none
                else none
            else
              bif decide (0 + e5.length ≤ e5.length) && true then
                (x22 ((m0, m1), e0, e1, e2, e3, e4, List.take e5.length e5)).bind fun r0 =>
                  bif decide (0 + List.length r0.fst.snd ≤ List.length r0.fst.snd) && true then
                    some
                      (((r0.fst.fst.fst, r0.fst.fst.snd), List.take (List.length r0.fst.snd) (List.drop 0 r0.fst.snd),
                          true),
                        PUnit.unit)
                  else none
              else none
theorem fe (x22 : F22.FT) (d : (Int × Int) × (Int × Int × Int × Int × Int × List (Int))) : bodyF (tabC Tryd.prog (tab x22) ((17, .none) :: pls x22) 100 10) 100 17 i o d = fP x22 d := by kernel_rfl
noncomputable def f : FT := fP F22.f
def plan : Plan := .none
theorem planOk : PlanOk Tryd.prog (plan) (bodyOf Tryd.prog 17) := (planOk_of (plan) _ [] (by kernel_rfl) trivial)
theorem meets : MeetsF Tryd.prog 17 ⟨i, o, f⟩ :=
  funcT (fuel := 100) (depth := 10) (pl := (17, plan) :: pls F22.f) mixed tabS ⟨planOk, plsP⟩ (fun d => fe F22.f d)
theorem spec : SpecOk Tryd.prog (fun _ => none) 17 (specF ⟨i, o, f⟩) := specF_ok (by kernel_rfl) meets
end Go.Proofs.YtendadfdbmoadaaDoor.F17
