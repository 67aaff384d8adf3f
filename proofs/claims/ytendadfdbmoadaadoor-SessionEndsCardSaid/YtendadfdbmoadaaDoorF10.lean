/- What comes of function 10 of this program, consulate.consulateref14.Do, as the engine gives it. -/
import Derived.Test.YtendadfdbmoadaaDoorChecked
import Derived.Test.YtendadfdbmoadaaDoorZN
import Derived.Test.YtendadfdbmoadaaDoorF18
import Derived.Test.YtendadfdbmoadaaDoorF19
import Derived.Test.YtendadfdbmoadaaDoorF20
namespace Go.Proofs.YtendadfdbmoadaaDoor.F10
open Go Go.Proofs Go.Proofs.YtendadfdbmoadaaDoor Go.RowKit Go.Proofs.YtendadfdbmoadaaDoor.Sx
set_option linter.unusedVariables false
set_option maxRecDepth 100000
def tab (x18 : F18.FT) (x19 : F19.FT) (x20 : F20.FT) : List (FuncId × Sx.Spec) := [(18, specF ⟨F18.i, F18.o, x18⟩), (19, specF ⟨F19.i, F19.o, x19⟩), (20, specF ⟨F20.i, F20.o, x20⟩)]
def pls (x18 : F18.FT) (x19 : F19.FT) (x20 : F20.FT) : List (FuncId × Plan) := []
@[reducible] def k1 : Sh := .nil
@[reducible] def i1 : Sh := .pt true 26 (.sc (.int .i64) (.sc (.int .i64) .nil)) .nil
@[reducible] def o1 : Sh := .nil
abbrev G1 := Unit → ((Int × Int)) → Option (Unit × ((Int × Int)))
def u1 (F : G1) : Un := ⟨156, [], k1, [2], i1, [], o1, [2, 3, 4], [(.normal, [])], F⟩
@[reducible] def k2 : Sh := .nil
@[reducible] def i2 : Sh := .pt true 26 (.sc (.int .i64) (.sc (.int .i64) .nil)) .nil
@[reducible] def o2 : Sh := .nil
abbrev G2 := Unit → ((Int × Int)) → Option (Unit × ((Int × Int)))
def u2 (F : G2) : Un := ⟨156, [], k2, [2], i2, [], o2, [2, 3, 4], [(.normal, [])], F⟩
@[reducible] def k3 : Sh := .nil
@[reducible] def i3 : Sh := .pt true 39 (.sc (.int .i64) (.sc (.int .i64) (.sc (.int .i64) (.sc (.int .i64) (.sc (.int .i64) (.sl false 5 (.sc (.int .u8) .nil) .nil)))))) .nil
@[reducible] def o3 : Sh := .nil
abbrev G3 := Unit → ((Int × Int × Int × Int × Int × List (Int))) → Option (Unit × ((Int × Int × Int × Int × Int × List (Int))))
def u3 (F : G3) : Un := ⟨156, [], k3, [3], i3, [], o3, [2, 3, 4], [(.normal, [])], F⟩
@[reducible] def k4 : Sh := .nil
@[reducible] def i4 : Sh := .pt true 39 (.sc (.int .i64) (.sc (.int .i64) (.sc (.int .i64) (.sc (.int .i64) (.sc (.int .i64) (.sl false 5 (.sc (.int .u8) .nil) .nil)))))) .nil
@[reducible] def o4 : Sh := .nil
abbrev G4 := Unit → ((Int × Int × Int × Int × Int × List (Int))) → Option (Unit × ((Int × Int × Int × Int × Int × List (Int))))
def u4 (F : G4) : Un := ⟨156, [], k4, [3], i4, [], o4, [2, 3, 4], [(.normal, [])], F⟩
@[reducible] def i : Sh := .ag (.sc (.int .i64) (.sc (.int .i64) .nil)) (.ag (.sc (.int .i64) (.sc (.int .i64) (.sc (.int .i64) (.sc (.int .i64) (.sc (.int .i64) (.sl false 5 (.sc (.int .u8) .nil) .nil)))))) .nil)
@[reducible] def o : Sh := .ag (.sc (.int .i64) (.sc (.int .i64) .nil)) (.sl true 63 (.sc (.int .i64) (.sc (.int .i64) (.sc (.int .i64) (.sc (.int .i64) (.sc (.int .i64) (.sl false 5 (.sc (.int .u8) .nil) .nil)))))) .nil)
abbrev FT := ((Int × Int) × (Int × Int × Int × Int × Int × List (Int))) → Option (((Int × Int) × (List (Int × Int × Int × Int × Int × List (Int)))) × Unit)
theorem tabS : AllS Tryd.prog (tab F18.f F19.f F20.f) := ⟨F18.spec, F19.spec, F20.spec, trivial⟩
theorem plsP : AllP Tryd.prog (pls F18.f F19.f F20.f) := trivial
theorem mixed : Tryd.prog.follows .mixedOrders = true := by kernel_rfl
def r1P (x18 : F18.FT) (x19 : F19.FT) (x20 : F20.FT) : G1 := fun () (m0, m1) =>
    bif decide (m0 < 1) then some (PUnit.unit, 1, m1)
    else bif decide (m0 > 6) then some (PUnit.unit, 1, m1) else some (PUnit.unit, m0, m1)
theorem r1e (x18 : F18.FT) (x19 : F19.FT) (x20 : F20.FT) (kd : Unit) (d : (Int × Int)) : unitF (tabC Tryd.prog (tab x18 x19 x20) (pls x18 x19 x20) 100 10) 100 .none (u1 fun _ _ => none) (codeAt [1, 0] (bodyOf Tryd.prog 10)) kd d = r1P x18 x19 x20 kd d := by kernel_rfl
noncomputable def r1 : G1 := r1P F18.f F19.f F20.f
noncomputable def l1 : G1 := r1
theorem ok1 : UnOk Tryd.prog (u1 l1) (codeAt [1, 0] (bodyOf Tryd.prog 10)) :=
  blockT (p := .none) (fuel := 100) (depth := 10) mixed tabS plsP trivial (fun kd d => r1e F18.f F19.f F20.f kd d)
def r2P (x18 : F18.FT) (x19 : F19.FT) (x20 : F20.FT) : G2 := fun () (m0, m1) =>
   bif decide (m0 < 5) then some (PUnit.unit, m0, 0) else some (PUnit.unit, m0, m1)
theorem r2e (x18 : F18.FT) (x19 : F19.FT) (x20 : F20.FT) (kd : Unit) (d : (Int × Int)) : unitF (tabC Tryd.prog (tab x18 x19 x20) (pls x18 x19 x20) 100 10) 100 .none (u2 fun _ _ => none) (codeAt [1, 1, 0] (bodyOf Tryd.prog 10)) kd d = r2P x18 x19 x20 kd d := by kernel_rfl
noncomputable def r2 : G2 := r2P F18.f F19.f F20.f
noncomputable def l2 : G2 := r2
theorem ok2 : UnOk Tryd.prog (u2 l2) (codeAt [1, 1, 0] (bodyOf Tryd.prog 10)) :=
  blockT (p := .none) (fuel := 100) (depth := 10) mixed tabS plsP trivial (fun kd d => r2e F18.f F19.f F20.f kd d)
def r3P (x18 : F18.FT) (x19 : F19.FT) (x20 : F20.FT) : G3 := fun () (e0, e1, e2, e3, e4, e5) =>
    bif e0 == 5 then
      bif decide (e1 < 1) then some (PUnit.unit, 7, 0, 0, 1, 3, [])
      else bif decide (e1 > 5) then some (PUnit.unit, 7, 0, 0, 1, 3, []) else some (PUnit.unit, e0, e1, e2, e3, e4, e5)
    else some (PUnit.unit, e0, e1, e2, e3, e4, e5)
theorem r3e (x18 : F18.FT) (x19 : F19.FT) (x20 : F20.FT) (kd : Unit) (d : (Int × Int × Int × Int × Int × List (Int))) : unitF (tabC Tryd.prog (tab x18 x19 x20) (pls x18 x19 x20) 100 10) 100 .none (u3 fun _ _ => none) (codeAt [1, 1, 1, 0] (bodyOf Tryd.prog 10)) kd d = r3P x18 x19 x20 kd d := by kernel_rfl
noncomputable def r3 : G3 := r3P F18.f F19.f F20.f
noncomputable def l3 : G3 := r3
theorem ok3 : UnOk Tryd.prog (u3 l3) (codeAt [1, 1, 1, 0] (bodyOf Tryd.prog 10)) :=
  blockT (p := .none) (fuel := 100) (depth := 10) mixed tabS plsP trivial (fun kd d => r3e F18.f F19.f F20.f kd d)
def r4P (x18 : F18.FT) (x19 : F19.FT) (x20 : F20.FT) : G4 := fun () (e0, e1, e2, e3, e4, e5) =>
    bif e0 == 5 then
      bif e1 == 1 then
        bif decide (e2 < 0) then some (PUnit.unit, 7, 0, 0, 2, 6, [])
        else
          bif e2 == 1 then some (PUnit.unit, 7, 0, 0, 2, 6, [])
          else
            bif e2 == 2 then some (PUnit.unit, 7, 0, 0, 2, 6, [])
            else
              bif decide (e2 > 65535) then some (PUnit.unit, 7, 0, 0, 2, 6, [])
              else some (PUnit.unit, e0, e1, e2, e3, e4, e5)
      else some (PUnit.unit, e0, e1, e2, e3, e4, e5)
    else some (PUnit.unit, e0, e1, e2, e3, e4, e5)
theorem r4e (x18 : F18.FT) (x19 : F19.FT) (x20 : F20.FT) (kd : Unit) (d : (Int × Int × Int × Int × Int × List (Int))) : unitF (tabC Tryd.prog (tab x18 x19 x20) (pls x18 x19 x20) 100 10) 100 .none (u4 fun _ _ => none) (codeAt [1, 1, 1, 1, 0] (bodyOf Tryd.prog 10)) kd d = r4P x18 x19 x20 kd d := by kernel_rfl
noncomputable def r4 : G4 := r4P F18.f F19.f F20.f
noncomputable def l4 : G4 := r4
theorem ok4 : UnOk Tryd.prog (u4 l4) (codeAt [1, 1, 1, 1, 0] (bodyOf Tryd.prog 10)) :=
  blockT (p := .none) (fuel := 100) (depth := 10) mixed tabS plsP trivial (fun kd d => r4e F18.f F19.f F20.f kd d)
def fP (x18 : F18.FT) (x19 : F19.FT) (x20 : F20.FT) (l1 : G1) (l2 : G2) (l3 : G3) (l4 : G4) : FT := fun ((m0, m1), (e0, e1, e2, e3, e4, e5)) =>
    (l1 PUnit.unit (m0, m1)).bind fun r0 =>
      (l2 PUnit.unit r0.snd).bind fun r1 =>
        bif decide (0 + e5.length ≤ e5.length) && true then
          (l3 PUnit.unit (e0, e1, e2, e3, e4, List.take e5.length e5)).bind fun r2 =>
            (l4 PUnit.unit r2.snd).bind fun r3 =>
              bif decide (r1.snd.fst < 4) then
                bif
                    decide (0 + List.length r3.snd.snd.snd.snd.snd.snd ≤ List.length r3.snd.snd.snd.snd.snd.snd) &&
                      true then
                  (x18
                        ((r1.snd.fst, r1.snd.snd), r3.snd.fst, r3.snd.snd.fst, r3.snd.snd.snd.fst, r3.snd.snd.snd.snd.fst,
                          r3.snd.snd.snd.snd.snd.fst,
                          List.take (List.length r3.snd.snd.snd.snd.snd.snd)
                            (List.drop 0 r3.snd.snd.snd.snd.snd.snd))).bind
                    fun r4 =>
                    bif decide (0 + List.length r4.fst.snd ≤ List.length r4.fst.snd) && true then
                      some
                        (((r4.fst.fst.fst, r4.fst.fst.snd), List.take (List.length r4.fst.snd) (List.drop 0 r4.fst.snd)),
                          PUnit.unit)
                    else none
                else none
              else
                bif r3.snd.fst == 2 then
                  (x19 (r1.snd.fst, 2, 6, 2, [])).bind fun r4 =>
                    bif decide (0 + List.length r4.fst.snd ≤ List.length r4.fst.snd) && true then
                      some
                        (((r4.fst.fst.fst, r4.fst.fst.snd), List.take (List.length r4.fst.snd) (List.drop 0 r4.fst.snd)),
                          PUnit.unit)
                    else none
                else
                  bif r3.snd.fst == 4 then
                    bif r1.snd.fst == 4 then
                      some (((3, 0), [(5, 0, 0, 0, 0, []), (4, 2, 0, 0, 0, []), (3, 1, 120, 0, 0, [])]), PUnit.unit)
                    else
                      (x19 (r1.snd.fst, 4, 0, 0, [])).bind fun r4 =>
                        bif decide (0 + List.length r4.fst.snd ≤ List.length r4.fst.snd) && true then
                          some
                            (((r4.fst.fst.fst, r4.fst.fst.snd),
                                List.take (List.length r4.fst.snd) (List.drop 0 r4.fst.snd)),
                              PUnit.unit)
                        else none
                  else
                    bif r3.snd.fst == 5 then
                      bif r3.snd.snd.fst == 3 then
                        (x19 (r1.snd.fst, 5, 0, 0, [])).bind fun r4 =>
                          bif decide (0 + List.length r4.fst.snd ≤ List.length r4.fst.snd) && true then
                            some
                              (((r4.fst.fst.fst, r4.fst.fst.snd),
                                  List.take (List.length r4.fst.snd) (List.drop 0 r4.fst.snd)),
                                PUnit.unit)
                          else none
                      else
                        bif
                            decide
                                (0 + List.length r3.snd.snd.snd.snd.snd.snd ≤ List.length r3.snd.snd.snd.snd.snd.snd) &&
                              true then
                          (x20
                                ((r1.snd.fst, r1.snd.snd), r3.snd.fst, r3.snd.snd.fst, r3.snd.snd.snd.fst,
                                  r3.snd.snd.snd.snd.fst, r3.snd.snd.snd.snd.snd.fst,
                                  List.take (List.length r3.snd.snd.snd.snd.snd.snd)
                                    (List.drop 0 r3.snd.snd.snd.snd.snd.snd))).bind
                            fun r4 =>
                            bif decide (0 + List.length r4.fst.snd ≤ List.length r4.fst.snd) && true then
                              some
                                (((r4.fst.fst.fst, r4.fst.fst.snd),
                                    List.take (List.length r4.fst.snd) (List.drop 0 r4.fst.snd)),
                                  PUnit.unit)
                            else none
                        else none
                    else
                      bif r3.snd.fst == 6 then
                        bif r3.snd.snd.fst == 2 then
                          (x19 (r1.snd.fst, 6, 4, 0, [])).bind fun r4 =>
                            bif decide (0 + List.length r4.fst.snd ≤ List.length r4.fst.snd) && true then
                              some
                                (((r4.fst.fst.fst, r4.fst.fst.snd),
                                    List.take (List.length r4.fst.snd) (List.drop 0 r4.fst.snd)),
                                  PUnit.unit)
                            else none
                        else
                          bif r3.snd.snd.fst == 3 then
                            bif decide (r1.snd.fst > 4) then
                              bif decide (r1.snd.snd > 0) then
                                some
                                  (((r1.snd.fst, r1.snd.snd),
                                      [(1, 4, 0, 0, 0, []), (3, 3, IntKind.i64.wrap (Int.tdiv r1.snd.snd 3), 0, 0, [])]),
                                    PUnit.unit)
                              else some (((r1.snd.fst, r1.snd.snd), []), PUnit.unit)
                            else some (((r1.snd.fst, r1.snd.snd), []), PUnit.unit)
                          else some (((r1.snd.fst, r1.snd.snd), []), PUnit.unit)
                      else
                        bif r3.snd.fst == 7 then
                          bif
                              decide
                                  (0 + List.length r3.snd.snd.snd.snd.snd.snd ≤ List.length r3.snd.snd.snd.snd.snd.snd) &&
                                true then
                            (x19
                                  (r1.snd.fst, r3.snd.fst, r3.snd.snd.snd.snd.fst, r3.snd.snd.snd.snd.snd.fst,
                                    List.take (List.length r3.snd.snd.snd.snd.snd.snd)
                                      (List.drop 0 r3.snd.snd.snd.snd.snd.snd))).bind
                              fun r4 =>
                              bif decide (0 + List.length r4.fst.snd ≤ List.length r4.fst.snd) && true then
                                some
                                  (((r4.fst.fst.fst, r4.fst.fst.snd),
                                      List.take (List.length r4.fst.snd) (List.drop 0 r4.fst.snd)),
                                    PUnit.unit)
                              else none
                          else none
                        else
                          bif r3.snd.fst == 8 then
                            bif
                                decide
                                    (0 + List.length r3.snd.snd.snd.snd.snd.snd ≤
                                      List.length r3.snd.snd.snd.snd.snd.snd) &&
                                  true then
                              (x19
                                    (r1.snd.fst, r3.snd.fst, r3.snd.snd.snd.snd.fst, r3.snd.snd.snd.snd.snd.fst,
                                      List.take (List.length r3.snd.snd.snd.snd.snd.snd)
                                        (List.drop 0 r3.snd.snd.snd.snd.snd.snd))).bind
                                fun r4 =>
                                bif decide (0 + List.length r4.fst.snd ≤ List.length r4.fst.snd) && true then
                                  some
                                    (((r4.fst.fst.fst, r4.fst.fst.snd),
                                        List.take (List.length r4.fst.snd) (List.drop 0 r4.fst.snd)),
                                      PUnit.unit)
                                else none
                            else none
                          else some (((r1.snd.fst, r1.snd.snd), []), PUnit.unit)
        else none
theorem fe (x18 : F18.FT) (x19 : F19.FT) (x20 : F20.FT) (l1 : G1) (l2 : G2) (l3 : G3) (l4 : G4) (d : (Int × Int) × (Int × Int × Int × Int × Int × List (Int))) : bodyF (tabC Tryd.prog (tab x18 x19 x20) ((10, (.node .none (.node (.unit (u1 l1)) (.node (.unit (u2 l2)) (.node (.unit (u3 l3)) (.node (.unit (u4 l4)) .none)))))) :: pls x18 x19 x20) 100 10) 100 10 i o d = fP x18 x19 x20 l1 l2 l3 l4 d := by kernel_rfl
noncomputable def f : FT := fP F18.f F19.f F20.f l1 l2 l3 l4
def plan (l1 : G1) (l2 : G2) (l3 : G3) (l4 : G4) : Plan := (.node .none (.node (.unit (u1 l1)) (.node (.unit (u2 l2)) (.node (.unit (u3 l3)) (.node (.unit (u4 l4)) .none)))))
theorem planOk : PlanOk Tryd.prog (plan l1 l2 l3 l4) (bodyOf Tryd.prog 10) := (planOk_of (plan l1 l2 l3 l4) _ [([1, 0], u1 l1), ([1, 1, 0], u2 l2), ([1, 1, 1, 0], u3 l3), ([1, 1, 1, 1, 0], u4 l4)] rfl ⟨ok1, ok2, ok3, ok4, trivial⟩)
theorem meets : MeetsF Tryd.prog 10 ⟨i, o, f⟩ :=
  funcT (fuel := 100) (depth := 10) (pl := (10, plan l1 l2 l3 l4) :: pls F18.f F19.f F20.f) mixed tabS ⟨planOk, plsP⟩ (fun d => fe F18.f F19.f F20.f l1 l2 l3 l4 d)
theorem spec : SpecOk Tryd.prog (fun _ => none) 10 (specF ⟨i, o, f⟩) := specF_ok (by kernel_rfl) meets
end Go.Proofs.YtendadfdbmoadaaDoor.F10
