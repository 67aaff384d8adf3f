/- What comes of function 4 of this program, consulate.consulatelaw14.SessionUp, as the engine gives it. -/
import Derived.Test.YtendadfdbmoadaaDoorChecked
import Derived.Test.YtendadfdbmoadaaDoorZN
import Derived.Test.YtendadfdbmoadaaDoorF9
import Derived.Test.YtendadfdbmoadaaDoorF14
import Derived.Test.YtendadfdbmoadaaDoorKA
namespace Go.Proofs.YtendadfdbmoadaaDoor.F4
open Go Go.Proofs Go.Proofs.YtendadfdbmoadaaDoor Go.RowKit Go.Proofs.YtendadfdbmoadaaDoor.Sx
set_option linter.unusedVariables false
set_option maxRecDepth 100000
def tab (x9 : F9.FT) (x14 : F14.FT) : List (FuncId × Sx.Spec) := [(9, specF ⟨F9.i, F9.o, x9⟩), (14, specF ⟨F14.i, F14.o, x14⟩), (13, pureS saysS)]
def pls (x9 : F9.FT) (x14 : F14.FT) : List (FuncId × Plan) := []
@[reducible] def k1 : Sh := .pt true 31 (.sc (.int .i64) (.sc (.int .u8) (.sc (.int .i64) (.sc (.int .u8) (.sc (.int .u8) (.sl false 5 (.sc (.int .u8) .nil) .nil)))))) (.sc .bool .nil)
@[reducible] def i1 : Sh := .pt true 46 (.sc .bool (.sc .bool (.sc .bool (.sc .bool (.sc .bool (.sc .bool (.sc .bool (.sc .bool (.sc .bool .nil))))))))) .nil
@[reducible] def o1 : Sh := .nil
abbrev G1 := ((Int × Int × Int × Int × Int × List (Int)) × Bool) → ((Bool × Bool × Bool × Bool × Bool × Bool × Bool × Bool × Bool)) → Option (Unit × ((Bool × Bool × Bool × Bool × Bool × Bool × Bool × Bool × Bool)))
def u1 (F : G1) : Un := ⟨144, [6, 8], k1, [4], i1, [], o1, [3, 4, 6, 7, 13, 14, 15], [(.normal, [])], F⟩
@[reducible] def k2 : Sh := .pt true 31 (.sc (.int .i64) (.sc (.int .u8) (.sc (.int .i64) (.sc (.int .u8) (.sc (.int .u8) (.sl false 5 (.sc (.int .u8) .nil) .nil)))))) (.sc (.int .i64) .nil)
@[reducible] def i2 : Sh := .pt true 46 (.sc .bool (.sc .bool (.sc .bool (.sc .bool (.sc .bool (.sc .bool (.sc .bool (.sc .bool (.sc .bool .nil))))))))) .nil
@[reducible] def o2 : Sh := .nil
abbrev G2 := ((Int × Int × Int × Int × Int × List (Int)) × Int) → ((Bool × Bool × Bool × Bool × Bool × Bool × Bool × Bool × Bool)) → Option (Unit × ((Bool × Bool × Bool × Bool × Bool × Bool × Bool × Bool × Bool)))
def u2 (F : G2) : Un := ⟨144, [6, 7], k2, [4], i2, [], o2, [3, 4, 6, 13, 14, 15], [(.normal, [])], F⟩
@[reducible] def k3 : Sh := .pt true 31 (.sc (.int .i64) (.sc (.int .u8) (.sc (.int .i64) (.sc (.int .u8) (.sc (.int .u8) (.sl false 5 (.sc (.int .u8) .nil) .nil)))))) (.sl true 48 (.sc (.int .i64) (.sc (.int .u8) (.sc (.int .i64) (.sc (.int .u8) (.sc (.int .u8) (.sl false 5 (.sc (.int .u8) .nil) .nil)))))) (.sl true 48 (.sc (.int .i64) (.sc (.int .u8) (.sc (.int .i64) (.sc (.int .u8) (.sc (.int .u8) (.sl false 5 (.sc (.int .u8) .nil) .nil)))))) (.sc (.int .i64) .nil)))
@[reducible] def i3 : Sh := .pt true 46 (.sc .bool (.sc .bool (.sc .bool (.sc .bool (.sc .bool (.sc .bool (.sc .bool (.sc .bool (.sc .bool .nil))))))))) (.sc (.int .i64) .nil)
@[reducible] def o3 : Sh := .sc (.int .i64) (.sc .bool .nil)
abbrev G3 := ((Int × Int × Int × Int × Int × List (Int)) × (List (Int × Int × Int × Int × Int × List (Int))) × (List (Int × Int × Int × Int × Int × List (Int))) × Int) → ((Bool × Bool × Bool × Bool × Bool × Bool × Bool × Bool × Bool) × Int) → Option ((Int × Bool) × ((Bool × Bool × Bool × Bool × Bool × Bool × Bool × Bool × Bool)))
def u3 (F : G3) : Un := ⟨144, [6, 9, 78, 79], k3, [4, 80], i3, [2], o3, [3, 4, 6, 9, 13, 14, 15, 78, 79], [(.exit 2, [false]), (.ret, [true])], F⟩
@[reducible] def k4 : Sh := .sl false 31 (.sc (.int .i64) (.sc (.int .u8) (.sc (.int .i64) (.sc (.int .u8) (.sc (.int .u8) (.sl false 5 (.sc (.int .u8) .nil) .nil)))))) (.sc (.int .i64) .nil)
@[reducible] def i4 : Sh := .pt true 24 (.sc (.int .i64) (.sc (.int .i64) .nil)) (.pt true 46 (.sc .bool (.sc .bool (.sc .bool (.sc .bool (.sc .bool (.sc .bool (.sc .bool (.sc .bool (.sc .bool .nil))))))))) (.sc (.int .i64) .nil))
@[reducible] def o4 : Sh := .sc (.int .i64) (.sc .bool .nil)
abbrev G4 := ((List (Int × Int × Int × Int × Int × List (Int))) × Int) → ((Int × Int) × (Bool × Bool × Bool × Bool × Bool × Bool × Bool × Bool × Bool) × Int) → Option ((Int × Bool) × ((Int × Int) × (Bool × Bool × Bool × Bool × Bool × Bool × Bool × Bool × Bool)))
def u4 (F : G4) : Un := ⟨144, [13, 14], k4, [3, 4, 15], i4, [2], o4, [3, 4, 13, 14], [(.exit 0, [false]), (.ret, [true])], F⟩
@[reducible] def i : Sh := .sl false 31 (.sc (.int .i64) (.sc (.int .u8) (.sc (.int .i64) (.sc (.int .u8) (.sc (.int .u8) (.sl false 5 (.sc (.int .u8) .nil) .nil)))))) .nil
@[reducible] def o : Sh := .sc .bool .nil
abbrev FT := ((List (Int × Int × Int × Int × Int × List (Int)))) → Option (Bool × Unit)
theorem tabS : AllS Tryd.prog (tab F9.f F14.f) := ⟨F9.spec, F14.spec, says_ok (by kernel_rfl) KA.tells, trivial⟩
theorem plsP : AllP Tryd.prog (pls F9.f F14.f) := trivial
theorem mixed : Tryd.prog.follows .mixedOrders = true := by kernel_rfl
def r1P (x9 : F9.FT) (x14 : F14.FT) : G1 := fun ((e0, e1, e2, e3, e4, e5), waits) (w0, w1, w2, w3, w4, w5, w6, w7, w8) =>
    bif w0 then some (PUnit.unit, true, w1, w2, w3, w4, w5, w6, w7, w8)
    else
      bif e0 == 3 then some (PUnit.unit, waits, w1, w2, w3, w4, w5, w6, w7, w8)
      else some (PUnit.unit, false, w1, w2, w3, w4, w5, w6, w7, w8)
theorem r1e (x9 : F9.FT) (x14 : F14.FT) (kd : (Int × Int × Int × Int × Int × List (Int)) × Bool) (d : (Bool × Bool × Bool × Bool × Bool × Bool × Bool × Bool × Bool)) : unitF (tabC Tryd.prog (tab x9 x14) (pls x9 x14) 100 10) 100 .none (u1 fun _ _ => none) (codeAt [1, 1, 1, 0, 1, 0, 0, 1, 1, 0, 0, 1, 1, 1, 1, 0] (bodyOf Tryd.prog 4)) kd d = r1P x9 x14 kd d := by kernel_rfl
noncomputable def r1 : G1 := r1P F9.f F14.f
noncomputable def l1 : G1 := r1
theorem ok1 : UnOk Tryd.prog (u1 l1) (codeAt [1, 1, 1, 0, 1, 0, 0, 1, 1, 0, 0, 1, 1, 1, 1, 0] (bodyOf Tryd.prog 4)) :=
  blockT (p := .none) (fuel := 100) (depth := 10) mixed tabS plsP trivial (fun kd d => r1e F9.f F14.f kd d)
def r2P (x9 : F9.FT) (x14 : F14.FT) : G2 := fun ((e0, e1, e2, e3, e4, e5), was) (w0, w1, w2, w3, w4, w5, w6, w7, w8) =>
    bif e0 == 5 then
      bif w0 then
        bif w2 then
          bif w3 then some (PUnit.unit, w0, w1, true, true, w4, w5, w6, w7, w8)
          else
            bif e1 == 4 then some (PUnit.unit, w0, w1, true, was == 5, w4, w5, w6, w7, w8)
            else some (PUnit.unit, w0, w1, true, false, w4, w5, w6, w7, w8)
        else
          bif e1 == 1 then
            bif w3 then some (PUnit.unit, w0, w1, was == 4, true, w4, w5, w6, w7, w8)
            else
              bif e1 == 4 then some (PUnit.unit, w0, w1, was == 4, was == 5, w4, w5, w6, w7, w8)
              else some (PUnit.unit, w0, w1, was == 4, false, w4, w5, w6, w7, w8)
          else
            bif w3 then some (PUnit.unit, w0, w1, false, true, w4, w5, w6, w7, w8)
            else
              bif e1 == 4 then some (PUnit.unit, w0, w1, false, was == 5, w4, w5, w6, w7, w8)
              else some (PUnit.unit, w0, w1, false, false, w4, w5, w6, w7, w8)
      else some (PUnit.unit, w0, w1, w2, w3, w4, w5, w6, w7, w8)
    else some (PUnit.unit, w0, w1, w2, w3, w4, w5, w6, w7, w8)
theorem r2e (x9 : F9.FT) (x14 : F14.FT) (kd : (Int × Int × Int × Int × Int × List (Int)) × Int) (d : (Bool × Bool × Bool × Bool × Bool × Bool × Bool × Bool × Bool)) : unitF (tabC Tryd.prog (tab x9 x14) (pls x9 x14) 100 10) 100 .none (u2 fun _ _ => none) (codeAt [1, 1, 1, 0, 1, 0, 0, 1, 1, 0, 0, 1, 1, 1, 1, 1, 0] (bodyOf Tryd.prog 4)) kd d = r2P x9 x14 kd d := by kernel_rfl
noncomputable def r2 : G2 := r2P F9.f F14.f
noncomputable def l2 : G2 := r2
theorem ok2 : UnOk Tryd.prog (u2 l2) (codeAt [1, 1, 1, 0, 1, 0, 0, 1, 1, 0, 0, 1, 1, 1, 1, 1, 0] (bodyOf Tryd.prog 4)) :=
  blockT (p := .none) (fuel := 100) (depth := 10) mixed tabS plsP trivial (fun kd d => r2e F9.f F14.f kd d)
def r3P (x9 : F9.FT) (x14 : F14.FT) : ((Int × Int × Int × Int × Int × List (Int)) × (List (Int × Int × Int × Int × Int × List (Int))) × (List (Int × Int × Int × Int × Int × List (Int))) × Int) → ((Bool × Bool × Bool × Bool × Bool × Bool × Bool × Bool × Bool) × Int) → Option (((Bool × Bool × Bool × Bool × Bool × Bool × Bool × Bool × Bool) × Int) ⊕ ((Int × Bool) × ((Bool × Bool × Bool × Bool × Bool × Bool × Bool × Bool × Bool)))) := fun ((e0, e1, e2, e3, e4, e5), acts, t78, t79) ((w0, w1, w2, w3, w4, w5, w6, w7, w8), t80) =>
    bif decide (t80 < t79) then
      bif decide (0 ≤ t80 ∧ t80 < (↑t78.length : Int) ∧ 0 < t78.length) then
        bif decide (0 + t80.toNat < t78.length) then
          bif
              decide
                  (0 + List.length (t78.getD (0 + t80.toNat) (0, 0, 0, 0, 0, [])).snd.snd.snd.snd.snd ≤
                    List.length (t78.getD (0 + t80.toNat) (0, 0, 0, 0, 0, [])).snd.snd.snd.snd.snd) &&
                true then
            (x14
                  ((w0, w1, w2, w3, w4, w5, w6, w7, w8), (t78.getD (0 + t80.toNat) (0, 0, 0, 0, 0, [])).fst,
                    (t78.getD (0 + t80.toNat) (0, 0, 0, 0, 0, [])).snd.fst,
                    (t78.getD (0 + t80.toNat) (0, 0, 0, 0, 0, [])).snd.snd.fst,
                    (t78.getD (0 + t80.toNat) (0, 0, 0, 0, 0, [])).snd.snd.snd.fst,
                    (t78.getD (0 + t80.toNat) (0, 0, 0, 0, 0, [])).snd.snd.snd.snd.fst,
                    List.take (List.length (t78.getD (0 + t80.toNat) (0, 0, 0, 0, 0, [])).snd.snd.snd.snd.snd)
                      (List.drop 0 (t78.getD (0 + t80.toNat) (0, 0, 0, 0, 0, [])).snd.snd.snd.snd.snd))).bind
              fun r0 =>
              bif !r0.fst then some (Sum.inr ((1, false), r0.snd))
              else
                bif (t78.getD (0 + t80.toNat) (0, 0, 0, 0, 0, [])).fst == 2 then
                  bif decide (IntKind.i64.wrap (t80 + 1) ≥ (↑acts.length : Int)) then some (Sum.inr ((1, false), r0.snd))
                  else
                    bif
                        decide
                          (0 ≤ IntKind.i64.wrap (t80 + 1) ∧
                            IntKind.i64.wrap (t80 + 1) < (↑acts.length : Int) ∧ 0 < acts.length) then
                      bif decide (0 + (IntKind.i64.wrap (t80 + 1)).toNat < acts.length) then
                        bif (acts.getD (0 + (IntKind.i64.wrap (t80 + 1)).toNat) (0, 0, 0, 0, 0, [])).fst != 5 then
                          some (Sum.inr ((1, false), r0.snd))
                        else
                          bif e0 == 5 then
                            bif e1 == 3 then some (Sum.inr ((1, false), r0.snd))
                            else some (Sum.inl (r0.snd, IntKind.i64.wrap (t80 + 1)))
                          else some (Sum.inl (r0.snd, IntKind.i64.wrap (t80 + 1)))
                      else none
                    else none
                else some (Sum.inl (r0.snd, IntKind.i64.wrap (t80 + 1)))
          else none
        else none
      else none
    else some (Sum.inr ((0, false), w0, w1, w2, w3, w4, w5, w6, w7, w8))
theorem r3e (x9 : F9.FT) (x14 : F14.FT) (kd : (Int × Int × Int × Int × Int × List (Int)) × (List (Int × Int × Int × Int × Int × List (Int))) × (List (Int × Int × Int × Int × Int × List (Int))) × Int) (d : (Bool × Bool × Bool × Bool × Bool × Bool × Bool × Bool × Bool) × Int) : roundF (tabC Tryd.prog (tab x9 x14) (pls x9 x14) 100 10) 100 .none (u3 fun _ _ => none) (codeAt [1, 1, 1, 0, 1, 0, 0, 1, 1, 0, 0, 1, 1, 1, 1, 1, 1, 1, 1, 0, 1, 0, 0] (bodyOf Tryd.prog 4)) kd d = r3P x9 x14 kd d := by kernel_rfl
noncomputable def r3 : ((Int × Int × Int × Int × Int × List (Int)) × (List (Int × Int × Int × Int × Int × List (Int))) × (List (Int × Int × Int × Int × Int × List (Int))) × Int) → ((Bool × Bool × Bool × Bool × Bool × Bool × Bool × Bool × Bool) × Int) → Option (((Bool × Bool × Bool × Bool × Bool × Bool × Bool × Bool × Bool) × Int) ⊕ ((Int × Bool) × ((Bool × Bool × Bool × Bool × Bool × Bool × Bool × Bool × Bool)))) := r3P F9.f F14.f
noncomputable def l3 : G3 := fun kd d => iterO (r3 kd) d
theorem ok3 : UnOk Tryd.prog (u3 l3) (codeAt [1, 1, 1, 0, 1, 0, 0, 1, 1, 0, 0, 1, 1, 1, 1, 1, 1, 1, 1, 0, 1, 0] (bodyOf Tryd.prog 4)) :=
  loopT (p := .none) (c := codeAt [1, 1, 1, 0, 1, 0, 0, 1, 1, 0, 0, 1, 1, 1, 1, 1, 1, 1, 1, 0, 1, 0, 0] (bodyOf Tryd.prog 4)) (fuel := 100) (depth := 10) mixed tabS plsP (by kernel_rfl) trivial (by kernel_rfl) (fun kd d => r3e F9.f F14.f kd d) rfl
def r4P (x9 : F9.FT) (x14 : F14.FT) (l1 : G1) (l2 : G2) (l3 : G3) : ((List (Int × Int × Int × Int × Int × List (Int))) × Int) → ((Int × Int) × (Bool × Bool × Bool × Bool × Bool × Bool × Bool × Bool × Bool) × Int) → Option (((Int × Int) × (Bool × Bool × Bool × Bool × Bool × Bool × Bool × Bool × Bool) × Int) ⊕ ((Int × Bool) × ((Int × Int) × (Bool × Bool × Bool × Bool × Bool × Bool × Bool × Bool × Bool)))) := fun (t13, t14) ((m0, m1), (w0, w1, w2, w3, w4, w5, w6, w7, w8), t15) =>
    bif decide (t15 < t14) then
      bif decide (0 ≤ t15 ∧ t15 < (↑t13.length : Int) ∧ 0 < t13.length) then
        bif decide (0 + t15.toNat < t13.length) then
          bif t15 == 80 then some (Sum.inr ((0, false), (m0, m1), w0, w1, w2, w3, w4, w5, w6, w7, w8))
          else
            bif m0 == 2 then
              bif
                  decide
                      (0 + List.length (t13.getD (0 + t15.toNat) (0, 0, 0, 0, 0, [])).snd.snd.snd.snd.snd ≤
                        List.length (t13.getD (0 + t15.toNat) (0, 0, 0, 0, 0, [])).snd.snd.snd.snd.snd) &&
                    true then
                (l1
                      (((t13.getD (0 + t15.toNat) (0, 0, 0, 0, 0, [])).fst,
                          (t13.getD (0 + t15.toNat) (0, 0, 0, 0, 0, [])).snd.fst,
                          (t13.getD (0 + t15.toNat) (0, 0, 0, 0, 0, [])).snd.snd.fst,
                          (t13.getD (0 + t15.toNat) (0, 0, 0, 0, 0, [])).snd.snd.snd.fst,
                          (t13.getD (0 + t15.toNat) (0, 0, 0, 0, 0, [])).snd.snd.snd.snd.fst,
                          List.take (List.length (t13.getD (0 + t15.toNat) (0, 0, 0, 0, 0, [])).snd.snd.snd.snd.snd)
                            (List.drop 0 (t13.getD (0 + t15.toNat) (0, 0, 0, 0, 0, [])).snd.snd.snd.snd.snd)),
                        true)
                      (w0, w1, w2, w3, w4, w5, w6, w7, w8)).bind
                  fun r0 =>
                  bif
                      decide
                          (0 + List.length (t13.getD (0 + t15.toNat) (0, 0, 0, 0, 0, [])).snd.snd.snd.snd.snd ≤
                            List.length (t13.getD (0 + t15.toNat) (0, 0, 0, 0, 0, [])).snd.snd.snd.snd.snd) &&
                        true then
                    (l2
                          (((t13.getD (0 + t15.toNat) (0, 0, 0, 0, 0, [])).fst,
                              (t13.getD (0 + t15.toNat) (0, 0, 0, 0, 0, [])).snd.fst,
                              (t13.getD (0 + t15.toNat) (0, 0, 0, 0, 0, [])).snd.snd.fst,
                              (t13.getD (0 + t15.toNat) (0, 0, 0, 0, 0, [])).snd.snd.snd.fst,
                              (t13.getD (0 + t15.toNat) (0, 0, 0, 0, 0, [])).snd.snd.snd.snd.fst,
                              List.take (List.length (t13.getD (0 + t15.toNat) (0, 0, 0, 0, 0, [])).snd.snd.snd.snd.snd)
                                (List.drop 0 (t13.getD (0 + t15.toNat) (0, 0, 0, 0, 0, [])).snd.snd.snd.snd.snd)),
                            m0)
                          r0.snd).bind
                      fun r1 =>
                      bif
                          decide
                              (0 + List.length (t13.getD (0 + t15.toNat) (0, 0, 0, 0, 0, [])).snd.snd.snd.snd.snd ≤
                                List.length (t13.getD (0 + t15.toNat) (0, 0, 0, 0, 0, [])).snd.snd.snd.snd.snd) &&
                            true then
                        (x9
                              ((m0, m1), (t13.getD (0 + t15.toNat) (0, 0, 0, 0, 0, [])).fst,
                                (t13.getD (0 + t15.toNat) (0, 0, 0, 0, 0, [])).snd.fst,
                                (t13.getD (0 + t15.toNat) (0, 0, 0, 0, 0, [])).snd.snd.fst,
                                (t13.getD (0 + t15.toNat) (0, 0, 0, 0, 0, [])).snd.snd.snd.fst,
                                (t13.getD (0 + t15.toNat) (0, 0, 0, 0, 0, [])).snd.snd.snd.snd.fst,
                                List.take (List.length (t13.getD (0 + t15.toNat) (0, 0, 0, 0, 0, [])).snd.snd.snd.snd.snd)
                                  (List.drop 0 (t13.getD (0 + t15.toNat) (0, 0, 0, 0, 0, [])).snd.snd.snd.snd.snd))).bind
                          fun r2 =>
                          bif
                              decide
                                  (0 + List.length (t13.getD (0 + t15.toNat) (0, 0, 0, 0, 0, [])).snd.snd.snd.snd.snd ≤
                                    List.length (t13.getD (0 + t15.toNat) (0, 0, 0, 0, 0, [])).snd.snd.snd.snd.snd) &&
                                true then
                            bif decide (0 + List.length r2.fst.snd ≤ List.length r2.fst.snd) && true then
                              bif decide (0 + List.length r2.fst.snd ≤ List.length r2.fst.snd) && true then
                                (l3
                                      (((t13.getD (0 + t15.toNat) (0, 0, 0, 0, 0, [])).fst,
                                          (t13.getD (0 + t15.toNat) (0, 0, 0, 0, 0, [])).snd.fst,
                                          (t13.getD (0 + t15.toNat) (0, 0, 0, 0, 0, [])).snd.snd.fst,
                                          (t13.getD (0 + t15.toNat) (0, 0, 0, 0, 0, [])).snd.snd.snd.fst,
                                          (t13.getD (0 + t15.toNat) (0, 0, 0, 0, 0, [])).snd.snd.snd.snd.fst,
                                          List.take
                                            (List.length
                                              (t13.getD (0 + t15.toNat) (0, 0, 0, 0, 0, [])).snd.snd.snd.snd.snd)
                                            (List.drop 0
                                              (t13.getD (0 + t15.toNat) (0, 0, 0, 0, 0, [])).snd.snd.snd.snd.snd)),
                                        List.take (List.length r2.fst.snd) (List.drop 0 r2.fst.snd),
                                        List.take (List.length r2.fst.snd) (List.drop 0 r2.fst.snd),
                                        (↑(List.length r2.fst.snd) : Int))
                                      (r1.snd, 0)).bind
                                  fun r3 =>
                                  bif decide (r3.fst.fst = 0) then
                                    bif !r3.snd.snd.snd.snd.snd.fst == (r2.fst.fst.fst == 6) then
                                      some (Sum.inr ((1, false), (r2.fst.fst.fst, r2.fst.fst.snd), r3.snd))
                                    else
                                      bif !r3.snd.fst == decide (r2.fst.fst.fst ≥ 4) then
                                        some (Sum.inr ((1, false), (r2.fst.fst.fst, r2.fst.fst.snd), r3.snd))
                                      else
                                        bif decide (r2.fst.fst.fst < 1) then
                                          some (Sum.inr ((1, false), (r2.fst.fst.fst, r2.fst.fst.snd), r3.snd))
                                        else
                                          bif decide (r2.fst.fst.fst > 6) then
                                            some (Sum.inr ((1, false), (r2.fst.fst.fst, r2.fst.fst.snd), r3.snd))
                                          else
                                            some
                                              (Sum.inl
                                                ((r2.fst.fst.fst, r2.fst.fst.snd), r3.snd, IntKind.i64.wrap (t15 + 1)))
                                  else
                                    bif decide (r3.fst.fst = 1) then
                                      some (Sum.inr ((1, r3.fst.snd), (r2.fst.fst.fst, r2.fst.fst.snd), r3.snd))
                                    else none
                              else none
                            else none
                          else none
                      else none
                  else none
              else none
            else
              bif
                  decide
                      (0 + List.length (t13.getD (0 + t15.toNat) (0, 0, 0, 0, 0, [])).snd.snd.snd.snd.snd ≤
                        List.length (t13.getD (0 + t15.toNat) (0, 0, 0, 0, 0, [])).snd.snd.snd.snd.snd) &&
                    true then
                (l1
                      (((t13.getD (0 + t15.toNat) (0, 0, 0, 0, 0, [])).fst,
                          (t13.getD (0 + t15.toNat) (0, 0, 0, 0, 0, [])).snd.fst,
                          (t13.getD (0 + t15.toNat) (0, 0, 0, 0, 0, [])).snd.snd.fst,
                          (t13.getD (0 + t15.toNat) (0, 0, 0, 0, 0, [])).snd.snd.snd.fst,
                          (t13.getD (0 + t15.toNat) (0, 0, 0, 0, 0, [])).snd.snd.snd.snd.fst,
                          List.take (List.length (t13.getD (0 + t15.toNat) (0, 0, 0, 0, 0, [])).snd.snd.snd.snd.snd)
                            (List.drop 0 (t13.getD (0 + t15.toNat) (0, 0, 0, 0, 0, [])).snd.snd.snd.snd.snd)),
                        m0 == 3)
                      (w0, w1, w2, w3, w4, w5, w6, w7, w8)).bind
                  fun r0 =>
                  bif
                      decide
                          (0 + List.length (t13.getD (0 + t15.toNat) (0, 0, 0, 0, 0, [])).snd.snd.snd.snd.snd ≤
                            List.length (t13.getD (0 + t15.toNat) (0, 0, 0, 0, 0, [])).snd.snd.snd.snd.snd) &&
                        true then
                    (l2
                          (((t13.getD (0 + t15.toNat) (0, 0, 0, 0, 0, [])).fst,
                              (t13.getD (0 + t15.toNat) (0, 0, 0, 0, 0, [])).snd.fst,
                              (t13.getD (0 + t15.toNat) (0, 0, 0, 0, 0, [])).snd.snd.fst,
                              (t13.getD (0 + t15.toNat) (0, 0, 0, 0, 0, [])).snd.snd.snd.fst,
                              (t13.getD (0 + t15.toNat) (0, 0, 0, 0, 0, [])).snd.snd.snd.snd.fst,
                              List.take (List.length (t13.getD (0 + t15.toNat) (0, 0, 0, 0, 0, [])).snd.snd.snd.snd.snd)
                                (List.drop 0 (t13.getD (0 + t15.toNat) (0, 0, 0, 0, 0, [])).snd.snd.snd.snd.snd)),
                            m0)
                          r0.snd).bind
                      fun r1 =>
                      bif
                          decide
                              (0 + List.length (t13.getD (0 + t15.toNat) (0, 0, 0, 0, 0, [])).snd.snd.snd.snd.snd ≤
                                List.length (t13.getD (0 + t15.toNat) (0, 0, 0, 0, 0, [])).snd.snd.snd.snd.snd) &&
                            true then
                        (x9
                              ((m0, m1), (t13.getD (0 + t15.toNat) (0, 0, 0, 0, 0, [])).fst,
                                (t13.getD (0 + t15.toNat) (0, 0, 0, 0, 0, [])).snd.fst,
                                (t13.getD (0 + t15.toNat) (0, 0, 0, 0, 0, [])).snd.snd.fst,
                                (t13.getD (0 + t15.toNat) (0, 0, 0, 0, 0, [])).snd.snd.snd.fst,
                                (t13.getD (0 + t15.toNat) (0, 0, 0, 0, 0, [])).snd.snd.snd.snd.fst,
                                List.take (List.length (t13.getD (0 + t15.toNat) (0, 0, 0, 0, 0, [])).snd.snd.snd.snd.snd)
                                  (List.drop 0 (t13.getD (0 + t15.toNat) (0, 0, 0, 0, 0, [])).snd.snd.snd.snd.snd))).bind
                          fun r2 =>
                          bif
                              decide
                                  (0 + List.length (t13.getD (0 + t15.toNat) (0, 0, 0, 0, 0, [])).snd.snd.snd.snd.snd ≤
                                    List.length (t13.getD (0 + t15.toNat) (0, 0, 0, 0, 0, [])).snd.snd.snd.snd.snd) &&
                                true then
                            bif decide (0 + List.length r2.fst.snd ≤ List.length r2.fst.snd) && true then
                              bif decide (0 + List.length r2.fst.snd ≤ List.length r2.fst.snd) && true then
                                (l3
                                      (((t13.getD (0 + t15.toNat) (0, 0, 0, 0, 0, [])).fst,
                                          (t13.getD (0 + t15.toNat) (0, 0, 0, 0, 0, [])).snd.fst,
                                          (t13.getD (0 + t15.toNat) (0, 0, 0, 0, 0, [])).snd.snd.fst,
                                          (t13.getD (0 + t15.toNat) (0, 0, 0, 0, 0, [])).snd.snd.snd.fst,
                                          (t13.getD (0 + t15.toNat) (0, 0, 0, 0, 0, [])).snd.snd.snd.snd.fst,
                                          List.take
                                            (List.length
                                              (t13.getD (0 + t15.toNat) (0, 0, 0, 0, 0, [])).snd.snd.snd.snd.snd)
                                            (List.drop 0
                                              (t13.getD (0 + t15.toNat) (0, 0, 0, 0, 0, [])).snd.snd.snd.snd.snd)),
                                        List.take (List.length r2.fst.snd) (List.drop 0 r2.fst.snd),
                                        List.take (List.length r2.fst.snd) (List.drop 0 r2.fst.snd),
                                        (↑(List.length r2.fst.snd) : Int))
                                      (r1.snd, 0)).bind
                                  fun r3 =>
                                  bif decide (r3.fst.fst = 0) then
                                    bif !r3.snd.snd.snd.snd.snd.fst == (r2.fst.fst.fst == 6) then
                                      some (Sum.inr ((1, false), (r2.fst.fst.fst, r2.fst.fst.snd), r3.snd))
                                    else
                                      bif !r3.snd.fst == decide (r2.fst.fst.fst ≥ 4) then
                                        some (Sum.inr ((1, false), (r2.fst.fst.fst, r2.fst.fst.snd), r3.snd))
                                      else
                                        bif decide (r2.fst.fst.fst < 1) then
                                          some (Sum.inr ((1, false), (r2.fst.fst.fst, r2.fst.fst.snd), r3.snd))
                                        else
                                          bif decide (r2.fst.fst.fst > 6) then
                                            some (Sum.inr ((1, false), (r2.fst.fst.fst, r2.fst.fst.snd), r3.snd))
                                          else
                                            some
                                              (Sum.inl
                                                ((r2.fst.fst.fst, r2.fst.fst.snd), r3.snd, IntKind.i64.wrap (t15 + 1)))
                                  else
                                    bif decide (r3.fst.fst = 1) then
                                      some (Sum.inr ((1, r3.fst.snd), (r2.fst.fst.fst, r2.fst.fst.snd), r3.snd))
                                    else none
                              else none
                            else none
                          else none
                      else none
                  else none
              else none
        else none
      else none
    else some (Sum.inr ((0, false), (m0, m1), w0, w1, w2, w3, w4, w5, w6, w7, w8))
theorem r4e (x9 : F9.FT) (x14 : F14.FT) (l1 : G1) (l2 : G2) (l3 : G3) (kd : (List (Int × Int × Int × Int × Int × List (Int))) × Int) (d : (Int × Int) × (Bool × Bool × Bool × Bool × Bool × Bool × Bool × Bool × Bool) × Int) : roundF (tabC Tryd.prog (tab x9 x14) (pls x9 x14) 100 10) 100 (.node .none (.node .none (.node (.node (.node .none (.node .none (.node .none (.node .none (.node (.unit (u1 l1)) (.node (.unit (u2 l2)) (.node .none (.node .none (.node (.node .none (.node (.unit (u3 l3)) .none)) .none))))))))) .none) .none))) (u4 fun _ _ => none) (codeAt [1, 1, 1, 0, 1, 0, 0] (bodyOf Tryd.prog 4)) kd d = r4P x9 x14 l1 l2 l3 kd d := by kernel_rfl
noncomputable def r4 : ((List (Int × Int × Int × Int × Int × List (Int))) × Int) → ((Int × Int) × (Bool × Bool × Bool × Bool × Bool × Bool × Bool × Bool × Bool) × Int) → Option (((Int × Int) × (Bool × Bool × Bool × Bool × Bool × Bool × Bool × Bool × Bool) × Int) ⊕ ((Int × Bool) × ((Int × Int) × (Bool × Bool × Bool × Bool × Bool × Bool × Bool × Bool × Bool)))) := r4P F9.f F14.f l1 l2 l3
noncomputable def l4 : G4 := fun kd d => iterO (r4 kd) d
theorem ok4 : UnOk Tryd.prog (u4 l4) (codeAt [1, 1, 1, 0, 1, 0] (bodyOf Tryd.prog 4)) :=
  loopT (p := (.node .none (.node .none (.node (.node (.node .none (.node .none (.node .none (.node .none (.node (.unit (u1 l1)) (.node (.unit (u2 l2)) (.node .none (.node .none (.node (.node .none (.node (.unit (u3 l3)) .none)) .none))))))))) .none) .none)))) (c := codeAt [1, 1, 1, 0, 1, 0, 0] (bodyOf Tryd.prog 4)) (fuel := 100) (depth := 10) mixed tabS plsP (by kernel_rfl) (planOk_of (.node .none (.node .none (.node (.node (.node .none (.node .none (.node .none (.node .none (.node (.unit (u1 l1)) (.node (.unit (u2 l2)) (.node .none (.node .none (.node (.node .none (.node (.unit (u3 l3)) .none)) .none))))))))) .none) .none))) _ [([1, 1, 0, 0, 1, 1, 1, 1, 0], u1 l1), ([1, 1, 0, 0, 1, 1, 1, 1, 1, 0], u2 l2), ([1, 1, 0, 0, 1, 1, 1, 1, 1, 1, 1, 1, 0, 1, 0], u3 l3)] rfl ⟨ok1, ok2, ok3, trivial⟩) (by kernel_rfl) (fun kd d => r4e F9.f F14.f l1 l2 l3 kd d) rfl
def fP (x9 : F9.FT) (x14 : F14.FT) (l4 : G4) : FT := fun l =>
    bif decide (0 + l.length ≤ l.length) && true then
      (l4 (List.take l.length l, (↑l.length : Int))
            ((1, 0), (false, false, false, false, false, false, false, false, false), 0)).bind
        fun r0 =>
        bif decide (r0.fst.fst = 0) then some (true, PUnit.unit)
        else bif decide (r0.fst.fst = 1) then some (r0.fst.snd, PUnit.unit) else none
    else none
theorem fe (x9 : F9.FT) (x14 : F14.FT) (l4 : G4) (d : (List (Int × Int × Int × Int × Int × List (Int)))) : bodyF (tabC Tryd.prog (tab x9 x14) ((4, (.node .none (.node .none (.node .none (.node (.node .none (.node (.unit (u4 l4)) .none)) .none))))) :: pls x9 x14) 100 10) 100 4 i o d = fP x9 x14 l4 d := by kernel_rfl
noncomputable def f : FT := fP F9.f F14.f l4
def plan (l4 : G4) : Plan := (.node .none (.node .none (.node .none (.node (.node .none (.node (.unit (u4 l4)) .none)) .none))))
theorem planOk : PlanOk Tryd.prog (plan l4) (bodyOf Tryd.prog 4) := (planOk_of (plan l4) _ [([1, 1, 1, 0, 1, 0], u4 l4)] rfl ⟨ok4, trivial⟩)
theorem meets : MeetsF Tryd.prog 4 ⟨i, o, f⟩ :=
  funcT (fuel := 100) (depth := 10) (pl := (4, plan l4) :: pls F9.f F14.f) mixed tabS ⟨planOk, plsP⟩ (fun d => fe F9.f F14.f l4 d)
theorem spec : SpecOk Tryd.prog (fun _ => none) 4 (specF ⟨i, o, f⟩) := specF_ok (by kernel_rfl) meets
end Go.Proofs.YtendadfdbmoadaaDoor.F4
