/- What comes of function 6 of this program, consulate.consulatelaw14.SessionEnds, as the engine gives it. -/
import Derived.Test.YtendadfdbmoadaaDoorChecked
import Derived.Test.YtendadfdbmoadaaDoorZN
import Derived.Test.YtendadfdbmoadaaDoorF9
import Derived.Test.YtendadfdbmoadaaDoorKA
namespace Go.Proofs.YtendadfdbmoadaaDoor.F6
open Go Go.Proofs Go.Proofs.YtendadfdbmoadaaDoor Go.RowKit Go.Proofs.YtendadfdbmoadaaDoor.Sx
set_option linter.unusedVariables false
set_option maxRecDepth 100000
def tab (x9 : F9.FT) : List (FuncId × Sx.Spec) := [(9, specF ⟨F9.i, F9.o, x9⟩), (13, pureS saysS)]
def pls (x9 : F9.FT) : List (FuncId × Plan) := []
@[reducible] def k1 : Sh := .sl false 31 (.sc (.int .i64) (.sc (.int .u8) (.sc (.int .i64) (.sc (.int .u8) (.sc (.int .u8) (.sl false 5 (.sc (.int .u8) .nil) .nil)))))) (.sc (.int .i64) .nil)
@[reducible] def i1 : Sh := .pt true 24 (.sc (.int .i64) (.sc (.int .i64) .nil)) (.sc (.int .i64) .nil)
@[reducible] def o1 : Sh := .nil
abbrev G1 := ((List (Int × Int × Int × Int × Int × List (Int))) × Int) → ((Int × Int) × Int) → Option (Unit × ((Int × Int)))
def u1 (F : G1) : Un := ⟨143, [24, 25], k1, [7, 26], i1, [], o1, [1, 5, 7, 24, 25], [(.exit 0, [])], F⟩
@[reducible] def k2 : Sh := .sl true 48 (.sc (.int .i64) (.sc (.int .u8) (.sc (.int .i64) (.sc (.int .u8) (.sc (.int .u8) (.sl false 5 (.sc (.int .u8) .nil) .nil)))))) (.sc (.int .i64) .nil)
@[reducible] def i2 : Sh := .pt true 28 (.sc (.int .u8) (.sc (.int .u8) .nil)) (.sc .bool (.sc .bool (.sc .bool (.sc (.int .i64) .nil))))
@[reducible] def o2 : Sh := .sc .bool (.sc .bool (.sc .bool .nil))
abbrev G2 := ((List (Int × Int × Int × Int × Int × List (Int))) × Int) → ((Int × Int) × Bool × Bool × Bool × Int) → Option ((Bool × Bool × Bool) × ((Int × Int)))
def u2 (F : G2) : Un := ⟨143, [79, 80], k2, [15, 16, 17, 18, 81], i2, [16, 17, 18], o2, [10, 11, 12, 14, 15, 79, 80], [(.exit 2, [true, true, true])], F⟩
@[reducible] def i : Sh := .sl false 31 (.sc (.int .i64) (.sc (.int .u8) (.sc (.int .i64) (.sc (.int .u8) (.sc (.int .u8) (.sl false 5 (.sc (.int .u8) .nil) .nil)))))) (.sc (.int .u8) (.ag (.sc (.int .u8) (.sc (.int .u8) .nil)) .nil))
@[reducible] def o : Sh := .sc .bool .nil
abbrev FT := ((List (Int × Int × Int × Int × Int × List (Int))) × Int × (Int × Int)) → Option (Bool × Unit)
theorem tabS : AllS Tryd.prog (tab F9.f) := ⟨F9.spec, says_ok (by kernel_rfl) KA.tells, trivial⟩
theorem plsP : AllP Tryd.prog (pls F9.f) := trivial
theorem mixed : Tryd.prog.follows .mixedOrders = true := by kernel_rfl
def r1P (x9 : F9.FT) : ((List (Int × Int × Int × Int × Int × List (Int))) × Int) → ((Int × Int) × Int) → Option (((Int × Int) × Int) ⊕ (Unit × ((Int × Int)))) := fun (t24, t25) ((m0, m1), t26) =>
    bif decide (t26 < t25) then
      bif decide (0 ≤ t26 ∧ t26 < (↑t24.length : Int) ∧ 0 < t24.length) then
        bif decide (0 + t26.toNat < t24.length) then
          bif t26 == 80 then some (Sum.inr (PUnit.unit, m0, m1))
          else
            bif
                decide
                    (0 + List.length (t24.getD (0 + t26.toNat) (0, 0, 0, 0, 0, [])).snd.snd.snd.snd.snd ≤
                      List.length (t24.getD (0 + t26.toNat) (0, 0, 0, 0, 0, [])).snd.snd.snd.snd.snd) &&
                  true then
              (x9
                    ((m0, m1), (t24.getD (0 + t26.toNat) (0, 0, 0, 0, 0, [])).fst,
                      (t24.getD (0 + t26.toNat) (0, 0, 0, 0, 0, [])).snd.fst,
                      (t24.getD (0 + t26.toNat) (0, 0, 0, 0, 0, [])).snd.snd.fst,
                      (t24.getD (0 + t26.toNat) (0, 0, 0, 0, 0, [])).snd.snd.snd.fst,
                      (t24.getD (0 + t26.toNat) (0, 0, 0, 0, 0, [])).snd.snd.snd.snd.fst,
                      List.take (List.length (t24.getD (0 + t26.toNat) (0, 0, 0, 0, 0, [])).snd.snd.snd.snd.snd)
                        (List.drop 0 (t24.getD (0 + t26.toNat) (0, 0, 0, 0, 0, [])).snd.snd.snd.snd.snd))).bind
                fun r0 => some (Sum.inl ((r0.fst.fst.fst, r0.fst.fst.snd), IntKind.i64.wrap (t26 + 1)))
            else none
        else none
      else none
    else some (Sum.inr (PUnit.unit, m0, m1))
theorem r1e (x9 : F9.FT) (kd : (List (Int × Int × Int × Int × Int × List (Int))) × Int) (d : (Int × Int) × Int) : roundF (tabC Tryd.prog (tab x9) (pls x9) 100 10) 100 .none (u1 fun _ _ => none) (codeAt [1, 1, 0, 1, 0, 0] (bodyOf Tryd.prog 6)) kd d = r1P x9 kd d := by kernel_rfl
noncomputable def r1 : ((List (Int × Int × Int × Int × Int × List (Int))) × Int) → ((Int × Int) × Int) → Option (((Int × Int) × Int) ⊕ (Unit × ((Int × Int)))) := r1P F9.f
noncomputable def l1 : G1 := fun kd d => iterO (r1 kd) d
theorem ok1 : UnOk Tryd.prog (u1 l1) (codeAt [1, 1, 0, 1, 0] (bodyOf Tryd.prog 6)) :=
  loopT (p := .none) (c := codeAt [1, 1, 0, 1, 0, 0] (bodyOf Tryd.prog 6)) (fuel := 100) (depth := 10) mixed tabS plsP (by kernel_rfl) trivial (by kernel_rfl) (fun kd d => r1e F9.f kd d) rfl
def r2P (x9 : F9.FT) : ((List (Int × Int × Int × Int × Int × List (Int))) × Int) → ((Int × Int) × Bool × Bool × Bool × Int) → Option (((Int × Int) × Bool × Bool × Bool × Int) ⊕ ((Bool × Bool × Bool) × ((Int × Int)))) := fun (t79, t80) ((told0, told1), down, close, retry, t81) =>
    bif decide (t81 < t80) then
      bif decide (0 ≤ t81 ∧ t81 < (↑t79.length : Int) ∧ 0 < t79.length) then
        bif decide (0 + t81.toNat < t79.length) then
          bif (t79.getD (0 + t81.toNat) (0, 0, 0, 0, 0, [])).fst == 2 then
            some
              (Sum.inl
                (((t79.getD (0 + t81.toNat) (0, 0, 0, 0, 0, [])).snd.snd.snd.fst,
                    (t79.getD (0 + t81.toNat) (0, 0, 0, 0, 0, [])).snd.snd.snd.snd.fst),
                  down, close, retry, IntKind.i64.wrap (t81 + 1)))
          else
            bif (t79.getD (0 + t81.toNat) (0, 0, 0, 0, 0, [])).fst == 8 then
              some (Sum.inl ((told0, told1), true, close, retry, IntKind.i64.wrap (t81 + 1)))
            else
              bif (t79.getD (0 + t81.toNat) (0, 0, 0, 0, 0, [])).fst == 5 then
                some (Sum.inl ((told0, told1), down, true, retry, IntKind.i64.wrap (t81 + 1)))
              else
                bif (t79.getD (0 + t81.toNat) (0, 0, 0, 0, 0, [])).fst == 3 then
                  bif (t79.getD (0 + t81.toNat) (0, 0, 0, 0, 0, [])).snd.fst == 1 then
                    some
                      (Sum.inl
                        ((told0, told1), down, close, (t79.getD (0 + t81.toNat) (0, 0, 0, 0, 0, [])).snd.snd.fst == 120,
                          IntKind.i64.wrap (t81 + 1)))
                  else some (Sum.inl ((told0, told1), down, close, false, IntKind.i64.wrap (t81 + 1)))
                else some (Sum.inl ((told0, told1), down, close, retry, IntKind.i64.wrap (t81 + 1)))
        else none
      else none
    else some (Sum.inr ((down, close, retry), told0, told1))
theorem r2e (x9 : F9.FT) (kd : (List (Int × Int × Int × Int × Int × List (Int))) × Int) (d : (Int × Int) × Bool × Bool × Bool × Int) : roundF (tabC Tryd.prog (tab x9) (pls x9) 100 10) 100 .none (u2 fun _ _ => none) (codeAt [1, 1, 1, 1, 1, 1, 1, 1, 1, 0, 1, 0, 0] (bodyOf Tryd.prog 6)) kd d = r2P x9 kd d := by kernel_rfl
noncomputable def r2 : ((List (Int × Int × Int × Int × Int × List (Int))) × Int) → ((Int × Int) × Bool × Bool × Bool × Int) → Option (((Int × Int) × Bool × Bool × Bool × Int) ⊕ ((Bool × Bool × Bool) × ((Int × Int)))) := r2P F9.f
noncomputable def l2 : G2 := fun kd d => iterO (r2 kd) d
theorem ok2 : UnOk Tryd.prog (u2 l2) (codeAt [1, 1, 1, 1, 1, 1, 1, 1, 1, 0, 1, 0] (bodyOf Tryd.prog 6)) :=
  loopT (p := .none) (c := codeAt [1, 1, 1, 1, 1, 1, 1, 1, 1, 0, 1, 0, 0] (bodyOf Tryd.prog 6)) (fuel := 100) (depth := 10) mixed tabS plsP (by kernel_rfl) trivial (by kernel_rfl) (fun kd d => r2e F9.f kd d) rfl
def fP (x9 : F9.FT) (l1 : G1) (l2 : G2) : FT := fun (l, which, (f0, f1)) =>
    bif decide (0 + l.length ≤ l.length) && true then
      (l1 (List.take l.length l, (↑l.length : Int)) ((1, 0), 0)).bind fun r0 =>
        bif decide (r0.snd.fst < 4) then
          (x9 ((3, 0), 3, 0, 0, 0, 0, [])).bind fun r1 =>
            bif decide (0 ≤ which.tmod 5 ∧ which.tmod 5 < 5) then
              bif (which.tmod 5).toNat.beq 0 then
                (x9 ((r1.fst.fst.fst, r1.fst.fst.snd), 2, 0, 0, 0, 0, [])).bind fun r2 =>
                  bif decide (0 ≤ which.tmod 5 ∧ which.tmod 5 < 5) then
                    bif (which.tmod 5).toNat.beq 0 then
                      bif decide (0 + List.length r2.fst.snd ≤ List.length r2.fst.snd) && true then
                        (l2
                              (List.take (List.length r2.fst.snd) (List.drop 0 r2.fst.snd),
                                (↑(List.length r2.fst.snd) : Int))
                              ((0, 0), false, false, false, 0)).bind
                          fun r3 =>
                          (x9 ((r2.fst.fst.fst, r2.fst.fst.snd), 1, 0, 0, 0, 0, [])).bind fun r4 =>
                            bif r2.fst.fst.fst == 1 && (r2.fst.fst.snd == 0 && true) then
                              bif r3.snd.fst == 6 && (r3.snd.snd == 2 && true) then
                                bif r3.fst.fst == (r1.fst.fst.fst == 6) then
                                  bif r3.fst.snd.fst then
                                    bif r3.fst.snd.snd == false then
                                      bif r4.fst.fst.fst == 2 then some (true, PUnit.unit) else some (false, PUnit.unit)
                                    else some (false, PUnit.unit)
                                  else some (false, PUnit.unit)
                                else some (false, PUnit.unit)
                              else some (false, PUnit.unit)
                            else some (false, PUnit.unit)
                      else none
                    else
                      bif (which.tmod 5).toNat.beq 1 then
                        bif decide (0 + List.length r2.fst.snd ≤ List.length r2.fst.snd) && true then
                          (l2
                                (List.take (List.length r2.fst.snd) (List.drop 0 r2.fst.snd),
                                  (↑(List.length r2.fst.snd) : Int))
                                ((0, 0), false, false, false, 0)).bind
                            fun r3 =>
                            (x9 ((r2.fst.fst.fst, r2.fst.fst.snd), 1, 0, 0, 0, 0, [])).bind fun r4 =>
                              bif r2.fst.fst.fst == 1 && (r2.fst.fst.snd == 0 && true) then
                                bif r3.snd.fst == 4 && (r3.snd.snd == 0 && true) then
                                  bif r3.fst.fst == (r1.fst.fst.fst == 6) then
                                    bif r3.fst.snd.fst then
                                      bif r3.fst.snd.snd == false then
                                        bif r4.fst.fst.fst == 2 then some (true, PUnit.unit) else some (false, PUnit.unit)
                                      else some (false, PUnit.unit)
                                    else some (false, PUnit.unit)
                                  else some (false, PUnit.unit)
                                else some (false, PUnit.unit)
                              else some (false, PUnit.unit)
                        else none
                      else
                        bif (which.tmod 5).toNat.beq 2 then
                          bif decide (0 + List.length r2.fst.snd ≤ List.length r2.fst.snd) && true then
                            (l2
                                  (List.take (List.length r2.fst.snd) (List.drop 0 r2.fst.snd),
                                    (↑(List.length r2.fst.snd) : Int))
                                  ((0, 0), false, false, false, 0)).bind
                              fun r3 =>
                              (x9 ((r2.fst.fst.fst, r2.fst.fst.snd), 1, 0, 0, 0, 0, [])).bind fun r4 =>
                                bif r2.fst.fst.fst == 1 && (r2.fst.fst.snd == 0 && true) then
                                  bif r3.snd.fst == f0 && (r3.snd.snd == f1 && true) then
                                    bif r3.fst.fst == (r1.fst.fst.fst == 6) then
                                      bif r3.fst.snd.fst then
                                        bif r3.fst.snd.snd == false then
                                          bif r4.fst.fst.fst == 2 then some (true, PUnit.unit)
                                          else some (false, PUnit.unit)
                                        else some (false, PUnit.unit)
                                      else some (false, PUnit.unit)
                                    else some (false, PUnit.unit)
                                  else some (false, PUnit.unit)
                                else some (false, PUnit.unit)
                          else none
                        else
                          bif (which.tmod 5).toNat.beq 3 then
                            bif decide (0 + List.length r2.fst.snd ≤ List.length r2.fst.snd) && true then
                              (l2
                                    (List.take (List.length r2.fst.snd) (List.drop 0 r2.fst.snd),
                                      (↑(List.length r2.fst.snd) : Int))
                                    ((0, 0), false, false, false, 0)).bind
                                fun r3 =>
                                (x9 ((r2.fst.fst.fst, r2.fst.fst.snd), 1, 0, 0, 0, 0, [])).bind fun r4 =>
                                  bif r2.fst.fst.fst == 1 && (r2.fst.fst.snd == 0 && true) then
                                    bif r3.snd.fst == f0 && (r3.snd.snd == f1 && true) then
                                      bif r3.fst.fst == (r1.fst.fst.fst == 6) then
                                        bif r3.fst.snd.fst then
                                          bif r3.fst.snd.snd == false then
                                            bif r4.fst.fst.fst == 2 then some (true, PUnit.unit)
                                            else some (false, PUnit.unit)
                                          else some (false, PUnit.unit)
                                        else some (false, PUnit.unit)
                                      else some (false, PUnit.unit)
                                    else some (false, PUnit.unit)
                                  else some (false, PUnit.unit)
                            else none
                          else
                            bif (which.tmod 5).toNat.beq 4 then
                              bif decide (0 + List.length r2.fst.snd ≤ List.length r2.fst.snd) && true then
                                (l2
                                      (List.take (List.length r2.fst.snd) (List.drop 0 r2.fst.snd),
                                        (↑(List.length r2.fst.snd) : Int))
                                      ((0, 0), false, false, false, 0)).bind
                                  fun r3 =>
                                  (x9 ((r2.fst.fst.fst, r2.fst.fst.snd), 1, 0, 0, 0, 0, [])).bind fun r4 =>
                                    bif r2.fst.fst.fst == 1 && (r2.fst.fst.snd == 0 && true) then
                                      bif r3.snd.fst == 0 && (r3.snd.snd == 0 && true) then
                                        bif r3.fst.fst == (r1.fst.fst.fst == 6) then
                                          bif r3.fst.snd.fst then
                                            bif r3.fst.snd.snd == false then
                                              bif r4.fst.fst.fst == 2 then some (true, PUnit.unit)
                                              else some (false, PUnit.unit)
                                            else some (false, PUnit.unit)
                                          else some (false, PUnit.unit)
                                        else some (false, PUnit.unit)
                                      else some (false, PUnit.unit)
                                    else some (false, PUnit.unit)
                              else none
                            else none
                  else none
              else
                bif (which.tmod 5).toNat.beq 1 then
                  (x9 ((r1.fst.fst.fst, r1.fst.fst.snd), 6, 2, 0, 0, 0, [])).bind fun r2 =>
                    bif decide (0 ≤ which.tmod 5 ∧ which.tmod 5 < 5) then
                      bif (which.tmod 5).toNat.beq 0 then
                        bif decide (0 + List.length r2.fst.snd ≤ List.length r2.fst.snd) && true then
                          (l2
                                (List.take (List.length r2.fst.snd) (List.drop 0 r2.fst.snd),
                                  (↑(List.length r2.fst.snd) : Int))
                                ((0, 0), false, false, false, 0)).bind
                            fun r3 =>
                            (x9 ((r2.fst.fst.fst, r2.fst.fst.snd), 1, 0, 0, 0, 0, [])).bind fun r4 =>
                              bif r2.fst.fst.fst == 1 && (r2.fst.fst.snd == 0 && true) then
                                bif r3.snd.fst == 6 && (r3.snd.snd == 2 && true) then
                                  bif r3.fst.fst == (r1.fst.fst.fst == 6) then
                                    bif r3.fst.snd.fst then
                                      bif r3.fst.snd.snd == true then
                                        bif r4.fst.fst.fst == 2 then some (true, PUnit.unit) else some (false, PUnit.unit)
                                      else some (false, PUnit.unit)
                                    else some (false, PUnit.unit)
                                  else some (false, PUnit.unit)
                                else some (false, PUnit.unit)
                              else some (false, PUnit.unit)
                        else none
                      else
                        bif (which.tmod 5).toNat.beq 1 then
                          bif decide (0 + List.length r2.fst.snd ≤ List.length r2.fst.snd) && true then
                            (l2
                                  (List.take (List.length r2.fst.snd) (List.drop 0 r2.fst.snd),
                                    (↑(List.length r2.fst.snd) : Int))
                                  ((0, 0), false, false, false, 0)).bind
                              fun r3 =>
                              (x9 ((r2.fst.fst.fst, r2.fst.fst.snd), 1, 0, 0, 0, 0, [])).bind fun r4 =>
                                bif r2.fst.fst.fst == 1 && (r2.fst.fst.snd == 0 && true) then
                                  bif r3.snd.fst == 4 && (r3.snd.snd == 0 && true) then
                                    bif r3.fst.fst == (r1.fst.fst.fst == 6) then
                                      bif r3.fst.snd.fst then
                                        bif r3.fst.snd.snd == true then
                                          bif r4.fst.fst.fst == 2 then some (true, PUnit.unit)
                                          else some (false, PUnit.unit)
                                        else some (false, PUnit.unit)
                                      else some (false, PUnit.unit)
                                    else some (false, PUnit.unit)
                                  else some (false, PUnit.unit)
                                else some (false, PUnit.unit)
                          else none
                        else
                          bif (which.tmod 5).toNat.beq 2 then
                            bif decide (0 + List.length r2.fst.snd ≤ List.length r2.fst.snd) && true then
                              (l2
                                    (List.take (List.length r2.fst.snd) (List.drop 0 r2.fst.snd),
                                      (↑(List.length r2.fst.snd) : Int))
                                    ((0, 0), false, false, false, 0)).bind
                                fun r3 =>
                                (x9 ((r2.fst.fst.fst, r2.fst.fst.snd), 1, 0, 0, 0, 0, [])).bind fun r4 =>
                                  bif r2.fst.fst.fst == 1 && (r2.fst.fst.snd == 0 && true) then
                                    bif r3.snd.fst == f0 && (r3.snd.snd == f1 && true) then
                                      bif r3.fst.fst == (r1.fst.fst.fst == 6) then
                                        bif r3.fst.snd.fst then
                                          bif r3.fst.snd.snd == true then
                                            bif r4.fst.fst.fst == 2 then some (true, PUnit.unit)
                                            else some (false, PUnit.unit)
                                          else some (false, PUnit.unit)
                                        else some (false, PUnit.unit)
                                      else some (false, PUnit.unit)
                                    else some (false, PUnit.unit)
                                  else some (false, PUnit.unit)
                            else none
                          else
                            bif (which.tmod 5).toNat.beq 3 then
                              bif decide (0 + List.length r2.fst.snd ≤ List.length r2.fst.snd) && true then
                                (l2
                                      (List.take (List.length r2.fst.snd) (List.drop 0 r2.fst.snd),
                                        (↑(List.length r2.fst.snd) : Int))
                                      ((0, 0), false, false, false, 0)).bind
                                  fun r3 =>
                                  (x9 ((r2.fst.fst.fst, r2.fst.fst.snd), 1, 0, 0, 0, 0, [])).bind fun r4 =>
                                    bif r2.fst.fst.fst == 1 && (r2.fst.fst.snd == 0 && true) then
                                      bif r3.snd.fst == f0 && (r3.snd.snd == f1 && true) then
                                        bif r3.fst.fst == (r1.fst.fst.fst == 6) then
                                          bif r3.fst.snd.fst then
                                            bif r3.fst.snd.snd == true then
                                              bif r4.fst.fst.fst == 2 then some (true, PUnit.unit)
                                              else some (false, PUnit.unit)
                                            else some (false, PUnit.unit)
                                          else some (false, PUnit.unit)
                                        else some (false, PUnit.unit)
                                      else some (false, PUnit.unit)
                                    else some (false, PUnit.unit)
                              else none
                            else
                              bif (which.tmod 5).toNat.beq 4 then
                                bif decide (0 + List.length r2.fst.snd ≤ List.length r2.fst.snd) && true then
                                  (l2
                                        (List.take (List.length r2.fst.snd) (List.drop 0 r2.fst.snd),
                                          (↑(List.length r2.fst.snd) : Int))
                                        ((0, 0), false, false, false, 0)).bind
                                    fun r3 =>
                                    (x9 ((r2.fst.fst.fst, r2.fst.fst.snd), 1, 0, 0, 0, 0, [])).bind fun r4 =>
                                      bif r2.fst.fst.fst == 1 && (r2.fst.fst.snd == 0 && true) then
                                        bif r3.snd.fst == 0 && (r3.snd.snd == 0 && true) then
                                          bif r3.fst.fst == (r1.fst.fst.fst == 6) then
                                            bif r3.fst.snd.fst then
                                              bif r3.fst.snd.snd == true then
                                                bif r4.fst.fst.fst == 2 then some (true, PUnit.unit)
                                                else some (false, PUnit.unit)
                                              else some (false, PUnit.unit)
                                            else some (false, PUnit.unit)
                                          else some (false, PUnit.unit)
                                        else some (false, PUnit.unit)
                                      else some (false, PUnit.unit)
                                else none
                              else none
                    else none
                else
                  bif (which.tmod 5).toNat.beq 2 then
                    (x9 ((r1.fst.fst.fst, r1.fst.fst.snd), 7, 0, 0, f0, f1, [])).bind fun r2 =>
                      bif decide (0 ≤ which.tmod 5 ∧ which.tmod 5 < 5) then
                        bif (which.tmod 5).toNat.beq 0 then
                          bif decide (0 + List.length r2.fst.snd ≤ List.length r2.fst.snd) && true then
                            (l2
                                  (List.take (List.length r2.fst.snd) (List.drop 0 r2.fst.snd),
                                    (↑(List.length r2.fst.snd) : Int))
                                  ((0, 0), false, false, false, 0)).bind
                              fun r3 =>
                              (x9 ((r2.fst.fst.fst, r2.fst.fst.snd), 1, 0, 0, 0, 0, [])).bind fun r4 =>
                                bif r2.fst.fst.fst == 1 && (r2.fst.fst.snd == 0 && true) then
                                  bif r3.snd.fst == 6 && (r3.snd.snd == 2 && true) then
                                    bif r3.fst.fst == (r1.fst.fst.fst == 6) then
                                      bif r3.fst.snd.fst then
                                        bif r3.fst.snd.snd == true then
                                          bif r4.fst.fst.fst == 2 then some (true, PUnit.unit)
                                          else some (false, PUnit.unit)
                                        else some (false, PUnit.unit)
                                      else some (false, PUnit.unit)
                                    else some (false, PUnit.unit)
                                  else some (false, PUnit.unit)
                                else some (false, PUnit.unit)
                          else none
                        else
                          bif (which.tmod 5).toNat.beq 1 then
                            bif decide (0 + List.length r2.fst.snd ≤ List.length r2.fst.snd) && true then
                              (l2
                                    (List.take (List.length r2.fst.snd) (List.drop 0 r2.fst.snd),
                                      (↑(List.length r2.fst.snd) : Int))
                                    ((0, 0), false, false, false, 0)).bind
                                fun r3 =>
                                (x9 ((r2.fst.fst.fst, r2.fst.fst.snd), 1, 0, 0, 0, 0, [])).bind fun r4 =>
                                  bif r2.fst.fst.fst == 1 && (r2.fst.fst.snd == 0 && true) then
                                    bif r3.snd.fst == 4 && (r3.snd.snd == 0 && true) then
                                      bif r3.fst.fst == (r1.fst.fst.fst == 6) then
                                        bif r3.fst.snd.fst then
                                          bif r3.fst.snd.snd == true then
                                            bif r4.fst.fst.fst == 2 then some (true, PUnit.unit)
                                            else some (false, PUnit.unit)
                                          else some (false, PUnit.unit)
                                        else some (false, PUnit.unit)
                                      else some (false, PUnit.unit)
                                    else some (false, PUnit.unit)
                                  else some (false, PUnit.unit)
                            else none
                          else
                            bif (which.tmod 5).toNat.beq 2 then
                              bif decide (0 + List.length r2.fst.snd ≤ List.length r2.fst.snd) && true then
                                (l2
                                      (List.take (List.length r2.fst.snd) (List.drop 0 r2.fst.snd),
                                        (↑(List.length r2.fst.snd) : Int))
                                      ((0, 0), false, false, false, 0)).bind
                                  fun r3 =>
                                  (x9 ((r2.fst.fst.fst, r2.fst.fst.snd), 1, 0, 0, 0, 0, [])).bind fun r4 =>
                                    bif r2.fst.fst.fst == 1 && (r2.fst.fst.snd == 0 && true) then
                                      bif r3.snd.fst == f0 && (r3.snd.snd == f1 && true) then
                                        bif r3.fst.fst == (r1.fst.fst.fst == 6) then
                                          bif r3.fst.snd.fst then
                                            bif r3.fst.snd.snd == true then
                                              bif r4.fst.fst.fst == 2 then some (true, PUnit.unit)
                                              else some (false, PUnit.unit)
                                            else some (false, PUnit.unit)
                                          else some (false, PUnit.unit)
                                        else some (false, PUnit.unit)
                                      else some (false, PUnit.unit)
                                    else some (false, PUnit.unit)
                              else none
                            else
                              bif (which.tmod 5).toNat.beq 3 then
                                bif decide (0 + List.length r2.fst.snd ≤ List.length r2.fst.snd) && true then
                                  (l2
                                        (List.take (List.length r2.fst.snd) (List.drop 0 r2.fst.snd),
                                          (↑(List.length r2.fst.snd) : Int))
                                        ((0, 0), false, false, false, 0)).bind
                                    fun r3 =>
                                    (x9 ((r2.fst.fst.fst, r2.fst.fst.snd), 1, 0, 0, 0, 0, [])).bind fun r4 =>
                                      bif r2.fst.fst.fst == 1 && (r2.fst.fst.snd == 0 && true) then
                                        bif r3.snd.fst == f0 && (r3.snd.snd == f1 && true) then
                                          bif r3.fst.fst == (r1.fst.fst.fst == 6) then
                                            bif r3.fst.snd.fst then
                                              bif r3.fst.snd.snd == true then
                                                bif r4.fst.fst.fst == 2 then some (true, PUnit.unit)
                                                else some (false, PUnit.unit)
                                              else some (false, PUnit.unit)
                                            else some (false, PUnit.unit)
                                          else some (false, PUnit.unit)
                                        else some (false, PUnit.unit)
                                      else some (false, PUnit.unit)
                                else none
                              else
                                bif (which.tmod 5).toNat.beq 4 then
                                  bif decide (0 + List.length r2.fst.snd ≤ List.length r2.fst.snd) && true then
                                    (l2
                                          (List.take (List.length r2.fst.snd) (List.drop 0 r2.fst.snd),
                                            (↑(List.length r2.fst.snd) : Int))
                                          ((0, 0), false, false, false, 0)).bind
                                      fun r3 =>
                                      (x9 ((r2.fst.fst.fst, r2.fst.fst.snd), 1, 0, 0, 0, 0, [])).bind fun r4 =>
                                        bif r2.fst.fst.fst == 1 && (r2.fst.fst.snd == 0 && true) then
                                          bif r3.snd.fst == 0 && (r3.snd.snd == 0 && true) then
                                            bif r3.fst.fst == (r1.fst.fst.fst == 6) then
                                              bif r3.fst.snd.fst then
                                                bif r3.fst.snd.snd == true then
                                                  bif r4.fst.fst.fst == 2 then some (true, PUnit.unit)
                                                  else some (false, PUnit.unit)
                                                else some (false, PUnit.unit)
                                              else some (false, PUnit.unit)
                                            else some (false, PUnit.unit)
                                          else some (false, PUnit.unit)
                                        else some (false, PUnit.unit)
                                  else none
                                else none
                      else none
                  else
                    bif (which.tmod 5).toNat.beq 3 then
                      (x9 ((r1.fst.fst.fst, r1.fst.fst.snd), 8, 0, 0, f0, f1, [])).bind fun r2 =>
                        bif decide (0 ≤ which.tmod 5 ∧ which.tmod 5 < 5) then
                          bif (which.tmod 5).toNat.beq 0 then
                            bif decide (0 + List.length r2.fst.snd ≤ List.length r2.fst.snd) && true then
                              (l2
                                    (List.take (List.length r2.fst.snd) (List.drop 0 r2.fst.snd),
                                      (↑(List.length r2.fst.snd) : Int))
                                    ((0, 0), false, false, false, 0)).bind
                                fun r3 =>
                                (x9 ((r2.fst.fst.fst, r2.fst.fst.snd), 1, 0, 0, 0, 0, [])).bind fun r4 =>
                                  bif r2.fst.fst.fst == 1 && (r2.fst.fst.snd == 0 && true) then
                                    bif r3.snd.fst == 6 && (r3.snd.snd == 2 && true) then
                                      bif r3.fst.fst == (r1.fst.fst.fst == 6) then
                                        bif r3.fst.snd.fst then
                                          bif r3.fst.snd.snd == true then
                                            bif r4.fst.fst.fst == 2 then some (true, PUnit.unit)
                                            else some (false, PUnit.unit)
                                          else some (false, PUnit.unit)
                                        else some (false, PUnit.unit)
                                      else some (false, PUnit.unit)
                                    else some (false, PUnit.unit)
                                  else some (false, PUnit.unit)
                            else none
                          else
                            bif (which.tmod 5).toNat.beq 1 then
                              bif decide (0 + List.length r2.fst.snd ≤ List.length r2.fst.snd) && true then
                                (l2
                                      (List.take (List.length r2.fst.snd) (List.drop 0 r2.fst.snd),
                                        (↑(List.length r2.fst.snd) : Int))
                                      ((0, 0), false, false, false, 0)).bind
                                  fun r3 =>
                                  (x9 ((r2.fst.fst.fst, r2.fst.fst.snd), 1, 0, 0, 0, 0, [])).bind fun r4 =>
                                    bif r2.fst.fst.fst == 1 && (r2.fst.fst.snd == 0 && true) then
                                      bif r3.snd.fst == 4 && (r3.snd.snd == 0 && true) then
                                        bif r3.fst.fst == (r1.fst.fst.fst == 6) then
                                          bif r3.fst.snd.fst then
                                            bif r3.fst.snd.snd == true then
                                              bif r4.fst.fst.fst == 2 then some (true, PUnit.unit)
                                              else some (false, PUnit.unit)
                                            else some (false, PUnit.unit)
                                          else some (false, PUnit.unit)
                                        else some (false, PUnit.unit)
                                      else some (false, PUnit.unit)
                                    else some (false, PUnit.unit)
                              else none
                            else
                              bif (which.tmod 5).toNat.beq 2 then
                                bif decide (0 + List.length r2.fst.snd ≤ List.length r2.fst.snd) && true then
                                  (l2
                                        (List.take (List.length r2.fst.snd) (List.drop 0 r2.fst.snd),
                                          (↑(List.length r2.fst.snd) : Int))
                                        ((0, 0), false, false, false, 0)).bind
                                    fun r3 =>
                                    (x9 ((r2.fst.fst.fst, r2.fst.fst.snd), 1, 0, 0, 0, 0, [])).bind fun r4 =>
                                      bif r2.fst.fst.fst == 1 && (r2.fst.fst.snd == 0 && true) then
                                        bif r3.snd.fst == f0 && (r3.snd.snd == f1 && true) then
                                          bif r3.fst.fst == (r1.fst.fst.fst == 6) then
                                            bif r3.fst.snd.fst then
                                              bif r3.fst.snd.snd == true then
                                                bif r4.fst.fst.fst == 2 then some (true, PUnit.unit)
                                                else some (false, PUnit.unit)
                                              else some (false, PUnit.unit)
                                            else some (false, PUnit.unit)
                                          else some (false, PUnit.unit)
                                        else some (false, PUnit.unit)
                                      else some (false, PUnit.unit)
                                else none
                              else
                                bif (which.tmod 5).toNat.beq 3 then
                                  bif decide (0 + List.length r2.fst.snd ≤ List.length r2.fst.snd) && true then
                                    (l2
                                          (List.take (List.length r2.fst.snd) (List.drop 0 r2.fst.snd),
                                            (↑(List.length r2.fst.snd) : Int))
                                          ((0, 0), false, false, false, 0)).bind
                                      fun r3 =>
                                      (x9 ((r2.fst.fst.fst, r2.fst.fst.snd), 1, 0, 0, 0, 0, [])).bind fun r4 =>
                                        bif r2.fst.fst.fst == 1 && (r2.fst.fst.snd == 0 && true) then
                                          bif r3.snd.fst == f0 && (r3.snd.snd == f1 && true) then
                                            bif r3.fst.fst == (r1.fst.fst.fst == 6) then
                                              bif r3.fst.snd.fst then
                                                bif r3.fst.snd.snd == true then
                                                  bif r4.fst.fst.fst == 2 then some (true, PUnit.unit)
                                                  else some (false, PUnit.unit)
                                                else some (false, PUnit.unit)
                                              else some (false, PUnit.unit)
                                            else some (false, PUnit.unit)
                                          else some (false, PUnit.unit)
                                        else some (false, PUnit.unit)
                                  else none
                                else
                                  bif (which.tmod 5).toNat.beq 4 then
                                    bif decide (0 + List.length r2.fst.snd ≤ List.length r2.fst.snd) && true then
                                      (l2
                                            (List.take (List.length r2.fst.snd) (List.drop 0 r2.fst.snd),
                                              (↑(List.length r2.fst.snd) : Int))
                                            ((0, 0), false, false, false, 0)).bind
                                        fun r3 =>
                                        (x9 ((r2.fst.fst.fst, r2.fst.fst.snd), 1, 0, 0, 0, 0, [])).bind fun r4 =>
                                          bif r2.fst.fst.fst == 1 && (r2.fst.fst.snd == 0 && true) then
                                            bif r3.snd.fst == 0 && (r3.snd.snd == 0 && true) then
                                              bif r3.fst.fst == (r1.fst.fst.fst == 6) then
                                                bif r3.fst.snd.fst then
                                                  bif r3.fst.snd.snd == true then
                                                    bif r4.fst.fst.fst == 2 then some (true, PUnit.unit)
                                                    else some (false, PUnit.unit)
                                                  else some (false, PUnit.unit)
                                                else some (false, PUnit.unit)
                                              else some (false, PUnit.unit)
                                            else some (false, PUnit.unit)
                                          else some (false, PUnit.unit)
                                    else none
                                  else none
                        else none
                    else
                      bif (which.tmod 5).toNat.beq 4 then
                        (x9 ((r1.fst.fst.fst, r1.fst.fst.snd), 5, 3, 0, 0, 0, [])).bind fun r2 =>
                          bif decide (0 ≤ which.tmod 5 ∧ which.tmod 5 < 5) then
                            bif (which.tmod 5).toNat.beq 0 then
                              bif decide (0 + List.length r2.fst.snd ≤ List.length r2.fst.snd) && true then
                                (l2
                                      (List.take (List.length r2.fst.snd) (List.drop 0 r2.fst.snd),
                                        (↑(List.length r2.fst.snd) : Int))
                                      ((0, 0), false, false, false, 0)).bind
                                  fun r3 =>
                                  (x9 ((r2.fst.fst.fst, r2.fst.fst.snd), 1, 0, 0, 0, 0, [])).bind fun r4 =>
                                    bif r2.fst.fst.fst == 1 && (r2.fst.fst.snd == 0 && true) then
                                      bif r3.snd.fst == 6 && (r3.snd.snd == 2 && true) then
                                        bif r3.fst.fst == (r1.fst.fst.fst == 6) then
                                          bif r3.fst.snd.fst then
                                            bif r3.fst.snd.snd == true then
                                              bif r4.fst.fst.fst == 2 then some (true, PUnit.unit)
                                              else some (false, PUnit.unit)
                                            else some (false, PUnit.unit)
                                          else some (false, PUnit.unit)
                                        else some (false, PUnit.unit)
                                      else some (false, PUnit.unit)
                                    else some (false, PUnit.unit)
                              else none
                            else
                              bif (which.tmod 5).toNat.beq 1 then
                                bif decide (0 + List.length r2.fst.snd ≤ List.length r2.fst.snd) && true then
                                  (l2
                                        (List.take (List.length r2.fst.snd) (List.drop 0 r2.fst.snd),
                                          (↑(List.length r2.fst.snd) : Int))
                                        ((0, 0), false, false, false, 0)).bind
                                    fun r3 =>
                                    (x9 ((r2.fst.fst.fst, r2.fst.fst.snd), 1, 0, 0, 0, 0, [])).bind fun r4 =>
                                      bif r2.fst.fst.fst == 1 && (r2.fst.fst.snd == 0 && true) then
                                        bif r3.snd.fst == 4 && (r3.snd.snd == 0 && true) then
                                          bif r3.fst.fst == (r1.fst.fst.fst == 6) then
                                            bif r3.fst.snd.fst then
                                              bif r3.fst.snd.snd == true then
                                                bif r4.fst.fst.fst == 2 then some (true, PUnit.unit)
                                                else some (false, PUnit.unit)
                                              else some (false, PUnit.unit)
                                            else some (false, PUnit.unit)
                                          else some (false, PUnit.unit)
                                        else some (false, PUnit.unit)
                                      else some (false, PUnit.unit)
                                else none
                              else
                                bif (which.tmod 5).toNat.beq 2 then
                                  bif decide (0 + List.length r2.fst.snd ≤ List.length r2.fst.snd) && true then
                                    (l2
                                          (List.take (List.length r2.fst.snd) (List.drop 0 r2.fst.snd),
                                            (↑(List.length r2.fst.snd) : Int))
                                          ((0, 0), false, false, false, 0)).bind
                                      fun r3 =>
                                      (x9 ((r2.fst.fst.fst, r2.fst.fst.snd), 1, 0, 0, 0, 0, [])).bind fun r4 =>
                                        bif r2.fst.fst.fst == 1 && (r2.fst.fst.snd == 0 && true) then
                                          bif r3.snd.fst == f0 && (r3.snd.snd == f1 && true) then
                                            bif r3.fst.fst == (r1.fst.fst.fst == 6) then
                                              bif r3.fst.snd.fst then
                                                bif r3.fst.snd.snd == true then
                                                  bif r4.fst.fst.fst == 2 then some (true, PUnit.unit)
                                                  else some (false, PUnit.unit)
                                                else some (false, PUnit.unit)
                                              else some (false, PUnit.unit)
                                            else some (false, PUnit.unit)
                                          else some (false, PUnit.unit)
                                        else some (false, PUnit.unit)
                                  else none
                                else
                                  bif (which.tmod 5).toNat.beq 3 then
                                    bif decide (0 + List.length r2.fst.snd ≤ List.length r2.fst.snd) && true then
                                      (l2
                                            (List.take (List.length r2.fst.snd) (List.drop 0 r2.fst.snd),
                                              (↑(List.length r2.fst.snd) : Int))
                                            ((0, 0), false, false, false, 0)).bind
                                        fun r3 =>
                                        (x9 ((r2.fst.fst.fst, r2.fst.fst.snd), 1, 0, 0, 0, 0, [])).bind fun r4 =>
                                          bif r2.fst.fst.fst == 1 && (r2.fst.fst.snd == 0 && true) then
                                            bif r3.snd.fst == f0 && (r3.snd.snd == f1 && true) then
                                              bif r3.fst.fst == (r1.fst.fst.fst == 6) then
                                                bif r3.fst.snd.fst then
                                                  bif r3.fst.snd.snd == true then
                                                    bif r4.fst.fst.fst == 2 then some (true, PUnit.unit)
                                                    else some (false, PUnit.unit)
                                                  else some (false, PUnit.unit)
                                                else some (false, PUnit.unit)
                                              else some (false, PUnit.unit)
                                            else some (false, PUnit.unit)
                                          else some (false, PUnit.unit)
                                    else none
                                  else
                                    bif (which.tmod 5).toNat.beq 4 then
                                      bif decide (0 + List.length r2.fst.snd ≤ List.length r2.fst.snd) && true then
                                        (l2
                                              (List.take (List.length r2.fst.snd) (List.drop 0 r2.fst.snd),
                                                (↑(List.length r2.fst.snd) : Int))
                                              ((0, 0), false, false, false, 0)).bind
                                          fun r3 =>
                                          (x9 ((r2.fst.fst.fst, r2.fst.fst.snd), 1, 0, 0, 0, 0, [])).bind fun r4 =>
                                            bif r2.fst.fst.fst == 1 && (r2.fst.fst.snd == 0 && true) then
                                              bif r3.snd.fst == 0 && (r3.snd.snd == 0 && true) then
                                                bif r3.fst.fst == (r1.fst.fst.fst == 6) then
                                                  bif r3.fst.snd.fst then
                                                    bif r3.fst.snd.snd == true then
                                                      bif r4.fst.fst.fst == 2 then some (true, PUnit.unit)
                                                      else some (false, PUnit.unit)
                                                    else some (false, PUnit.unit)
                                                  else some (false, PUnit.unit)
                                                else some (false, PUnit.unit)
                                              else some (false, PUnit.unit)
                                            else some (false, PUnit.unit)
                                      else none
                                    else none
                          else none
                      else none
            else none
        else
          bif decide (0 ≤ which.tmod 5 ∧ which.tmod 5 < 5) then
            bif (which.tmod 5).toNat.beq 0 then
              (x9 ((r0.snd.fst, r0.snd.snd), 2, 0, 0, 0, 0, [])).bind fun r1 =>
                bif decide (0 ≤ which.tmod 5 ∧ which.tmod 5 < 5) then
                  bif (which.tmod 5).toNat.beq 0 then
                    bif decide (0 + List.length r1.fst.snd ≤ List.length r1.fst.snd) && true then
                      (l2 (List.take (List.length r1.fst.snd) (List.drop 0 r1.fst.snd), (↑(List.length r1.fst.snd) : Int))
                            ((0, 0), false, false, false, 0)).bind
                        fun r2 =>
                        (x9 ((r1.fst.fst.fst, r1.fst.fst.snd), 1, 0, 0, 0, 0, [])).bind fun r3 =>
                          bif r1.fst.fst.fst == 1 && (r1.fst.fst.snd == 0 && true) then
                            bif r2.snd.fst == 6 && (r2.snd.snd == 2 && true) then
                              bif r2.fst.fst == (r0.snd.fst == 6) then
                                bif r2.fst.snd.fst then
                                  bif r2.fst.snd.snd == false then
                                    bif r3.fst.fst.fst == 2 then some (true, PUnit.unit) else some (false, PUnit.unit)
                                  else some (false, PUnit.unit)
                                else some (false, PUnit.unit)
                              else some (false, PUnit.unit)
                            else some (false, PUnit.unit)
                          else some (false, PUnit.unit)
                    else none
                  else
                    bif (which.tmod 5).toNat.beq 1 then
                      bif decide (0 + List.length r1.fst.snd ≤ List.length r1.fst.snd) && true then
                        (l2
                              (List.take (List.length r1.fst.snd) (List.drop 0 r1.fst.snd),
                                (↑(List.length r1.fst.snd) : Int))
                              ((0, 0), false, false, false, 0)).bind
                          fun r2 =>
                          (x9 ((r1.fst.fst.fst, r1.fst.fst.snd), 1, 0, 0, 0, 0, [])).bind fun r3 =>
                            bif r1.fst.fst.fst == 1 && (r1.fst.fst.snd == 0 && true) then
                              bif r2.snd.fst == 4 && (r2.snd.snd == 0 && true) then
                                bif r2.fst.fst == (r0.snd.fst == 6) then
                                  bif r2.fst.snd.fst then
                                    bif r2.fst.snd.snd == false then
                                      bif r3.fst.fst.fst == 2 then some (true, PUnit.unit) else some (false, PUnit.unit)
                                    else some (false, PUnit.unit)
                                  else some (false, PUnit.unit)
                                else some (false, PUnit.unit)
                              else some (false, PUnit.unit)
                            else some (false, PUnit.unit)
                      else none
                    else
                      bif (which.tmod 5).toNat.beq 2 then
                        bif decide (0 + List.length r1.fst.snd ≤ List.length r1.fst.snd) && true then
                          (l2
                                (List.take (List.length r1.fst.snd) (List.drop 0 r1.fst.snd),
                                  (↑(List.length r1.fst.snd) : Int))
                                ((0, 0), false, false, false, 0)).bind
                            fun r2 =>
                            (x9 ((r1.fst.fst.fst, r1.fst.fst.snd), 1, 0, 0, 0, 0, [])).bind fun r3 =>
                              bif r1.fst.fst.fst == 1 && (r1.fst.fst.snd == 0 && true) then
                                bif r2.snd.fst == f0 && (r2.snd.snd == f1 && true) then
                                  bif r2.fst.fst == (r0.snd.fst == 6) then
                                    bif r2.fst.snd.fst then
                                      bif r2.fst.snd.snd == false then
                                        bif r3.fst.fst.fst == 2 then some (true, PUnit.unit) else some (false, PUnit.unit)
                                      else some (false, PUnit.unit)
                                    else some (false, PUnit.unit)
                                  else some (false, PUnit.unit)
                                else some (false, PUnit.unit)
                              else some (false, PUnit.unit)
                        else none
                      else
                        bif (which.tmod 5).toNat.beq 3 then
                          bif decide (0 + List.length r1.fst.snd ≤ List.length r1.fst.snd) && true then
                            (l2
                                  (List.take (List.length r1.fst.snd) (List.drop 0 r1.fst.snd),
                                    (↑(List.length r1.fst.snd) : Int))
                                  ((0, 0), false, false, false, 0)).bind
                              fun r2 =>
                              (x9 ((r1.fst.fst.fst, r1.fst.fst.snd), 1, 0, 0, 0, 0, [])).bind fun r3 =>
                                bif r1.fst.fst.fst == 1 && (r1.fst.fst.snd == 0 && true) then
                                  bif r2.snd.fst == f0 && (r2.snd.snd == f1 && true) then
                                    bif r2.fst.fst == (r0.snd.fst == 6) then
                                      bif r2.fst.snd.fst then
                                        bif r2.fst.snd.snd == false then
                                          bif r3.fst.fst.fst == 2 then some (true, PUnit.unit)
                                          else some (false, PUnit.unit)
                                        else some (false, PUnit.unit)
                                      else some (false, PUnit.unit)
                                    else some (false, PUnit.unit)
                                  else some (false, PUnit.unit)
                                else some (false, PUnit.unit)
                          else none
                        else
                          bif (which.tmod 5).toNat.beq 4 then
                            bif decide (0 + List.length r1.fst.snd ≤ List.length r1.fst.snd) && true then
                              (l2
                                    (List.take (List.length r1.fst.snd) (List.drop 0 r1.fst.snd),
                                      (↑(List.length r1.fst.snd) : Int))
                                    ((0, 0), false, false, false, 0)).bind
                                fun r2 =>
                                (x9 ((r1.fst.fst.fst, r1.fst.fst.snd), 1, 0, 0, 0, 0, [])).bind fun r3 =>
                                  bif r1.fst.fst.fst == 1 && (r1.fst.fst.snd == 0 && true) then
                                    bif r2.snd.fst == 0 && (r2.snd.snd == 0 && true) then
                                      bif r2.fst.fst == (r0.snd.fst == 6) then
                                        bif r2.fst.snd.fst then
                                          bif r2.fst.snd.snd == false then
                                            bif r3.fst.fst.fst == 2 then some (true, PUnit.unit)
                                            else some (false, PUnit.unit)
                                          else some (false, PUnit.unit)
                                        else some (false, PUnit.unit)
                                      else some (false, PUnit.unit)
                                    else some (false, PUnit.unit)
                                  else some (false, PUnit.unit)
                            else none
                          else none
                else none
            else
              bif (which.tmod 5).toNat.beq 1 then
                (x9 ((r0.snd.fst, r0.snd.snd), 6, 2, 0, 0, 0, [])).bind fun r1 =>
                  bif decide (0 ≤ which.tmod 5 ∧ which.tmod 5 < 5) then
                    bif (which.tmod 5).toNat.beq 0 then
                      bif decide (0 + List.length r1.fst.snd ≤ List.length r1.fst.snd) && true then
                        (l2
                              (List.take (List.length r1.fst.snd) (List.drop 0 r1.fst.snd),
                                (↑(List.length r1.fst.snd) : Int))
                              ((0, 0), false, false, false, 0)).bind
                          fun r2 =>
                          (x9 ((r1.fst.fst.fst, r1.fst.fst.snd), 1, 0, 0, 0, 0, [])).bind fun r3 =>
                            bif r1.fst.fst.fst == 1 && (r1.fst.fst.snd == 0 && true) then
                              bif r2.snd.fst == 6 && (r2.snd.snd == 2 && true) then
                                bif r2.fst.fst == (r0.snd.fst == 6) then
                                  bif r2.fst.snd.fst then
                                    bif r2.fst.snd.snd == true then
                                      bif r3.fst.fst.fst == 2 then some (true, PUnit.unit) else some (false, PUnit.unit)
                                    else some (false, PUnit.unit)
                                  else some (false, PUnit.unit)
                                else some (false, PUnit.unit)
                              else some (false, PUnit.unit)
                            else some (false, PUnit.unit)
                      else none
                    else
                      bif (which.tmod 5).toNat.beq 1 then
                        bif decide (0 + List.length r1.fst.snd ≤ List.length r1.fst.snd) && true then
                          (l2
                                (List.take (List.length r1.fst.snd) (List.drop 0 r1.fst.snd),
                                  (↑(List.length r1.fst.snd) : Int))
                                ((0, 0), false, false, false, 0)).bind
                            fun r2 =>
                            (x9 ((r1.fst.fst.fst, r1.fst.fst.snd), 1, 0, 0, 0, 0, [])).bind fun r3 =>
                              bif r1.fst.fst.fst == 1 && (r1.fst.fst.snd == 0 && true) then
                                bif r2.snd.fst == 4 && (r2.snd.snd == 0 && true) then
                                  bif r2.fst.fst == (r0.snd.fst == 6) then
                                    bif r2.fst.snd.fst then
                                      bif r2.fst.snd.snd == true then
                                        bif r3.fst.fst.fst == 2 then some (true, PUnit.unit) else some (false, PUnit.unit)
                                      else some (false, PUnit.unit)
                                    else some (false, PUnit.unit)
                                  else some (false, PUnit.unit)
                                else some (false, PUnit.unit)
                              else some (false, PUnit.unit)
                        else none
                      else
                        bif (which.tmod 5).toNat.beq 2 then
                          bif decide (0 + List.length r1.fst.snd ≤ List.length r1.fst.snd) && true then
                            (l2
                                  (List.take (List.length r1.fst.snd) (List.drop 0 r1.fst.snd),
                                    (↑(List.length r1.fst.snd) : Int))
                                  ((0, 0), false, false, false, 0)).bind
                              fun r2 =>
                              (x9 ((r1.fst.fst.fst, r1.fst.fst.snd), 1, 0, 0, 0, 0, [])).bind fun r3 =>
                                bif r1.fst.fst.fst == 1 && (r1.fst.fst.snd == 0 && true) then
                                  bif r2.snd.fst == f0 && (r2.snd.snd == f1 && true) then
                                    bif r2.fst.fst == (r0.snd.fst == 6) then
                                      bif r2.fst.snd.fst then
                                        bif r2.fst.snd.snd == true then
                                          bif r3.fst.fst.fst == 2 then some (true, PUnit.unit)
                                          else some (false, PUnit.unit)
                                        else some (false, PUnit.unit)
                                      else some (false, PUnit.unit)
                                    else some (false, PUnit.unit)
                                  else some (false, PUnit.unit)
                                else some (false, PUnit.unit)
                          else none
                        else
                          bif (which.tmod 5).toNat.beq 3 then
                            bif decide (0 + List.length r1.fst.snd ≤ List.length r1.fst.snd) && true then
                              (l2
                                    (List.take (List.length r1.fst.snd) (List.drop 0 r1.fst.snd),
                                      (↑(List.length r1.fst.snd) : Int))
                                    ((0, 0), false, false, false, 0)).bind
                                fun r2 =>
                                (x9 ((r1.fst.fst.fst, r1.fst.fst.snd), 1, 0, 0, 0, 0, [])).bind fun r3 =>
                                  bif r1.fst.fst.fst == 1 && (r1.fst.fst.snd == 0 && true) then
                                    bif r2.snd.fst == f0 && (r2.snd.snd == f1 && true) then
                                      bif r2.fst.fst == (r0.snd.fst == 6) then
                                        bif r2.fst.snd.fst then
                                          bif r2.fst.snd.snd == true then
                                            bif r3.fst.fst.fst == 2 then some (true, PUnit.unit)
                                            else some (false, PUnit.unit)
                                          else some (false, PUnit.unit)
                                        else some (false, PUnit.unit)
                                      else some (false, PUnit.unit)
                                    else some (false, PUnit.unit)
                                  else some (false, PUnit.unit)
                            else none
                          else
                            bif (which.tmod 5).toNat.beq 4 then
                              bif decide (0 + List.length r1.fst.snd ≤ List.length r1.fst.snd) && true then
                                (l2
                                      (List.take (List.length r1.fst.snd) (List.drop 0 r1.fst.snd),
                                        (↑(List.length r1.fst.snd) : Int))
                                      ((0, 0), false, false, false, 0)).bind
                                  fun r2 =>
                                  (x9 ((r1.fst.fst.fst, r1.fst.fst.snd), 1, 0, 0, 0, 0, [])).bind fun r3 =>
                                    bif r1.fst.fst.fst == 1 && (r1.fst.fst.snd == 0 && true) then
                                      bif r2.snd.fst == 0 && (r2.snd.snd == 0 && true) then
                                        bif r2.fst.fst == (r0.snd.fst == 6) then
                                          bif r2.fst.snd.fst then
                                            bif r2.fst.snd.snd == true then
                                              bif r3.fst.fst.fst == 2 then some (true, PUnit.unit)
                                              else some (false, PUnit.unit)
                                            else some (false, PUnit.unit)
                                          else some (false, PUnit.unit)
                                        else some (false, PUnit.unit)
                                      else some (false, PUnit.unit)
                                    else some (false, PUnit.unit)
                              else none
                            else none
                  else none
              else
                bif (which.tmod 5).toNat.beq 2 then
                  (x9 ((r0.snd.fst, r0.snd.snd), 7, 0, 0, f0, f1, [])).bind fun r1 =>
                    bif decide (0 ≤ which.tmod 5 ∧ which.tmod 5 < 5) then
                      bif (which.tmod 5).toNat.beq 0 then
                        bif decide (0 + List.length r1.fst.snd ≤ List.length r1.fst.snd) && true then
                          (l2
                                (List.take (List.length r1.fst.snd) (List.drop 0 r1.fst.snd),
                                  (↑(List.length r1.fst.snd) : Int))
                                ((0, 0), false, false, false, 0)).bind
                            fun r2 =>
                            (x9 ((r1.fst.fst.fst, r1.fst.fst.snd), 1, 0, 0, 0, 0, [])).bind fun r3 =>
                              bif r1.fst.fst.fst == 1 && (r1.fst.fst.snd == 0 && true) then
                                bif r2.snd.fst == 6 && (r2.snd.snd == 2 && true) then
                                  bif r2.fst.fst == (r0.snd.fst == 6) then
                                    bif r2.fst.snd.fst then
                                      bif r2.fst.snd.snd == true then
                                        bif r3.fst.fst.fst == 2 then some (true, PUnit.unit) else some (false, PUnit.unit)
                                      else some (false, PUnit.unit)
                                    else some (false, PUnit.unit)
                                  else some (false, PUnit.unit)
                                else some (false, PUnit.unit)
                              else some (false, PUnit.unit)
                        else none
                      else
                        bif (which.tmod 5).toNat.beq 1 then
                          bif decide (0 + List.length r1.fst.snd ≤ List.length r1.fst.snd) && true then
                            (l2
                                  (List.take (List.length r1.fst.snd) (List.drop 0 r1.fst.snd),
                                    (↑(List.length r1.fst.snd) : Int))
                                  ((0, 0), false, false, false, 0)).bind
                              fun r2 =>
                              (x9 ((r1.fst.fst.fst, r1.fst.fst.snd), 1, 0, 0, 0, 0, [])).bind fun r3 =>
                                bif r1.fst.fst.fst == 1 && (r1.fst.fst.snd == 0 && true) then
                                  bif r2.snd.fst == 4 && (r2.snd.snd == 0 && true) then
                                    bif r2.fst.fst == (r0.snd.fst == 6) then
                                      bif r2.fst.snd.fst then
                                        bif r2.fst.snd.snd == true then
                                          bif r3.fst.fst.fst == 2 then some (true, PUnit.unit)
                                          else some (false, PUnit.unit)
                                        else some (false, PUnit.unit)
                                      else some (false, PUnit.unit)
                                    else some (false, PUnit.unit)
                                  else some (false, PUnit.unit)
                                else some (false, PUnit.unit)
                          else none
                        else
                          bif (which.tmod 5).toNat.beq 2 then
                            bif decide (0 + List.length r1.fst.snd ≤ List.length r1.fst.snd) && true then
                              (l2
                                    (List.take (List.length r1.fst.snd) (List.drop 0 r1.fst.snd),
                                      (↑(List.length r1.fst.snd) : Int))
                                    ((0, 0), false, false, false, 0)).bind
                                fun r2 =>
                                (x9 ((r1.fst.fst.fst, r1.fst.fst.snd), 1, 0, 0, 0, 0, [])).bind fun r3 =>
                                  bif r1.fst.fst.fst == 1 && (r1.fst.fst.snd == 0 && true) then
                                    bif r2.snd.fst == f0 && (r2.snd.snd == f1 && true) then
                                      bif r2.fst.fst == (r0.snd.fst == 6) then
                                        bif r2.fst.snd.fst then
                                          bif r2.fst.snd.snd == true then
                                            bif r3.fst.fst.fst == 2 then some (true, PUnit.unit)
                                            else some (false, PUnit.unit)
                                          else some (false, PUnit.unit)
                                        else some (false, PUnit.unit)
                                      else some (false, PUnit.unit)
                                    else some (false, PUnit.unit)
                                  else some (false, PUnit.unit)
                            else none
                          else
                            bif (which.tmod 5).toNat.beq 3 then
                              bif decide (0 + List.length r1.fst.snd ≤ List.length r1.fst.snd) && true then
                                (l2
                                      (List.take (List.length r1.fst.snd) (List.drop 0 r1.fst.snd),
                                        (↑(List.length r1.fst.snd) : Int))
                                      ((0, 0), false, false, false, 0)).bind
                                  fun r2 =>
                                  (x9 ((r1.fst.fst.fst, r1.fst.fst.snd), 1, 0, 0, 0, 0, [])).bind fun r3 =>
                                    bif r1.fst.fst.fst == 1 && (r1.fst.fst.snd == 0 && true) then
                                      bif r2.snd.fst == f0 && (r2.snd.snd == f1 && true) then
                                        bif r2.fst.fst == (r0.snd.fst == 6) then
                                          bif r2.fst.snd.fst then
                                            bif r2.fst.snd.snd == true then
                                              bif r3.fst.fst.fst == 2 then some (true, PUnit.unit)
                                              else some (false, PUnit.unit)
                                            else some (false, PUnit.unit)
                                          else some (false, PUnit.unit)
                                        else some (false, PUnit.unit)
                                      else some (false, PUnit.unit)
                                    else some (false, PUnit.unit)
                              else none
                            else
                              bif (which.tmod 5).toNat.beq 4 then
                                bif decide (0 + List.length r1.fst.snd ≤ List.length r1.fst.snd) && true then
                                  (l2
                                        (List.take (List.length r1.fst.snd) (List.drop 0 r1.fst.snd),
                                          (↑(List.length r1.fst.snd) : Int))
                                        ((0, 0), false, false, false, 0)).bind
                                    fun r2 =>
                                    (x9 ((r1.fst.fst.fst, r1.fst.fst.snd), 1, 0, 0, 0, 0, [])).bind fun r3 =>
                                      bif r1.fst.fst.fst == 1 && (r1.fst.fst.snd == 0 && true) then
                                        bif r2.snd.fst == 0 && (r2.snd.snd == 0 && true) then
                                          bif r2.fst.fst == (r0.snd.fst == 6) then
                                            bif r2.fst.snd.fst then
                                              bif r2.fst.snd.snd == true then
                                                bif r3.fst.fst.fst == 2 then some (true, PUnit.unit)
                                                else some (false, PUnit.unit)
                                              else some (false, PUnit.unit)
                                            else some (false, PUnit.unit)
                                          else some (false, PUnit.unit)
                                        else some (false, PUnit.unit)
                                      else some (false, PUnit.unit)
                                else none
                              else none
                    else none
                else
                  bif (which.tmod 5).toNat.beq 3 then
                    (x9 ((r0.snd.fst, r0.snd.snd), 8, 0, 0, f0, f1, [])).bind fun r1 =>
                      bif decide (0 ≤ which.tmod 5 ∧ which.tmod 5 < 5) then
                        bif (which.tmod 5).toNat.beq 0 then
                          bif decide (0 + List.length r1.fst.snd ≤ List.length r1.fst.snd) && true then
                            (l2
                                  (List.take (List.length r1.fst.snd) (List.drop 0 r1.fst.snd),
                                    (↑(List.length r1.fst.snd) : Int))
                                  ((0, 0), false, false, false, 0)).bind
                              fun r2 =>
                              (x9 ((r1.fst.fst.fst, r1.fst.fst.snd), 1, 0, 0, 0, 0, [])).bind fun r3 =>
                                bif r1.fst.fst.fst == 1 && (r1.fst.fst.snd == 0 && true) then
                                  bif r2.snd.fst == 6 && (r2.snd.snd == 2 && true) then
                                    bif r2.fst.fst == (r0.snd.fst == 6) then
                                      bif r2.fst.snd.fst then
                                        bif r2.fst.snd.snd == true then
                                          bif r3.fst.fst.fst == 2 then some (true, PUnit.unit)
                                          else some (false, PUnit.unit)
                                        else some (false, PUnit.unit)
                                      else some (false, PUnit.unit)
                                    else some (false, PUnit.unit)
                                  else some (false, PUnit.unit)
                                else some (false, PUnit.unit)
                          else none
                        else
                          bif (which.tmod 5).toNat.beq 1 then
                            bif decide (0 + List.length r1.fst.snd ≤ List.length r1.fst.snd) && true then
                              (l2
                                    (List.take (List.length r1.fst.snd) (List.drop 0 r1.fst.snd),
                                      (↑(List.length r1.fst.snd) : Int))
                                    ((0, 0), false, false, false, 0)).bind
                                fun r2 =>
                                (x9 ((r1.fst.fst.fst, r1.fst.fst.snd), 1, 0, 0, 0, 0, [])).bind fun r3 =>
                                  bif r1.fst.fst.fst == 1 && (r1.fst.fst.snd == 0 && true) then
                                    bif r2.snd.fst == 4 && (r2.snd.snd == 0 && true) then
                                      bif r2.fst.fst == (r0.snd.fst == 6) then
                                        bif r2.fst.snd.fst then
                                          bif r2.fst.snd.snd == true then
                                            bif r3.fst.fst.fst == 2 then some (true, PUnit.unit)
                                            else some (false, PUnit.unit)
                                          else some (false, PUnit.unit)
                                        else some (false, PUnit.unit)
                                      else some (false, PUnit.unit)
                                    else some (false, PUnit.unit)
                                  else some (false, PUnit.unit)
                            else none
                          else
                            bif (which.tmod 5).toNat.beq 2 then
                              bif decide (0 + List.length r1.fst.snd ≤ List.length r1.fst.snd) && true then
                                (l2
                                      (List.take (List.length r1.fst.snd) (List.drop 0 r1.fst.snd),
                                        (↑(List.length r1.fst.snd) : Int))
                                      ((0, 0), false, false, false, 0)).bind
                                  fun r2 =>
                                  (x9 ((r1.fst.fst.fst, r1.fst.fst.snd), 1, 0, 0, 0, 0, [])).bind fun r3 =>
                                    bif r1.fst.fst.fst == 1 && (r1.fst.fst.snd == 0 && true) then
                                      bif r2.snd.fst == f0 && (r2.snd.snd == f1 && true) then
                                        bif r2.fst.fst == (r0.snd.fst == 6) then
                                          bif r2.fst.snd.fst then
                                            bif r2.fst.snd.snd == true then
                                              bif r3.fst.fst.fst == 2 then some (true, PUnit.unit)
                                              else some (false, PUnit.unit)
                                            else some (false, PUnit.unit)
                                          else some (false, PUnit.unit)
                                        else some (false, PUnit.unit)
                                      else some (false, PUnit.unit)
                                    else some (false, PUnit.unit)
                              else none
                            else
                              bif (which.tmod 5).toNat.beq 3 then
                                bif decide (0 + List.length r1.fst.snd ≤ List.length r1.fst.snd) && true then
                                  (l2
                                        (List.take (List.length r1.fst.snd) (List.drop 0 r1.fst.snd),
                                          (↑(List.length r1.fst.snd) : Int))
                                        ((0, 0), false, false, false, 0)).bind
                                    fun r2 =>
                                    (x9 ((r1.fst.fst.fst, r1.fst.fst.snd), 1, 0, 0, 0, 0, [])).bind fun r3 =>
                                      bif r1.fst.fst.fst == 1 && (r1.fst.fst.snd == 0 && true) then
                                        bif r2.snd.fst == f0 && (r2.snd.snd == f1 && true) then
                                          bif r2.fst.fst == (r0.snd.fst == 6) then
                                            bif r2.fst.snd.fst then
                                              bif r2.fst.snd.snd == true then
                                                bif r3.fst.fst.fst == 2 then some (true, PUnit.unit)
                                                else some (false, PUnit.unit)
                                              else some (false, PUnit.unit)
                                            else some (false, PUnit.unit)
                                          else some (false, PUnit.unit)
                                        else some (false, PUnit.unit)
                                      else some (false, PUnit.unit)
                                else none
                              else
                                bif (which.tmod 5).toNat.beq 4 then
                                  bif decide (0 + List.length r1.fst.snd ≤ List.length r1.fst.snd) && true then
                                    (l2
                                          (List.take (List.length r1.fst.snd) (List.drop 0 r1.fst.snd),
                                            (↑(List.length r1.fst.snd) : Int))
                                          ((0, 0), false, false, false, 0)).bind
                                      fun r2 =>
                                      (x9 ((r1.fst.fst.fst, r1.fst.fst.snd), 1, 0, 0, 0, 0, [])).bind fun r3 =>
                                        bif r1.fst.fst.fst == 1 && (r1.fst.fst.snd == 0 && true) then
                                          bif r2.snd.fst == 0 && (r2.snd.snd == 0 && true) then
                                            bif r2.fst.fst == (r0.snd.fst == 6) then
                                              bif r2.fst.snd.fst then
                                                bif r2.fst.snd.snd == true then
                                                  bif r3.fst.fst.fst == 2 then some (true, PUnit.unit)
                                                  else some (false, PUnit.unit)
                                                else some (false, PUnit.unit)
                                              else some (false, PUnit.unit)
                                            else some (false, PUnit.unit)
                                          else some (false, PUnit.unit)
                                        else some (false, PUnit.unit)
                                  else none
                                else none
                      else none
                  else
                    bif (which.tmod 5).toNat.beq 4 then
                      (x9 ((r0.snd.fst, r0.snd.snd), 5, 3, 0, 0, 0, [])).bind fun r1 =>
                        bif decide (0 ≤ which.tmod 5 ∧ which.tmod 5 < 5) then
                          bif (which.tmod 5).toNat.beq 0 then
                            bif decide (0 + List.length r1.fst.snd ≤ List.length r1.fst.snd) && true then
                              (l2
                                    (List.take (List.length r1.fst.snd) (List.drop 0 r1.fst.snd),
                                      (↑(List.length r1.fst.snd) : Int))
                                    ((0, 0), false, false, false, 0)).bind
                                fun r2 =>
                                (x9 ((r1.fst.fst.fst, r1.fst.fst.snd), 1, 0, 0, 0, 0, [])).bind fun r3 =>
                                  bif r1.fst.fst.fst == 1 && (r1.fst.fst.snd == 0 && true) then
                                    bif r2.snd.fst == 6 && (r2.snd.snd == 2 && true) then
                                      bif r2.fst.fst == (r0.snd.fst == 6) then
                                        bif r2.fst.snd.fst then
                                          bif r2.fst.snd.snd == true then
                                            bif r3.fst.fst.fst == 2 then some (true, PUnit.unit)
                                            else some (false, PUnit.unit)
                                          else some (false, PUnit.unit)
                                        else some (false, PUnit.unit)
                                      else some (false, PUnit.unit)
                                    else some (false, PUnit.unit)
                                  else some (false, PUnit.unit)
                            else none
                          else
                            bif (which.tmod 5).toNat.beq 1 then
                              bif decide (0 + List.length r1.fst.snd ≤ List.length r1.fst.snd) && true then
                                (l2
                                      (List.take (List.length r1.fst.snd) (List.drop 0 r1.fst.snd),
                                        (↑(List.length r1.fst.snd) : Int))
                                      ((0, 0), false, false, false, 0)).bind
                                  fun r2 =>
                                  (x9 ((r1.fst.fst.fst, r1.fst.fst.snd), 1, 0, 0, 0, 0, [])).bind fun r3 =>
                                    bif r1.fst.fst.fst == 1 && (r1.fst.fst.snd == 0 && true) then
                                      bif r2.snd.fst == 4 && (r2.snd.snd == 0 && true) then
                                        bif r2.fst.fst == (r0.snd.fst == 6) then
                                          bif r2.fst.snd.fst then
                                            bif r2.fst.snd.snd == true then
                                              bif r3.fst.fst.fst == 2 then some (true, PUnit.unit)
                                              else some (false, PUnit.unit)
                                            else some (false, PUnit.unit)
                                          else some (false, PUnit.unit)
                                        else some (false, PUnit.unit)
                                      else some (false, PUnit.unit)
                                    else some (false, PUnit.unit)
                              else none
                            else
                              bif (which.tmod 5).toNat.beq 2 then
                                bif decide (0 + List.length r1.fst.snd ≤ List.length r1.fst.snd) && true then
                                  (l2
                                        (List.take (List.length r1.fst.snd) (List.drop 0 r1.fst.snd),
                                          (↑(List.length r1.fst.snd) : Int))
                                        ((0, 0), false, false, false, 0)).bind
                                    fun r2 =>
                                    (x9 ((r1.fst.fst.fst, r1.fst.fst.snd), 1, 0, 0, 0, 0, [])).bind fun r3 =>
                                      bif r1.fst.fst.fst == 1 && (r1.fst.fst.snd == 0 && true) then
                                        bif r2.snd.fst == f0 && (r2.snd.snd == f1 && true) then
                                          bif r2.fst.fst == (r0.snd.fst == 6) then
                                            bif r2.fst.snd.fst then
                                              bif r2.fst.snd.snd == true then
                                                bif r3.fst.fst.fst == 2 then some (true, PUnit.unit)
                                                else some (false, PUnit.unit)
                                              else some (false, PUnit.unit)
                                            else some (false, PUnit.unit)
                                          else some (false, PUnit.unit)
                                        else some (false, PUnit.unit)
                                      else some (false, PUnit.unit)
                                else none
                              else
                                bif (which.tmod 5).toNat.beq 3 then
                                  bif decide (0 + List.length r1.fst.snd ≤ List.length r1.fst.snd) && true then
                                    (l2
                                          (List.take (List.length r1.fst.snd) (List.drop 0 r1.fst.snd),
                                            (↑(List.length r1.fst.snd) : Int))
                                          ((0, 0), false, false, false, 0)).bind
                                      fun r2 =>
                                      (x9 ((r1.fst.fst.fst, r1.fst.fst.snd), 1, 0, 0, 0, 0, [])).bind fun r3 =>
                                        bif r1.fst.fst.fst == 1 && (r1.fst.fst.snd == 0 && true) then
                                          bif r2.snd.fst == f0 && (r2.snd.snd == f1 && true) then
                                            bif r2.fst.fst == (r0.snd.fst == 6) then
                                              bif r2.fst.snd.fst then
                                                bif r2.fst.snd.snd == true then
                                                  bif r3.fst.fst.fst == 2 then some (true, PUnit.unit)
                                                  else some (false, PUnit.unit)
                                                else some (false, PUnit.unit)
                                              else some (false, PUnit.unit)
                                            else some (false, PUnit.unit)
                                          else some (false, PUnit.unit)
                                        else some (false, PUnit.unit)
                                  else none
                                else
                                  bif (which.tmod 5).toNat.beq 4 then
                                    bif decide (0 + List.length r1.fst.snd ≤ List.length r1.fst.snd) && true then
                                      (l2
                                            (List.take (List.length r1.fst.snd) (List.drop 0 r1.fst.snd),
                                              (↑(List.length r1.fst.snd) : Int))
                                            ((0, 0), false, false, false, 0)).bind
                                        fun r2 =>
                                        (x9 ((r1.fst.fst.fst, r1.fst.fst.snd), 1, 0, 0, 0, 0, [])).bind fun r3 =>
                                          bif r1.fst.fst.fst == 1 && (r1.fst.fst.snd == 0 && true) then
                                            bif r2.snd.fst == 0 && (r2.snd.snd == 0 && true) then
                                              bif r2.fst.fst == (r0.snd.fst == 6) then
                                                bif r2.fst.snd.fst then
                                                  bif r2.fst.snd.snd == true then
                                                    bif r3.fst.fst.fst == 2 then some (true, PUnit.unit)
                                                    else some (false, PUnit.unit)
                                                  else some (false, PUnit.unit)
                                                else some (false, PUnit.unit)
                                              else some (false, PUnit.unit)
                                            else some (false, PUnit.unit)
                                          else some (false, PUnit.unit)
                                    else none
                                  else none
                        else none
                    else none
          else none
    else none
theorem fe (x9 : F9.FT) (l1 : G1) (l2 : G2) (d : (List (Int × Int × Int × Int × Int × List (Int))) × Int × (Int × Int)) : bodyF (tabC Tryd.prog (tab x9) ((6, (.node .none (.node .none (.node (.node .none (.node (.unit (u1 l1)) .none)) (.node .none (.node .none (.node .none (.node .none (.node .none (.node .none (.node (.node .none (.node (.unit (u2 l2)) .none)) .none))))))))))) :: pls x9) 100 10) 100 6 i o d = fP x9 l1 l2 d := by kernel_rfl
noncomputable def f : FT := fP F9.f l1 l2
def plan (l1 : G1) (l2 : G2) : Plan := (.node .none (.node .none (.node (.node .none (.node (.unit (u1 l1)) .none)) (.node .none (.node .none (.node .none (.node .none (.node .none (.node .none (.node (.node .none (.node (.unit (u2 l2)) .none)) .none))))))))))
theorem planOk : PlanOk Tryd.prog (plan l1 l2) (bodyOf Tryd.prog 6) := (planOk_of (plan l1 l2) _ [([1, 1, 0, 1, 0], u1 l1), ([1, 1, 1, 1, 1, 1, 1, 1, 1, 0, 1, 0], u2 l2)] rfl ⟨ok1, ok2, trivial⟩)
theorem meets : MeetsF Tryd.prog 6 ⟨i, o, f⟩ :=
  funcT (fuel := 100) (depth := 10) (pl := (6, plan l1 l2) :: pls F9.f) mixed tabS ⟨planOk, plsP⟩ (fun d => fe F9.f l1 l2 d)
theorem spec : SpecOk Tryd.prog (fun _ => none) 6 (specF ⟨i, o, f⟩) := specF_ok (by kernel_rfl) meets
end Go.Proofs.YtendadfdbmoadaaDoor.F6
