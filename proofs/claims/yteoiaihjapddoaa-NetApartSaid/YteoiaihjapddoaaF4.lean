/- What comes of function 4 of this program, consulate.consulatelaw29.NetApart, as the engine gives it. -/
import Derived.Test.YteoiaihjapddoaaChecked
import Derived.Test.YteoiaihjapddoaaZN
import Derived.Test.YteoiaihjapddoaaF9
import Derived.Test.YteoiaihjapddoaaF10
import Derived.Test.YteoiaihjapddoaaF15
import Derived.Test.YteoiaihjapddoaaF11
import Derived.Test.YteoiaihjapddoaaF13
import Derived.Test.YteoiaihjapddoaaF16
import Derived.Test.YteoiaihjapddoaaF12
import Derived.Test.YteoiaihjapddoaaF17
import Derived.Test.YteoiaihjapddoaaF18
import Derived.Test.YteoiaihjapddoaaKA
namespace Go.Proofs.Yteoiaihjapddoaa.F4
open Go Go.Proofs Go.Proofs.Yteoiaihjapddoaa Go.RowKit Go.Proofs.Yteoiaihjapddoaa.Sx
set_option linter.unusedVariables false
set_option maxRecDepth 100000
def tab (x9 : F9.FT) (x10 : F10.FT) (x15 : F15.FT) (x11 : F11.FT) (x13 : F13.FT) (x16 : F16.FT) (x12 : F12.FT) (x17 : F17.FT) (x18 : F18.FT) : List (FuncId × Sx.Spec) := [(9, specF ⟨F9.i, F9.o, x9⟩), (10, specF ⟨F10.i, F10.o, x10⟩), (15, specF ⟨F15.i, F15.o, x15⟩), (11, specF ⟨F11.i, F11.o, x11⟩), (13, specF ⟨F13.i, F13.o, x13⟩), (16, specF ⟨F16.i, F16.o, x16⟩), (12, specF ⟨F12.i, F12.o, x12⟩), (17, specF ⟨F17.i, F17.o, x17⟩), (18, specF ⟨F18.i, F18.o, x18⟩), (14, pureS saysS)]
def pls (x9 : F9.FT) (x10 : F10.FT) (x15 : F15.FT) (x11 : F11.FT) (x13 : F13.FT) (x16 : F16.FT) (x12 : F12.FT) (x17 : F17.FT) (x18 : F18.FT) : List (FuncId × Plan) := []
@[reducible] def k1 : Sh := .pt true 38 (.sc (.int .i64) (.sc (.int .i64) (.sc (.int .i64) (.sc (.int .i64) (.sl false 5 (.sc (.int .u8) .nil) .nil))))) (.sl false 5 (.sc (.int .u8) .nil) (.sc (.int .i64) (.sc (.int .i64) .nil)))
@[reducible] def i1 : Sh := .pt true 40 (.sl true 5 (.sc (.int .u8) .nil) (.sl true 5 (.sc (.int .u8) .nil) .nil)) (.pt true 59 (.sl true 61 (.sc .bool (.sc (.int .i64) (.sl true 5 (.sc (.int .u8) .nil) (.sl true 5 (.sc (.int .u8) .nil) .nil)))) (.sc .bool .nil)) .nil)
@[reducible] def o1 : Sh := .nil
abbrev G1 := ((Int × Int × Int × Int × List (Int)) × List (Int) × Int × Int) → ((List (Int) × List (Int)) × ((List (Bool × Int × List (Int) × List (Int))) × Bool)) → Option (Unit × ((List (Int) × List (Int)) × ((List (Bool × Int × List (Int) × List (Int))) × Bool)))
def u1 (F : G1) : Un := ⟨177, [10, 11, 13, 75], k1, [12, 14], i1, [], o1, [5, 6, 7, 10, 11, 12, 37, 38, 39, 61, 62], [(.normal, [])], F⟩
@[reducible] def k2 : Sh := .sc (.int .i64) (.pt true 38 (.sc (.int .i64) (.sc (.int .i64) (.sc (.int .i64) (.sc (.int .i64) (.sl false 5 (.sc (.int .u8) .nil) .nil))))) (.pt true 40 (.sl true 5 (.sc (.int .u8) .nil) (.sl true 5 (.sc (.int .u8) .nil) .nil)) .nil))
@[reducible] def i2 : Sh := .pt true 59 (.sl true 61 (.sc .bool (.sc (.int .i64) (.sl true 5 (.sc (.int .u8) .nil) (.sl true 5 (.sc (.int .u8) .nil) .nil)))) (.sc .bool .nil)) (.pt true 59 (.sl true 61 (.sc .bool (.sc (.int .i64) (.sl true 5 (.sc (.int .u8) .nil) (.sl true 5 (.sc (.int .u8) .nil) .nil)))) (.sc .bool .nil)) .nil)
@[reducible] def o2 : Sh := .sc (.int .i64) (.sc .bool .nil)
abbrev G2 := (Int × (Int × Int × Int × Int × List (Int)) × (List (Int) × List (Int))) → (((List (Bool × Int × List (Int) × List (Int))) × Bool) × ((List (Bool × Int × List (Int) × List (Int))) × Bool)) → Option ((Int × Bool) × (((List (Bool × Int × List (Int) × List (Int))) × Bool) × ((List (Bool × Int × List (Int) × List (Int))) × Bool)))
def u2 (F : G2) : Un := ⟨177, [5, 10, 12], k2, [6, 7], i2, [4], o2, [5, 6, 7, 37, 38, 39], [(.normal, [false]), (.ret, [true])], F⟩
@[reducible] def k3 : Sh := .sc (.int .i64) (.sl false 38 (.sc (.int .i64) (.sc (.int .i64) (.sc (.int .i64) (.sc (.int .i64) (.sl false 5 (.sc (.int .u8) .nil) .nil))))) (.sc (.int .i64) .nil))
@[reducible] def i3 : Sh := .pt true 59 (.sl true 61 (.sc .bool (.sc (.int .i64) (.sl true 5 (.sc (.int .u8) .nil) (.sl true 5 (.sc (.int .u8) .nil) .nil)))) (.sc .bool .nil)) (.pt true 59 (.sl true 61 (.sc .bool (.sc (.int .i64) (.sl true 5 (.sc (.int .u8) .nil) (.sl true 5 (.sc (.int .u8) .nil) .nil)))) (.sc .bool .nil)) (.sc (.int .i64) .nil))
@[reducible] def o3 : Sh := .sc (.int .i64) (.sc .bool .nil)
abbrev G3 := (Int × (List (Int × Int × Int × Int × List (Int))) × Int) → (((List (Bool × Int × List (Int) × List (Int))) × Bool) × ((List (Bool × Int × List (Int) × List (Int))) × Bool) × Int) → Option ((Int × Bool) × (((List (Bool × Int × List (Int) × List (Int))) × Bool) × ((List (Bool × Int × List (Int) × List (Int))) × Bool)))
def u3 (F : G3) : Un := ⟨177, [5, 37, 38], k3, [6, 7, 39], i3, [4], o3, [5, 6, 7, 37, 38], [(.exit 4, [false]), (.ret, [true])], F⟩
@[reducible] def i : Sh := .sl false 38 (.sc (.int .i64) (.sc (.int .i64) (.sc (.int .i64) (.sc (.int .i64) (.sl false 5 (.sc (.int .u8) .nil) .nil))))) (.sc (.int .u8) .nil)
@[reducible] def o : Sh := .sc .bool .nil
abbrev FT := ((List (Int × Int × Int × Int × List (Int))) × Int) → Option (Bool × Unit)
theorem tabS : AllS Try.prog (tab F9.f F10.f F15.f F11.f F13.f F16.f F12.f F17.f F18.f) := ⟨F9.spec, F10.spec, F15.spec, F11.spec, F13.spec, F16.spec, F12.spec, F17.spec, F18.spec, says_ok (by kernel_rfl) KA.tells, trivial⟩
theorem plsP : AllP Try.prog (pls F9.f F10.f F15.f F11.f F13.f F16.f F12.f F17.f F18.f) := trivial
theorem mixed : Try.prog.follows .mixedOrders = true := by kernel_rfl
def r1P (x9 : F9.FT) (x10 : F10.FT) (x15 : F15.FT) (x11 : F11.FT) (x13 : F13.FT) (x16 : F16.FT) (x12 : F12.FT) (x17 : F17.FT) (x18 : F18.FT) : G1 := fun ((a0, a1, a2, a3, a4), b, j, t75) ((got0, got1), (n0, n1)) =>
    bif t75 == (1 : Int) then (x10 ((n0, n1), a1)).bind fun r0 => some (PUnit.unit, (got0, got1), r0.snd)
    else
      bif t75 == (2 : Int) then (x15 ((n0, n1), a1)).bind fun r0 => some (PUnit.unit, (got0, got1), r0.snd)
      else
        bif t75 == (3 : Int) then
          bif decide ((0 : Nat) + b.length ≤ b.length) && true then
            (x11 ((n0, n1), a1, a2, List.take b.length b)).bind fun r0 => some (PUnit.unit, (got0, got1), r0.snd)
          else none
        else
          bif t75 == (4 : Int) then
            bif decide ((0 : Nat) + b.length ≤ b.length) && true then
              (x11 ((n0, n1), a1, a2, List.take b.length b)).bind fun r0 => some (PUnit.unit, (got0, got1), r0.snd)
            else none
          else
            bif t75 == (5 : Int) then
              bif decide ((0 : Nat) + b.length ≤ b.length) && true then
                (x11 ((n0, n1), a1, a2, List.take b.length b)).bind fun r0 => some (PUnit.unit, (got0, got1), r0.snd)
              else none
            else
              bif t75 == (6 : Int) then
                (x13 ((n0, n1), a1, a2, a3)).bind fun r0 =>
                  bif decide ((0 : Int) ≤ j ∧ j < (2 : Int)) then
                    bif j.toNat.beq (0 : Nat) then
                      bif decide ((0 : Nat) + r0.fst.fst.length ≤ r0.fst.fst.length) && true then
                        bif decide ((0 : Nat) + got1.length ≤ got1.length) && true then
                          some
                            (PUnit.unit,
                              (List.take r0.fst.fst.length (List.drop (0 : Nat) r0.fst.fst), List.take got1.length got1),
                              r0.snd)
                        else none
                      else none
                    else
                      bif j.toNat.beq (1 : Nat) then
                        bif decide ((0 : Nat) + got0.length ≤ got0.length) && true then
                          bif decide ((0 : Nat) + r0.fst.fst.length ≤ r0.fst.fst.length) && true then
                            some
                              (PUnit.unit,
                                (List.take got0.length got0,
                                  List.take r0.fst.fst.length (List.drop (0 : Nat) r0.fst.fst)),
                                r0.snd)
                          else none
                        else none
                      else none
                  else none
              else
                bif t75 == (7 : Int) then
                  (x13 ((n0, n1), a1, a2, a3)).bind fun r0 =>
                    bif decide ((0 : Int) ≤ j ∧ j < (2 : Int)) then
                      bif j.toNat.beq (0 : Nat) then
                        bif decide ((0 : Nat) + r0.fst.fst.length ≤ r0.fst.fst.length) && true then
                          bif decide ((0 : Nat) + got1.length ≤ got1.length) && true then
                            some
                              (PUnit.unit,
                                (List.take r0.fst.fst.length (List.drop (0 : Nat) r0.fst.fst),
                                  List.take got1.length got1),
                                r0.snd)
                          else none
                        else none
                      else
                        bif j.toNat.beq (1 : Nat) then
                          bif decide ((0 : Nat) + got0.length ≤ got0.length) && true then
                            bif decide ((0 : Nat) + r0.fst.fst.length ≤ r0.fst.fst.length) && true then
                              some
                                (PUnit.unit,
                                  (List.take got0.length got0,
                                    List.take r0.fst.fst.length (List.drop (0 : Nat) r0.fst.fst)),
                                  r0.snd)
                            else none
                          else none
                        else none
                    else none
                else
                  bif t75 == (8 : Int) then
                    (x13 ((n0, n1), a1, a2, a3)).bind fun r0 =>
                      bif decide ((0 : Int) ≤ j ∧ j < (2 : Int)) then
                        bif j.toNat.beq (0 : Nat) then
                          bif decide ((0 : Nat) + r0.fst.fst.length ≤ r0.fst.fst.length) && true then
                            bif decide ((0 : Nat) + got1.length ≤ got1.length) && true then
                              some
                                (PUnit.unit,
                                  (List.take r0.fst.fst.length (List.drop (0 : Nat) r0.fst.fst),
                                    List.take got1.length got1),
                                  r0.snd)
                            else none
                          else none
                        else
                          bif j.toNat.beq (1 : Nat) then
                            bif decide ((0 : Nat) + got0.length ≤ got0.length) && true then
                              bif decide ((0 : Nat) + r0.fst.fst.length ≤ r0.fst.fst.length) && true then
                                some
                                  (PUnit.unit,
                                    (List.take got0.length got0,
                                      List.take r0.fst.fst.length (List.drop (0 : Nat) r0.fst.fst)),
                                    r0.snd)
                              else none
                            else none
                          else none
                      else none
                  else some (PUnit.unit, (got0, got1), n0, n1)
theorem r1e (x9 : F9.FT) (x10 : F10.FT) (x15 : F15.FT) (x11 : F11.FT) (x13 : F13.FT) (x16 : F16.FT) (x12 : F12.FT) (x17 : F17.FT) (x18 : F18.FT) (kd : (Int × Int × Int × Int × List (Int)) × List (Int) × Int × Int) (d : (List (Int) × List (Int)) × ((List (Bool × Int × List (Int) × List (Int))) × Bool)) : unitF (tabC Try.prog (tab x9 x10 x15 x11 x13 x16 x12 x17 x18) (pls x9 x10 x15 x11 x13 x16 x12 x17 x18) 100 10) 100 .none (u1 fun _ _ => none) (codeAt [1, 1, 1, 1, 1, 0, 1, 0, 0, 1, 1, 0, 0, 1, 1, 1, 1, 1, 0, 1, 0, 0, 1, 1, 0, 0, 1, 1, 1] (bodyOf Try.prog 4)) kd d = r1P x9 x10 x15 x11 x13 x16 x12 x17 x18 kd d := by kernel_rfl
noncomputable def r1 : G1 := r1P F9.f F10.f F15.f F11.f F13.f F16.f F12.f F17.f F18.f
noncomputable def l1 : G1 := r1
theorem ok1 : UnOk Try.prog (u1 l1) (codeAt [1, 1, 1, 1, 1, 0, 1, 0, 0, 1, 1, 0, 0, 1, 1, 1, 1, 1, 0, 1, 0, 0, 1, 1, 0, 0, 1, 1, 1] (bodyOf Try.prog 4)) :=
  blockT (p := .none) (fuel := 100) (depth := 10) mixed tabS plsP trivial (fun kd d => r1e F9.f F10.f F15.f F11.f F13.f F16.f F12.f F17.f F18.f kd d)
def r2P (x9 : F9.FT) (x10 : F10.FT) (x15 : F15.FT) (x11 : F11.FT) (x13 : F13.FT) (x16 : F16.FT) (x12 : F12.FT) (x17 : F17.FT) (x18 : F18.FT) : G2 := fun (k, (a0, a1, a2, a3, a4), (got0, got1)) ((all0, all1), (own0, own1)) =>
    bif a1 == k then
      bif decide ((0 : Nat) + got0.length ≤ got0.length) && true then
        bif decide ((0 : Nat) + got1.length ≤ got1.length) && true then
          (x16 (List.take got0.length got0, List.take got1.length got1)).bind fun r0 =>
            bif !r0.fst then some (((1 : Int), false), (all0, all1), own0, own1)
            else
              (x12 ((all0, all1), k, (0 : Int))).bind fun r1 =>
                (x12 ((own0, own1), k, (0 : Int))).bind fun r2 =>
                  bif r1.fst != r2.fst then some (((1 : Int), false), r1.snd, r2.snd)
                  else
                    (x12 (r1.snd, k, (1 : Int))).bind fun r3 =>
                      (x12 (r2.snd, k, (1 : Int))).bind fun r4 =>
                        bif r3.fst != r4.fst then some (((1 : Int), false), r3.snd, r4.snd)
                        else
                          (x17 (r3.snd, k)).bind fun r5 =>
                            (x17 (r4.snd, k)).bind fun r6 =>
                              bif !r5.fst == r6.fst then some (((1 : Int), false), r5.snd, r6.snd)
                              else
                                (x18 (r5.snd, k)).bind fun r7 =>
                                  (x18 (r6.snd, k)).bind fun r8 =>
                                    bif r7.fst != r8.fst then some (((1 : Int), false), r7.snd, r8.snd)
                                    else some (((0 : Int), false), r7.snd, r8.snd)
        else none
      else none
    else
      (x12 ((all0, all1), k, (0 : Int))).bind fun r0 =>
        (x12 ((own0, own1), k, (0 : Int))).bind fun r1 =>
          bif r0.fst != r1.fst then some (((1 : Int), false), r0.snd, r1.snd)
          else
            (x12 (r0.snd, k, (1 : Int))).bind fun r2 =>
              (x12 (r1.snd, k, (1 : Int))).bind fun r3 =>
                bif r2.fst != r3.fst then some (((1 : Int), false), r2.snd, r3.snd)
                else
                  (x17 (r2.snd, k)).bind fun r4 =>
                    (x17 (r3.snd, k)).bind fun r5 =>
                      bif !r4.fst == r5.fst then some (((1 : Int), false), r4.snd, r5.snd)
                      else
                        (x18 (r4.snd, k)).bind fun r6 =>
                          (x18 (r5.snd, k)).bind fun r7 =>
                            bif r6.fst != r7.fst then some (((1 : Int), false), r6.snd, r7.snd)
                            else some (((0 : Int), false), r6.snd, r7.snd)
theorem r2e (x9 : F9.FT) (x10 : F10.FT) (x15 : F15.FT) (x11 : F11.FT) (x13 : F13.FT) (x16 : F16.FT) (x12 : F12.FT) (x17 : F17.FT) (x18 : F18.FT) (kd : Int × (Int × Int × Int × Int × List (Int)) × (List (Int) × List (Int))) (d : ((List (Bool × Int × List (Int) × List (Int))) × Bool) × ((List (Bool × Int × List (Int) × List (Int))) × Bool)) : unitF (tabC Try.prog (tab x9 x10 x15 x11 x13 x16 x12 x17 x18) (pls x9 x10 x15 x11 x13 x16 x12 x17 x18) 100 10) 100 .none (u2 fun _ _ => none) (codeAt [1, 1, 1, 1, 1, 0, 1, 0, 0, 1, 1, 0, 0, 1, 1, 1, 1, 1, 1] (bodyOf Try.prog 4)) kd d = r2P x9 x10 x15 x11 x13 x16 x12 x17 x18 kd d := by kernel_rfl
noncomputable def r2 : G2 := r2P F9.f F10.f F15.f F11.f F13.f F16.f F12.f F17.f F18.f
noncomputable def l2 : G2 := r2
theorem ok2 : UnOk Try.prog (u2 l2) (codeAt [1, 1, 1, 1, 1, 0, 1, 0, 0, 1, 1, 0, 0, 1, 1, 1, 1, 1, 1] (bodyOf Try.prog 4)) :=
  blockT (p := .none) (fuel := 100) (depth := 10) mixed tabS plsP trivial (fun kd d => r2e F9.f F10.f F15.f F11.f F13.f F16.f F12.f F17.f F18.f kd d)
def r3P (x9 : F9.FT) (x10 : F10.FT) (x15 : F15.FT) (x11 : F11.FT) (x13 : F13.FT) (x16 : F16.FT) (x12 : F12.FT) (x17 : F17.FT) (x18 : F18.FT) (l1 : G1) (l2 : G2) : (Int × (List (Int × Int × Int × Int × List (Int))) × Int) → (((List (Bool × Int × List (Int) × List (Int))) × Bool) × ((List (Bool × Int × List (Int) × List (Int))) × Bool) × Int) → Option ((((List (Bool × Int × List (Int) × List (Int))) × Bool) × ((List (Bool × Int × List (Int) × List (Int))) × Bool) × Int) ⊕ ((Int × Bool) × (((List (Bool × Int × List (Int) × List (Int))) × Bool) × ((List (Bool × Int × List (Int) × List (Int))) × Bool)))) := fun (k, t37, t38) ((all0, all1), (own0, own1), t39) =>
    bif decide (t39 < t38) then
      bif decide ((0 : Int) ≤ t39 ∧ t39 < (↑t37.length : Int) ∧ (0 : Nat) < t37.length) then
        bif decide ((0 : Nat) + t39.toNat < t37.length) then
          bif t39 == (80 : Int) then some (Sum.inr (((0 : Int), false), (all0, all1), own0, own1))
          else
            bif
                decide
                  ((0 : Int) ≤
                      (some
                            (if
                                (300 : Int) <
                                  (↑(List.length
                                        (t37.getD ((0 : Nat) + t39.toNat)
                                                  ((0 : Int), (0 : Int), (0 : Int), (0 : Int), [])).snd.snd.snd.snd) :
                                    Int) then
                              (300 : Int)
                            else
                              (↑(List.length
                                    (t37.getD ((0 : Nat) + t39.toNat)
                                              ((0 : Int), (0 : Int), (0 : Int), (0 : Int), [])).snd.snd.snd.snd) :
                                Int))).getD
                        (↑(List.length
                              (t37.getD ((0 : Nat) + t39.toNat)
                                        ((0 : Int), (0 : Int), (0 : Int), (0 : Int), [])).snd.snd.snd.snd) :
                          Int) ∧
                    (some
                              (if
                                  (300 : Int) <
                                    (↑(List.length
                                          (t37.getD ((0 : Nat) + t39.toNat)
                                                    ((0 : Int), (0 : Int), (0 : Int), (0 : Int), [])).snd.snd.snd.snd) :
                                      Int) then
                                (300 : Int)
                              else
                                (↑(List.length
                                      (t37.getD ((0 : Nat) + t39.toNat)
                                                ((0 : Int), (0 : Int), (0 : Int), (0 : Int), [])).snd.snd.snd.snd) :
                                  Int))).getD
                          (↑(List.length
                                (t37.getD ((0 : Nat) + t39.toNat)
                                          ((0 : Int), (0 : Int), (0 : Int), (0 : Int), [])).snd.snd.snd.snd) :
                            Int) ≤
                        (↑(List.length
                              (t37.getD ((0 : Nat) + t39.toNat)
                                        ((0 : Int), (0 : Int), (0 : Int), (0 : Int), [])).snd.snd.snd.snd) :
                          Int) ∧
                      (0 : Nat) +
                          List.length
                            (t37.getD ((0 : Nat) + t39.toNat)
                                      ((0 : Int), (0 : Int), (0 : Int), (0 : Int), [])).snd.snd.snd.snd ≤
                        List.length
                          (t37.getD ((0 : Nat) + t39.toNat)
                                    ((0 : Int), (0 : Int), (0 : Int), (0 : Int), [])).snd.snd.snd.snd) then
              bif
                  decide
                      ((0 : Nat) +
                          List.length
                            (t37.getD ((0 : Nat) + t39.toNat)
                                      ((0 : Int), (0 : Int), (0 : Int), (0 : Int), [])).snd.snd.snd.snd ≤
                        List.length
                          (t37.getD ((0 : Nat) + t39.toNat)
                                    ((0 : Int), (0 : Int), (0 : Int), (0 : Int), [])).snd.snd.snd.snd) &&
                    true then
                bif
                    decide
                        ((0 : Nat) +
                            ((some
                                    (if
                                        (300 : Int) <
                                          (↑(List.length
                                                (t37.getD ((0 : Nat) + t39.toNat)
                                                          ((0 : Int), (0 : Int), (0 : Int), (0 : Int),
                                                            [])).snd.snd.snd.snd) :
                                            Int) then
                                      (300 : Int)
                                    else
                                      (↑(List.length
                                            (t37.getD ((0 : Nat) + t39.toNat)
                                                      ((0 : Int), (0 : Int), (0 : Int), (0 : Int), [])).snd.snd.snd.snd) :
                                        Int))).getD
                                (↑(List.length
                                      (t37.getD ((0 : Nat) + t39.toNat)
                                                ((0 : Int), (0 : Int), (0 : Int), (0 : Int), [])).snd.snd.snd.snd) :
                                  Int)).toNat ≤
                          List.length
                            (t37.getD ((0 : Nat) + t39.toNat)
                                      ((0 : Int), (0 : Int), (0 : Int), (0 : Int), [])).snd.snd.snd.snd) &&
                      true then
                  (l1
                        (((t37.getD ((0 : Nat) + t39.toNat) ((0 : Int), (0 : Int), (0 : Int), (0 : Int), [])).fst,
                            IntKind.i64.wrap
                              ((IntKind.u64.wrap
                                    (t37.getD ((0 : Nat) + t39.toNat)
                                          ((0 : Int), (0 : Int), (0 : Int), (0 : Int), [])).snd.fst).tmod
                                (4 : Int)),
                            (t37.getD ((0 : Nat) + t39.toNat)
                                    ((0 : Int), (0 : Int), (0 : Int), (0 : Int), [])).snd.snd.fst,
                            (t37.getD ((0 : Nat) + t39.toNat)
                                      ((0 : Int), (0 : Int), (0 : Int), (0 : Int), [])).snd.snd.snd.fst,
                            List.take
                              (List.length
                                (t37.getD ((0 : Nat) + t39.toNat)
                                          ((0 : Int), (0 : Int), (0 : Int), (0 : Int), [])).snd.snd.snd.snd)
                              (List.drop (0 : Nat)
                                (t37.getD ((0 : Nat) + t39.toNat)
                                          ((0 : Int), (0 : Int), (0 : Int), (0 : Int), [])).snd.snd.snd.snd)),
                          List.take
                            ((some
                                    (if
                                        (300 : Int) <
                                          (↑(List.length
                                                (t37.getD ((0 : Nat) + t39.toNat)
                                                          ((0 : Int), (0 : Int), (0 : Int), (0 : Int),
                                                            [])).snd.snd.snd.snd) :
                                            Int) then
                                      (300 : Int)
                                    else
                                      (↑(List.length
                                            (t37.getD ((0 : Nat) + t39.toNat)
                                                      ((0 : Int), (0 : Int), (0 : Int), (0 : Int), [])).snd.snd.snd.snd) :
                                        Int))).getD
                                (↑(List.length
                                      (t37.getD ((0 : Nat) + t39.toNat)
                                                ((0 : Int), (0 : Int), (0 : Int), (0 : Int), [])).snd.snd.snd.snd) :
                                  Int)).toNat
                            (List.drop (0 : Nat)
                              (t37.getD ((0 : Nat) + t39.toNat)
                                        ((0 : Int), (0 : Int), (0 : Int), (0 : Int), [])).snd.snd.snd.snd),
                          (0 : Int),
                          (t37.getD ((0 : Nat) + t39.toNat) ((0 : Int), (0 : Int), (0 : Int), (0 : Int), [])).fst)
                        (([], []), all0, all1)).bind
                    fun r0 =>
                    bif
                        IntKind.i64.wrap
                            ((IntKind.u64.wrap
                                  (t37.getD ((0 : Nat) + t39.toNat)
                                        ((0 : Int), (0 : Int), (0 : Int), (0 : Int), [])).snd.fst).tmod
                              (4 : Int)) !=
                          k then
                      bif
                          decide
                              ((0 : Nat) +
                                  List.length
                                    (t37.getD ((0 : Nat) + t39.toNat)
                                              ((0 : Int), (0 : Int), (0 : Int), (0 : Int), [])).snd.snd.snd.snd ≤
                                List.length
                                  (t37.getD ((0 : Nat) + t39.toNat)
                                            ((0 : Int), (0 : Int), (0 : Int), (0 : Int), [])).snd.snd.snd.snd) &&
                            true then
                        (l2
                              (k,
                                ((t37.getD ((0 : Nat) + t39.toNat) ((0 : Int), (0 : Int), (0 : Int), (0 : Int), [])).fst,
                                  IntKind.i64.wrap
                                    ((IntKind.u64.wrap
                                          (t37.getD ((0 : Nat) + t39.toNat)
                                                ((0 : Int), (0 : Int), (0 : Int), (0 : Int), [])).snd.fst).tmod
                                      (4 : Int)),
                                  (t37.getD ((0 : Nat) + t39.toNat)
                                          ((0 : Int), (0 : Int), (0 : Int), (0 : Int), [])).snd.snd.fst,
                                  (t37.getD ((0 : Nat) + t39.toNat)
                                            ((0 : Int), (0 : Int), (0 : Int), (0 : Int), [])).snd.snd.snd.fst,
                                  List.take
                                    (List.length
                                      (t37.getD ((0 : Nat) + t39.toNat)
                                                ((0 : Int), (0 : Int), (0 : Int), (0 : Int), [])).snd.snd.snd.snd)
                                    (List.drop (0 : Nat)
                                      (t37.getD ((0 : Nat) + t39.toNat)
                                                ((0 : Int), (0 : Int), (0 : Int), (0 : Int), [])).snd.snd.snd.snd)),
                                r0.snd.fst)
                              (r0.snd.snd, own0, own1)).bind
                          fun r1 =>
                          bif decide (r1.fst.fst = (0 : Int)) then
                            some (Sum.inl (r1.snd.fst, r1.snd.snd, IntKind.i64.wrap (t39 + (1 : Int))))
                          else
                            bif decide (r1.fst.fst = (1 : Int)) then
                              some (Sum.inr (((1 : Int), r1.fst.snd), r1.snd.fst, r1.snd.snd))
                            else none
                      else none
                    else
                      bif
                          decide
                              ((0 : Nat) +
                                  List.length
                                    (t37.getD ((0 : Nat) + t39.toNat)
                                              ((0 : Int), (0 : Int), (0 : Int), (0 : Int), [])).snd.snd.snd.snd ≤
                                List.length
                                  (t37.getD ((0 : Nat) + t39.toNat)
                                            ((0 : Int), (0 : Int), (0 : Int), (0 : Int), [])).snd.snd.snd.snd) &&
                            true then
                        bif
                            decide
                                ((0 : Nat) +
                                    ((some
                                            (if
                                                (300 : Int) <
                                                  (↑(List.length
                                                        (t37.getD ((0 : Nat) + t39.toNat)
                                                                  ((0 : Int), (0 : Int), (0 : Int), (0 : Int),
                                                                    [])).snd.snd.snd.snd) :
                                                    Int) then
                                              (300 : Int)
                                            else
                                              (↑(List.length
                                                    (t37.getD ((0 : Nat) + t39.toNat)
                                                              ((0 : Int), (0 : Int), (0 : Int), (0 : Int),
                                                                [])).snd.snd.snd.snd) :
                                                Int))).getD
                                        (↑(List.length
                                              (t37.getD ((0 : Nat) + t39.toNat)
                                                        ((0 : Int), (0 : Int), (0 : Int), (0 : Int),
                                                          [])).snd.snd.snd.snd) :
                                          Int)).toNat ≤
                                  List.length
                                    (t37.getD ((0 : Nat) + t39.toNat)
                                              ((0 : Int), (0 : Int), (0 : Int), (0 : Int), [])).snd.snd.snd.snd) &&
                              true then
                          (l1
                                (((t37.getD ((0 : Nat) + t39.toNat) ((0 : Int), (0 : Int), (0 : Int), (0 : Int), [])).fst,
                                    IntKind.i64.wrap
                                      ((IntKind.u64.wrap
                                            (t37.getD ((0 : Nat) + t39.toNat)
                                                  ((0 : Int), (0 : Int), (0 : Int), (0 : Int), [])).snd.fst).tmod
                                        (4 : Int)),
                                    (t37.getD ((0 : Nat) + t39.toNat)
                                            ((0 : Int), (0 : Int), (0 : Int), (0 : Int), [])).snd.snd.fst,
                                    (t37.getD ((0 : Nat) + t39.toNat)
                                              ((0 : Int), (0 : Int), (0 : Int), (0 : Int), [])).snd.snd.snd.fst,
                                    List.take
                                      (List.length
                                        (t37.getD ((0 : Nat) + t39.toNat)
                                                  ((0 : Int), (0 : Int), (0 : Int), (0 : Int), [])).snd.snd.snd.snd)
                                      (List.drop (0 : Nat)
                                        (t37.getD ((0 : Nat) + t39.toNat)
                                                  ((0 : Int), (0 : Int), (0 : Int), (0 : Int), [])).snd.snd.snd.snd)),
                                  List.take
                                    ((some
                                            (if
                                                (300 : Int) <
                                                  (↑(List.length
                                                        (t37.getD ((0 : Nat) + t39.toNat)
                                                                  ((0 : Int), (0 : Int), (0 : Int), (0 : Int),
                                                                    [])).snd.snd.snd.snd) :
                                                    Int) then
                                              (300 : Int)
                                            else
                                              (↑(List.length
                                                    (t37.getD ((0 : Nat) + t39.toNat)
                                                              ((0 : Int), (0 : Int), (0 : Int), (0 : Int),
                                                                [])).snd.snd.snd.snd) :
                                                Int))).getD
                                        (↑(List.length
                                              (t37.getD ((0 : Nat) + t39.toNat)
                                                        ((0 : Int), (0 : Int), (0 : Int), (0 : Int),
                                                          [])).snd.snd.snd.snd) :
                                          Int)).toNat
                                    (List.drop (0 : Nat)
                                      (t37.getD ((0 : Nat) + t39.toNat)
                                                ((0 : Int), (0 : Int), (0 : Int), (0 : Int), [])).snd.snd.snd.snd),
                                  (1 : Int),
                                  (t37.getD ((0 : Nat) + t39.toNat) ((0 : Int), (0 : Int), (0 : Int), (0 : Int), [])).fst)
                                (r0.snd.fst, own0, own1)).bind
                            fun r1 =>
                            bif
                                decide
                                    ((0 : Nat) +
                                        List.length
                                          (t37.getD ((0 : Nat) + t39.toNat)
                                                    ((0 : Int), (0 : Int), (0 : Int), (0 : Int), [])).snd.snd.snd.snd ≤
                                      List.length
                                        (t37.getD ((0 : Nat) + t39.toNat)
                                                  ((0 : Int), (0 : Int), (0 : Int), (0 : Int), [])).snd.snd.snd.snd) &&
                                  true then
                              (l2
                                    (k,
                                      ((t37.getD ((0 : Nat) + t39.toNat)
                                            ((0 : Int), (0 : Int), (0 : Int), (0 : Int), [])).fst,
                                        IntKind.i64.wrap
                                          ((IntKind.u64.wrap
                                                (t37.getD ((0 : Nat) + t39.toNat)
                                                      ((0 : Int), (0 : Int), (0 : Int), (0 : Int), [])).snd.fst).tmod
                                            (4 : Int)),
                                        (t37.getD ((0 : Nat) + t39.toNat)
                                                ((0 : Int), (0 : Int), (0 : Int), (0 : Int), [])).snd.snd.fst,
                                        (t37.getD ((0 : Nat) + t39.toNat)
                                                  ((0 : Int), (0 : Int), (0 : Int), (0 : Int), [])).snd.snd.snd.fst,
                                        List.take
                                          (List.length
                                            (t37.getD ((0 : Nat) + t39.toNat)
                                                      ((0 : Int), (0 : Int), (0 : Int), (0 : Int), [])).snd.snd.snd.snd)
                                          (List.drop (0 : Nat)
                                            (t37.getD ((0 : Nat) + t39.toNat)
                                                      ((0 : Int), (0 : Int), (0 : Int), (0 : Int), [])).snd.snd.snd.snd)),
                                      r1.snd.fst)
                                    (r0.snd.snd, r1.snd.snd)).bind
                                fun r2 =>
                                bif decide (r2.fst.fst = (0 : Int)) then
                                  some (Sum.inl (r2.snd.fst, r2.snd.snd, IntKind.i64.wrap (t39 + (1 : Int))))
                                else
                                  bif decide (r2.fst.fst = (1 : Int)) then
                                    some (Sum.inr (((1 : Int), r2.fst.snd), r2.snd.fst, r2.snd.snd))
                                  else none
                            else none
                        else none
                      else none
                else none
              else none
            else none
        else none
      else none
    else some (Sum.inr (((0 : Int), false), (all0, all1), own0, own1))
theorem r3e (x9 : F9.FT) (x10 : F10.FT) (x15 : F15.FT) (x11 : F11.FT) (x13 : F13.FT) (x16 : F16.FT) (x12 : F12.FT) (x17 : F17.FT) (x18 : F18.FT) (l1 : G1) (l2 : G2) (kd : Int × (List (Int × Int × Int × Int × List (Int))) × Int) (d : ((List (Bool × Int × List (Int) × List (Int))) × Bool) × ((List (Bool × Int × List (Int) × List (Int))) × Bool) × Int) : roundF (tabC Try.prog (tab x9 x10 x15 x11 x13 x16 x12 x17 x18) (pls x9 x10 x15 x11 x13 x16 x12 x17 x18) 100 10) 100 (.node .none (.node .none (.node (.node (.node .none (.node .none (.node .none (.node .none (.node .none (.node (.node .none (.node (.node (.node .none (.node .none (.node (.node (.node .none (.node .none (.node .none (.unit (u1 l1))))) .none) .none))) .none) .none)) (.unit (u2 l2)))))))) .none) .none))) (u3 fun _ _ => none) (codeAt [1, 1, 1, 1, 1, 0, 1, 0, 0] (bodyOf Try.prog 4)) kd d = r3P x9 x10 x15 x11 x13 x16 x12 x17 x18 l1 l2 kd d := by kernel_rfl
noncomputable def r3 : (Int × (List (Int × Int × Int × Int × List (Int))) × Int) → (((List (Bool × Int × List (Int) × List (Int))) × Bool) × ((List (Bool × Int × List (Int) × List (Int))) × Bool) × Int) → Option ((((List (Bool × Int × List (Int) × List (Int))) × Bool) × ((List (Bool × Int × List (Int) × List (Int))) × Bool) × Int) ⊕ ((Int × Bool) × (((List (Bool × Int × List (Int) × List (Int))) × Bool) × ((List (Bool × Int × List (Int) × List (Int))) × Bool)))) := r3P F9.f F10.f F15.f F11.f F13.f F16.f F12.f F17.f F18.f l1 l2
noncomputable def l3 : G3 := fun kd d => iterO (r3 kd) d
theorem ok3 : UnOk Try.prog (u3 l3) (codeAt [1, 1, 1, 1, 1, 0, 1, 0] (bodyOf Try.prog 4)) :=
  loopT (p := (.node .none (.node .none (.node (.node (.node .none (.node .none (.node .none (.node .none (.node .none (.node (.node .none (.node (.node (.node .none (.node .none (.node (.node (.node .none (.node .none (.node .none (.unit (u1 l1))))) .none) .none))) .none) .none)) (.unit (u2 l2)))))))) .none) .none)))) (c := codeAt [1, 1, 1, 1, 1, 0, 1, 0, 0] (bodyOf Try.prog 4)) (fuel := 100) (depth := 10) mixed tabS plsP (by kernel_rfl) (planOk_of (.node .none (.node .none (.node (.node (.node .none (.node .none (.node .none (.node .none (.node .none (.node (.node .none (.node (.node (.node .none (.node .none (.node (.node (.node .none (.node .none (.node .none (.unit (u1 l1))))) .none) .none))) .none) .none)) (.unit (u2 l2)))))))) .none) .none))) _ [([1, 1, 0, 0, 1, 1, 1, 1, 1, 0, 1, 0, 0, 1, 1, 0, 0, 1, 1, 1], u1 l1), ([1, 1, 0, 0, 1, 1, 1, 1, 1, 1], u2 l2)] rfl ⟨ok1, ok2, trivial⟩) (by kernel_rfl) (fun kd d => r3e F9.f F10.f F15.f F11.f F13.f F16.f F12.f F17.f F18.f l1 l2 kd d) rfl
def fP (x9 : F9.FT) (x10 : F10.FT) (x15 : F15.FT) (x11 : F11.FT) (x13 : F13.FT) (x16 : F16.FT) (x12 : F12.FT) (x17 : F17.FT) (x18 : F18.FT) (l3 : G3) : FT := fun (l, link) =>
    (x9 ([], true)).bind fun r0 =>
      (x9 ([], true)).bind fun r1 =>
        (x9 r0.snd).bind fun r2 =>
          (x9 r1.snd).bind fun r3 =>
            (x9 r2.snd).bind fun r4 =>
              (x9 r3.snd).bind fun r5 =>
                (x9 r4.snd).bind fun r6 =>
                  (x9 r5.snd).bind fun r7 =>
                    (x10 (r6.snd, (0 : Int))).bind fun r8 =>
                      (x10 (r7.snd, (0 : Int))).bind fun r9 =>
                        (x10 (r8.snd, (1 : Int))).bind fun r10 =>
                          (x10 (r9.snd, (1 : Int))).bind fun r11 =>
                            (x10 (r10.snd, (2 : Int))).bind fun r12 =>
                              (x10 (r11.snd, (2 : Int))).bind fun r13 =>
                                (x10 (r12.snd, (3 : Int))).bind fun r14 =>
                                  (x10 (r13.snd, (3 : Int))).bind fun r15 =>
                                    bif decide ((0 : Nat) + l.length ≤ l.length) && true then
                                      (l3
                                            (IntKind.i64.wrap (link.tmod (4 : Int)), List.take l.length l,
                                              (↑l.length : Int))
                                            (r14.snd, r15.snd, (0 : Int))).bind
                                        fun r16 =>
                                        bif decide (r16.fst.fst = (0 : Int)) then
                                          bif (↑r16.snd.fst.fst.length : Int) == (4 : Int) then
                                            bif (↑r16.snd.snd.fst.length : Int) == (4 : Int) then some (true, PUnit.unit)
                                            else some (false, PUnit.unit)
                                          else some (false, PUnit.unit)
                                        else
                                          bif decide (r16.fst.fst = (1 : Int)) then some (r16.fst.snd, PUnit.unit)
                                          else none
                                    else none
theorem fe (x9 : F9.FT) (x10 : F10.FT) (x15 : F15.FT) (x11 : F11.FT) (x13 : F13.FT) (x16 : F16.FT) (x12 : F12.FT) (x17 : F17.FT) (x18 : F18.FT) (l3 : G3) (d : (List (Int × Int × Int × Int × List (Int))) × Int) : bodyF (tabC Try.prog (tab x9 x10 x15 x11 x13 x16 x12 x17 x18) ((4, (.node .none (.node .none (.node .none (.node .none (.node .none (.node (.node .none (.node (.unit (u3 l3)) .none)) .none))))))) :: pls x9 x10 x15 x11 x13 x16 x12 x17 x18) 100 10) 100 4 i o d = fP x9 x10 x15 x11 x13 x16 x12 x17 x18 l3 d := by kernel_rfl
noncomputable def f : FT := fP F9.f F10.f F15.f F11.f F13.f F16.f F12.f F17.f F18.f l3
def plan (l3 : G3) : Plan := (.node .none (.node .none (.node .none (.node .none (.node .none (.node (.node .none (.node (.unit (u3 l3)) .none)) .none))))))
theorem planOk : PlanOk Try.prog (plan l3) (bodyOf Try.prog 4) := (planOk_of (plan l3) _ [([1, 1, 1, 1, 1, 0, 1, 0], u3 l3)] rfl ⟨ok3, trivial⟩)
theorem meets : MeetsF Try.prog 4 ⟨i, o, f⟩ :=
  funcT (fuel := 100) (depth := 10) (pl := (4, plan l3) :: pls F9.f F10.f F15.f F11.f F13.f F16.f F12.f F17.f F18.f) mixed tabS ⟨planOk, plsP⟩ (fun d => fe F9.f F10.f F15.f F11.f F13.f F16.f F12.f F17.f F18.f l3 d)
theorem spec : SpecOk Try.prog (fun _ => none) 4 (specF ⟨i, o, f⟩) := specF_ok (by kernel_rfl) meets
end Go.Proofs.Yteoiaihjapddoaa.F4
