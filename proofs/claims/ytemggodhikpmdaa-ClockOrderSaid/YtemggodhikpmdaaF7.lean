/- What comes of function 7 of this program, consulate.consulatelaw13.ClockPlays, as the engine gives it. -/
import Derived.Test.YtemggodhikpmdaaChecked
import Derived.Test.YtemggodhikpmdaaZM
import Derived.Test.YtemggodhikpmdaaF19
import Derived.Test.YtemggodhikpmdaaF20
import Derived.Test.YtemggodhikpmdaaF21
import Derived.Test.YtemggodhikpmdaaF22
import Derived.Test.YtemggodhikpmdaaF23
import Derived.Test.YtemggodhikpmdaaF24
import Derived.Test.YtemggodhikpmdaaF13
import Derived.Test.YtemggodhikpmdaaF25
import Derived.Test.YtemggodhikpmdaaF26
import Derived.Test.YtemggodhikpmdaaF27
import Derived.Test.YtemggodhikpmdaaKA
namespace Go.Proofs.Ytemggodhikpmdaa.F7
open Go Go.Proofs Go.RowKit Go.Proofs.Ytemggodhikpmdaa.Sx
set_option linter.unusedVariables false
set_option maxRecDepth 100000
def tab (x19 : F19.FT) (x20 : F20.FT) (x21 : F21.FT) (x22 : F22.FT) (x23 : F23.FT) (x24 : F24.FT) (x13 : F13.FT) (x25 : F25.FT) (x26 : F26.FT) (x27 : F27.FT) : List (FuncId × Sx.Spec) := [(19, specF ⟨F19.i, F19.o, x19⟩), (20, specF ⟨F20.i, F20.o, x20⟩), (21, specF ⟨F21.i, F21.o, x21⟩), (22, specF ⟨F22.i, F22.o, x22⟩), (23, specF ⟨F23.i, F23.o, x23⟩), (24, specF ⟨F24.i, F24.o, x24⟩), (13, specF ⟨F13.i, F13.o, x13⟩), (25, specF ⟨F25.i, F25.o, x25⟩), (26, specF ⟨F26.i, F26.o, x26⟩), (27, specF ⟨F27.i, F27.o, x27⟩), (12, pureS saysS)]
def pls (x19 : F19.FT) (x20 : F20.FT) (x21 : F21.FT) (x22 : F22.FT) (x23 : F23.FT) (x24 : F24.FT) (x13 : F13.FT) (x25 : F25.FT) (x26 : F26.FT) (x27 : F27.FT) : List (FuncId × Plan) := []
@[reducible] def k1 : Sh := .sc .bool .nil
@[reducible] def i1 : Sh := .pt true 65 (.sc (.int .i64) (.sc .bool (.sc (.int .i64) (.sc .bool (.sc (.int .i64) (.sc .bool (.sc (.int .i64) (.sc .bool (.sc (.int .i64) (.sc .bool .nil)))))))))) (.po true 65 (.sc (.int .i64) (.sc .bool (.sc (.int .i64) (.sc .bool (.sc (.int .i64) (.sc .bool (.sc (.int .i64) (.sc .bool (.sc (.int .i64) (.sc .bool .nil)))))))))) (.sc (.int .i64) .nil))
@[reducible] def o1 : Sh := .po true 65 (.sc (.int .i64) (.sc .bool (.sc (.int .i64) (.sc .bool (.sc (.int .i64) (.sc .bool (.sc (.int .i64) (.sc .bool (.sc (.int .i64) (.sc .bool .nil)))))))))) (.sc (.int .i64) .nil)
abbrev G1 := Bool → ((Int × Bool × Int × Bool × Int × Bool × Int × Bool × Int × Bool) × (Option (Int × Bool × Int × Bool × Int × Bool × Int × Bool × Int × Bool)) × Int) → Option (((Option (Int × Bool × Int × Bool × Int × Bool × Int × Bool × Int × Bool)) × Int) × ((Int × Bool × Int × Bool × Int × Bool × Int × Bool × Int × Bool)))
def u1 (F : G1) : Un := ⟨195, [61], k1, [5, 9, 10], i1, [9, 10], o1, [1, 5, 7, 12, 48, 49, 50, 61], [(.normal, [true, true])], F⟩
@[reducible] def k2 : Sh := .pt true 48 (.sc (.int .i64) (.sc (.int .i64) (.sc (.int .i64) .nil))) (.sc (.int .i64) .nil)
@[reducible] def i2 : Sh := .pt true 65 (.sc (.int .i64) (.sc .bool (.sc (.int .i64) (.sc .bool (.sc (.int .i64) (.sc .bool (.sc (.int .i64) (.sc .bool (.sc (.int .i64) (.sc .bool .nil)))))))))) (.pt true 59 (.sc (.int .i64) (.sc (.int .i64) (.sc (.int .i64) (.sc (.int .i64) (.sc (.int .i64) .nil))))) (.sc .bool .nil))
@[reducible] def o2 : Sh := .sc .bool .nil
abbrev G2 := ((Int × Int × Int) × Int) → ((Int × Bool × Int × Bool × Int × Bool × Int × Bool × Int × Bool) × (Int × Int × Int × Int × Int) × Bool) → Option (Bool × ((Int × Bool × Int × Bool × Int × Bool × Int × Bool × Int × Bool) × (Int × Int × Int × Int × Int)))
def u2 (F : G2) : Un := ⟨195, [12, 67], k2, [5, 7, 13], i2, [13], o2, [1, 5, 7, 9, 10, 12, 48, 49, 50, 67], [(.normal, [true])], F⟩
@[reducible] def k3 : Sh := .sl false 48 (.sc (.int .i64) (.sc (.int .i64) (.sc (.int .i64) .nil))) (.sl false 48 (.sc (.int .i64) (.sc (.int .i64) (.sc (.int .i64) .nil))) (.sc (.int .i64) .nil))
@[reducible] def i3 : Sh := .pt true 65 (.sc (.int .i64) (.sc .bool (.sc (.int .i64) (.sc .bool (.sc (.int .i64) (.sc .bool (.sc (.int .i64) (.sc .bool (.sc (.int .i64) (.sc .bool .nil)))))))))) (.pt true 59 (.sc (.int .i64) (.sc (.int .i64) (.sc (.int .i64) (.sc (.int .i64) (.sc (.int .i64) .nil))))) (.po true 65 (.sc (.int .i64) (.sc .bool (.sc (.int .i64) (.sc .bool (.sc (.int .i64) (.sc .bool (.sc (.int .i64) (.sc .bool (.sc (.int .i64) (.sc .bool .nil)))))))))) (.sc (.int .i64) (.sc (.int .i64) .nil))))
@[reducible] def o3 : Sh := .sc (.int .i64) (.sc .bool (.po true 65 (.sc (.int .i64) (.sc .bool (.sc (.int .i64) (.sc .bool (.sc (.int .i64) (.sc .bool (.sc (.int .i64) (.sc .bool (.sc (.int .i64) (.sc .bool .nil)))))))))) (.sc (.int .i64) .nil)))
abbrev G3 := ((List (Int × Int × Int)) × (List (Int × Int × Int)) × Int) → ((Int × Bool × Int × Bool × Int × Bool × Int × Bool × Int × Bool) × (Int × Int × Int × Int × Int) × (Option (Int × Bool × Int × Bool × Int × Bool × Int × Bool × Int × Bool)) × Int × Int) → Option ((Int × Bool × (Option (Int × Bool × Int × Bool × Int × Bool × Int × Bool × Int × Bool)) × Int) × ((Int × Bool × Int × Bool × Int × Bool × Int × Bool × Int × Bool) × (Int × Int × Int × Int × Int)))
def u3 (F : G3) : Un := ⟨195, [1, 48, 49], k3, [5, 7, 9, 10, 50], i3, [4, 9, 10], o3, [1, 5, 7, 48, 49], [(.exit 0, [false, true, true]), (.ret, [true, false, false])], F⟩
@[reducible] def i : Sh := .sc (.int .i64) (.sl false 48 (.sc (.int .i64) (.sc (.int .i64) (.sc (.int .i64) .nil))) .nil)
@[reducible] def o : Sh := .sc .bool .nil
abbrev FT := (Int × (List (Int × Int × Int))) → Option (Bool × Unit)
theorem tabS : AllS Try.prog (tab F19.f F20.f F21.f F22.f F23.f F24.f F13.f F25.f F26.f F27.f) := ⟨F19.spec, F20.spec, F21.spec, F22.spec, F23.spec, F24.spec, F13.spec, F25.spec, F26.spec, F27.spec, says_ok (by kernel_rfl) KA.tells, trivial⟩
theorem plsP : AllP Try.prog (pls F19.f F20.f F21.f F22.f F23.f F24.f F13.f F25.f F26.f F27.f) := trivial
theorem mixed : Try.prog.follows .mixedOrders = true := by kernel_rfl
def r1P (x19 : F19.FT) (x20 : F20.FT) (x21 : F21.FT) (x22 : F22.FT) (x23 : F23.FT) (x24 : F24.FT) (x13 : F13.FT) (x25 : F25.FT) (x26 : F26.FT) (x27 : F27.FT) : G1 := fun t61 ((c0, c1, c2, c3, c4, c5, c6, c7, c8, c9), twin, at0) =>
    bif twin.isSome then
      bif t61 then
        bif !c9 then some ((none, 0), c0, c1, c2, c3, c4, c5, c6, c7, c8, c9)
        else
          bif !c9 then some ((some (c0, c1, c2, c3, c4, c5, c6, c7, c8, c9), 0), c0, c1, c2, c3, c4, c5, c6, c7, c8, c9)
          else some ((some (c0, c1, c2, c3, c4, c5, c6, c7, c8, c9), c0), c0, c1, c2, c3, c4, c5, c6, c7, c8, c9)
      else
        some
          ((some (twin.getD (0, false, 0, false, 0, false, 0, false, 0, false)), at0), c0, c1, c2, c3, c4, c5, c6, c7, c8,
            c9)
    else
      bif t61 then
        bif !c9 then some ((none, 0), c0, c1, c2, c3, c4, c5, c6, c7, c8, c9)
        else
          bif !c9 then some ((some (c0, c1, c2, c3, c4, c5, c6, c7, c8, c9), 0), c0, c1, c2, c3, c4, c5, c6, c7, c8, c9)
          else some ((some (c0, c1, c2, c3, c4, c5, c6, c7, c8, c9), c0), c0, c1, c2, c3, c4, c5, c6, c7, c8, c9)
      else some ((none, at0), c0, c1, c2, c3, c4, c5, c6, c7, c8, c9)
theorem r1e (x19 : F19.FT) (x20 : F20.FT) (x21 : F21.FT) (x22 : F22.FT) (x23 : F23.FT) (x24 : F24.FT) (x13 : F13.FT) (x25 : F25.FT) (x26 : F26.FT) (x27 : F27.FT) (kd : Bool) (d : (Int × Bool × Int × Bool × Int × Bool × Int × Bool × Int × Bool) × (Option (Int × Bool × Int × Bool × Int × Bool × Int × Bool × Int × Bool)) × Int) : unitF (tabC Try.prog (tab x19 x20 x21 x22 x23 x24 x13 x25 x26 x27) (pls x19 x20 x21 x22 x23 x24 x13 x25 x26 x27) 100 10) 100 .none (u1 fun _ _ => none) (codeAt [1, 1, 1, 1, 1, 1, 1, 0, 1, 0, 0, 1, 1, 0, 0, 1, 1, 0, 1] (bodyOf Try.prog 7)) kd d = r1P x19 x20 x21 x22 x23 x24 x13 x25 x26 x27 kd d := by kernel_rfl
noncomputable def r1 : G1 := r1P F19.f F20.f F21.f F22.f F23.f F24.f F13.f F25.f F26.f F27.f
noncomputable def l1 : G1 := r1
theorem ok1 : UnOk Try.prog (u1 l1) (codeAt [1, 1, 1, 1, 1, 1, 1, 0, 1, 0, 0, 1, 1, 0, 0, 1, 1, 0, 1] (bodyOf Try.prog 7)) :=
  blockT (p := .none) (fuel := 100) (depth := 10) mixed tabS plsP trivial (fun kd d => r1e F19.f F20.f F21.f F22.f F23.f F24.f F13.f F25.f F26.f F27.f kd d)
def r2P (x19 : F19.FT) (x20 : F20.FT) (x21 : F21.FT) (x22 : F22.FT) (x23 : F23.FT) (x24 : F24.FT) (x13 : F13.FT) (x25 : F25.FT) (x26 : F26.FT) (x27 : F27.FT) : G2 := fun ((a0, a1, a2), t67) ((c0, c1, c2, c3, c4, c5, c6, c7, c8, c9), (w0, w1, w2, w3, w4), ok) =>
    bif t67 == 0 then
      (x19 ((c0, c1, c2, c3, c4, c5, c6, c7, c8, c9), a1, a2)).bind fun r0 =>
        (x20 ((w0, w1, w2, w3, w4), a1, a2)).bind fun r1 => some (r0.fst == r1.fst, r0.snd, r1.snd)
    else
      bif t67 == 1 then
        (x19 ((c0, c1, c2, c3, c4, c5, c6, c7, c8, c9), a1, a2)).bind fun r0 =>
          (x20 ((w0, w1, w2, w3, w4), a1, a2)).bind fun r1 => some (r0.fst == r1.fst, r0.snd, r1.snd)
      else
        bif t67 == 2 then
          (x21 ((c0, c1, c2, c3, c4, c5, c6, c7, c8, c9), a1)).bind fun r0 =>
            (x22 ((w0, w1, w2, w3, w4), a1)).bind fun r1 => some (r0.fst == r1.fst, r0.snd, r1.snd)
        else
          bif t67 == 3 then
            (x23 ((c0, c1, c2, c3, c4, c5, c6, c7, c8, c9), a2)).bind fun r0 =>
              (x24 ((w0, w1, w2, w3, w4), a2)).bind fun r1 =>
                bif r0.fst.fst == r1.fst.fst then some (r0.fst.snd == r1.fst.snd, r0.snd, r1.snd)
                else some (false, r0.snd, r1.snd)
          else
            bif t67 == 4 then
              (x23 ((c0, c1, c2, c3, c4, c5, c6, c7, c8, c9), a2)).bind fun r0 =>
                (x24 ((w0, w1, w2, w3, w4), a2)).bind fun r1 =>
                  bif r0.fst.fst == r1.fst.fst then some (r0.fst.snd == r1.fst.snd, r0.snd, r1.snd)
                  else some (false, r0.snd, r1.snd)
            else
              bif t67 == 5 then
                (x23 ((c0, c1, c2, c3, c4, c5, c6, c7, c8, c9), a2)).bind fun r0 =>
                  (x24 ((w0, w1, w2, w3, w4), a2)).bind fun r1 =>
                    bif r0.fst.fst == r1.fst.fst then some (r0.fst.snd == r1.fst.snd, r0.snd, r1.snd)
                    else some (false, r0.snd, r1.snd)
              else
                bif t67 == 6 then
                  (x13 ((c0, c1, c2, c3, c4, c5, c6, c7, c8, c9), a1)).bind fun r0 =>
                    (x25 ((w0, w1, w2, w3, w4), a1)).bind fun r1 =>
                      bif r0.fst.fst == r1.fst.fst then some (r0.fst.snd == r1.fst.snd, r0.snd, r1.snd)
                      else some (false, r0.snd, r1.snd)
                else some (ok, (c0, c1, c2, c3, c4, c5, c6, c7, c8, c9), w0, w1, w2, w3, w4)
theorem r2e (x19 : F19.FT) (x20 : F20.FT) (x21 : F21.FT) (x22 : F22.FT) (x23 : F23.FT) (x24 : F24.FT) (x13 : F13.FT) (x25 : F25.FT) (x26 : F26.FT) (x27 : F27.FT) (kd : (Int × Int × Int) × Int) (d : (Int × Bool × Int × Bool × Int × Bool × Int × Bool × Int × Bool) × (Int × Int × Int × Int × Int) × Bool) : unitF (tabC Try.prog (tab x19 x20 x21 x22 x23 x24 x13 x25 x26 x27) (pls x19 x20 x21 x22 x23 x24 x13 x25 x26 x27) 100 10) 100 .none (u2 fun _ _ => none) (codeAt [1, 1, 1, 1, 1, 1, 1, 0, 1, 0, 0, 1, 1, 0, 0, 1, 1, 1, 1, 0, 1] (bodyOf Try.prog 7)) kd d = r2P x19 x20 x21 x22 x23 x24 x13 x25 x26 x27 kd d := by kernel_rfl
noncomputable def r2 : G2 := r2P F19.f F20.f F21.f F22.f F23.f F24.f F13.f F25.f F26.f F27.f
noncomputable def l2 : G2 := r2
theorem ok2 : UnOk Try.prog (u2 l2) (codeAt [1, 1, 1, 1, 1, 1, 1, 0, 1, 0, 0, 1, 1, 0, 0, 1, 1, 1, 1, 0, 1] (bodyOf Try.prog 7)) :=
  blockT (p := .none) (fuel := 100) (depth := 10) mixed tabS plsP trivial (fun kd d => r2e F19.f F20.f F21.f F22.f F23.f F24.f F13.f F25.f F26.f F27.f kd d)
def r3P (x19 : F19.FT) (x20 : F20.FT) (x21 : F21.FT) (x22 : F22.FT) (x23 : F23.FT) (x24 : F24.FT) (x13 : F13.FT) (x25 : F25.FT) (x26 : F26.FT) (x27 : F27.FT) (l1 : G1) (l2 : G2) : ((List (Int × Int × Int)) × (List (Int × Int × Int)) × Int) → ((Int × Bool × Int × Bool × Int × Bool × Int × Bool × Int × Bool) × (Int × Int × Int × Int × Int) × (Option (Int × Bool × Int × Bool × Int × Bool × Int × Bool × Int × Bool)) × Int × Int) → Option (((Int × Bool × Int × Bool × Int × Bool × Int × Bool × Int × Bool) × (Int × Int × Int × Int × Int) × (Option (Int × Bool × Int × Bool × Int × Bool × Int × Bool × Int × Bool)) × Int × Int) ⊕ ((Int × Bool × (Option (Int × Bool × Int × Bool × Int × Bool × Int × Bool × Int × Bool)) × Int) × ((Int × Bool × Int × Bool × Int × Bool × Int × Bool × Int × Bool) × (Int × Int × Int × Int × Int)))) := fun (l, t48, t49) ((c0, c1, c2, c3, c4, c5, c6, c7, c8, c9), (w0, w1, w2, w3, w4), twin, at0, t50) =>
    bif twin.isSome then
      bif decide (t50 < t49) then
        bif decide (0 ≤ t50 ∧ t50 < (↑t48.length : Int) ∧ 0 < t48.length) then
          bif decide (0 + t50.toNat < t48.length) then
            bif t50 == 60 then
              some
                (Sum.inr
                  ((0, false, some (twin.getD (0, false, 0, false, 0, false, 0, false, 0, false)), at0),
                    (c0, c1, c2, c3, c4, c5, c6, c7, c8, c9), w0, w1, w2, w3, w4))
            else
              (l1 (t50 == IntKind.i64.wrap ((↑l.length : Int).tdiv 2))
                    ((c0, c1, c2, c3, c4, c5, c6, c7, c8, c9),
                      some (twin.getD (0, false, 0, false, 0, false, 0, false, 0, false)), at0)).bind
                fun r0 =>
                bif r0.fst.fst.isSome then
                  (l2
                        (((t48.getD (0 + t50.toNat) (0, 0, 0)).fst, (t48.getD (0 + t50.toNat) (0, 0, 0)).snd.fst,
                            (t48.getD (0 + t50.toNat) (0, 0, 0)).snd.snd),
                          (t48.getD (0 + t50.toNat) (0, 0, 0)).fst)
                        (r0.snd, (w0, w1, w2, w3, w4), true)).bind
                    fun r1 =>
                    (x26 r1.snd.fst).bind fun r2 =>
                      (x27 r1.snd.snd).bind fun r3 =>
                        bif !r1.fst then some (Sum.inr ((1, false, none, 0), r2.snd, r3.snd))
                        else
                          bif !r2.snd.snd.snd.snd.snd.snd.snd.snd.snd.snd then
                            bif 0 != r3.snd.fst then some (Sum.inr ((1, false, none, 0), r2.snd, r3.snd))
                            else
                              bif r2.fst.fst != r3.fst.fst then some (Sum.inr ((1, false, none, 0), r2.snd, r3.snd))
                              else
                                bif r2.fst.snd.fst != r3.fst.snd.fst then
                                  some (Sum.inr ((1, false, none, 0), r2.snd, r3.snd))
                                else
                                  bif !r2.fst.snd.snd == r3.fst.snd.snd then
                                    some (Sum.inr ((1, false, none, 0), r2.snd, r3.snd))
                                  else
                                    some
                                      (Sum.inl
                                        (r2.snd, r3.snd,
                                          some (r0.fst.fst.getD (0, false, 0, false, 0, false, 0, false, 0, false)),
                                          r0.fst.snd, IntKind.i64.wrap (t50 + 1)))
                          else
                            bif r2.snd.fst != r3.snd.fst then some (Sum.inr ((1, false, none, 0), r2.snd, r3.snd))
                            else
                              bif r2.fst.fst != r3.fst.fst then some (Sum.inr ((1, false, none, 0), r2.snd, r3.snd))
                              else
                                bif r2.fst.snd.fst != r3.fst.snd.fst then
                                  some (Sum.inr ((1, false, none, 0), r2.snd, r3.snd))
                                else
                                  bif !r2.fst.snd.snd == r3.fst.snd.snd then
                                    some (Sum.inr ((1, false, none, 0), r2.snd, r3.snd))
                                  else
                                    some
                                      (Sum.inl
                                        (r2.snd, r3.snd,
                                          some (r0.fst.fst.getD (0, false, 0, false, 0, false, 0, false, 0, false)),
                                          r0.fst.snd, IntKind.i64.wrap (t50 + 1)))
                else
                  (l2
                        (((t48.getD (0 + t50.toNat) (0, 0, 0)).fst, (t48.getD (0 + t50.toNat) (0, 0, 0)).snd.fst,
                            (t48.getD (0 + t50.toNat) (0, 0, 0)).snd.snd),
                          (t48.getD (0 + t50.toNat) (0, 0, 0)).fst)
                        (r0.snd, (w0, w1, w2, w3, w4), true)).bind
                    fun r1 =>
                    (x26 r1.snd.fst).bind fun r2 =>
                      (x27 r1.snd.snd).bind fun r3 =>
                        bif !r1.fst then some (Sum.inr ((1, false, none, 0), r2.snd, r3.snd))
                        else
                          bif !r2.snd.snd.snd.snd.snd.snd.snd.snd.snd.snd then
                            bif 0 != r3.snd.fst then some (Sum.inr ((1, false, none, 0), r2.snd, r3.snd))
                            else
                              bif r2.fst.fst != r3.fst.fst then some (Sum.inr ((1, false, none, 0), r2.snd, r3.snd))
                              else
                                bif r2.fst.snd.fst != r3.fst.snd.fst then
                                  some (Sum.inr ((1, false, none, 0), r2.snd, r3.snd))
                                else
                                  bif !r2.fst.snd.snd == r3.fst.snd.snd then
                                    some (Sum.inr ((1, false, none, 0), r2.snd, r3.snd))
                                  else some (Sum.inl (r2.snd, r3.snd, none, r0.fst.snd, IntKind.i64.wrap (t50 + 1)))
                          else
                            bif r2.snd.fst != r3.snd.fst then some (Sum.inr ((1, false, none, 0), r2.snd, r3.snd))
                            else
                              bif r2.fst.fst != r3.fst.fst then some (Sum.inr ((1, false, none, 0), r2.snd, r3.snd))
                              else
                                bif r2.fst.snd.fst != r3.fst.snd.fst then
                                  some (Sum.inr ((1, false, none, 0), r2.snd, r3.snd))
                                else
                                  bif !r2.fst.snd.snd == r3.fst.snd.snd then
                                    some (Sum.inr ((1, false, none, 0), r2.snd, r3.snd))
                                  else some (Sum.inl (r2.snd, r3.snd, none, r0.fst.snd, IntKind.i64.wrap (t50 + 1)))
          else none
        else none
      else
        some
          (Sum.inr
            ((0, false, some (twin.getD (0, false, 0, false, 0, false, 0, false, 0, false)), at0),
              (c0, c1, c2, c3, c4, c5, c6, c7, c8, c9), w0, w1, w2, w3, w4))
    else
      bif decide (t50 < t49) then
        bif decide (0 ≤ t50 ∧ t50 < (↑t48.length : Int) ∧ 0 < t48.length) then
          bif decide (0 + t50.toNat < t48.length) then
            bif t50 == 60 then
              some (Sum.inr ((0, false, none, at0), (c0, c1, c2, c3, c4, c5, c6, c7, c8, c9), w0, w1, w2, w3, w4))
            else
              (l1 (t50 == IntKind.i64.wrap ((↑l.length : Int).tdiv 2))
                    ((c0, c1, c2, c3, c4, c5, c6, c7, c8, c9), none, at0)).bind
                fun r0 =>
                bif r0.fst.fst.isSome then
                  (l2
                        (((t48.getD (0 + t50.toNat) (0, 0, 0)).fst, (t48.getD (0 + t50.toNat) (0, 0, 0)).snd.fst,
                            (t48.getD (0 + t50.toNat) (0, 0, 0)).snd.snd),
                          (t48.getD (0 + t50.toNat) (0, 0, 0)).fst)
                        (r0.snd, (w0, w1, w2, w3, w4), true)).bind
                    fun r1 =>
                    (x26 r1.snd.fst).bind fun r2 =>
                      (x27 r1.snd.snd).bind fun r3 =>
                        bif !r1.fst then some (Sum.inr ((1, false, none, 0), r2.snd, r3.snd))
                        else
                          bif !r2.snd.snd.snd.snd.snd.snd.snd.snd.snd.snd then
                            bif 0 != r3.snd.fst then some (Sum.inr ((1, false, none, 0), r2.snd, r3.snd))
                            else
                              bif r2.fst.fst != r3.fst.fst then some (Sum.inr ((1, false, none, 0), r2.snd, r3.snd))
                              else
                                bif r2.fst.snd.fst != r3.fst.snd.fst then
                                  some (Sum.inr ((1, false, none, 0), r2.snd, r3.snd))
                                else
                                  bif !r2.fst.snd.snd == r3.fst.snd.snd then
                                    some (Sum.inr ((1, false, none, 0), r2.snd, r3.snd))
                                  else
                                    some
                                      (Sum.inl
                                        (r2.snd, r3.snd,
                                          some (r0.fst.fst.getD (0, false, 0, false, 0, false, 0, false, 0, false)),
                                          r0.fst.snd, IntKind.i64.wrap (t50 + 1)))
                          else
                            bif r2.snd.fst != r3.snd.fst then some (Sum.inr ((1, false, none, 0), r2.snd, r3.snd))
                            else
                              bif r2.fst.fst != r3.fst.fst then some (Sum.inr ((1, false, none, 0), r2.snd, r3.snd))
                              else
                                bif r2.fst.snd.fst != r3.fst.snd.fst then
                                  some (Sum.inr ((1, false, none, 0), r2.snd, r3.snd))
                                else
                                  bif !r2.fst.snd.snd == r3.fst.snd.snd then
                                    some (Sum.inr ((1, false, none, 0), r2.snd, r3.snd))
                                  else
                                    some
                                      (Sum.inl
                                        (r2.snd, r3.snd,
                                          some (r0.fst.fst.getD (0, false, 0, false, 0, false, 0, false, 0, false)),
                                          r0.fst.snd, IntKind.i64.wrap (t50 + 1)))
                else
                  (l2
                        (((t48.getD (0 + t50.toNat) (0, 0, 0)).fst, (t48.getD (0 + t50.toNat) (0, 0, 0)).snd.fst,
                            (t48.getD (0 + t50.toNat) (0, 0, 0)).snd.snd),
                          (t48.getD (0 + t50.toNat) (0, 0, 0)).fst)
                        (r0.snd, (w0, w1, w2, w3, w4), true)).bind
                    fun r1 =>
                    (x26 r1.snd.fst).bind fun r2 =>
                      (x27 r1.snd.snd).bind fun r3 =>
                        bif !r1.fst then some (Sum.inr ((1, false, none, 0), r2.snd, r3.snd))
                        else
                          bif !r2.snd.snd.snd.snd.snd.snd.snd.snd.snd.snd then
                            bif 0 != r3.snd.fst then some (Sum.inr ((1, false, none, 0), r2.snd, r3.snd))
                            else
                              bif r2.fst.fst != r3.fst.fst then some (Sum.inr ((1, false, none, 0), r2.snd, r3.snd))
                              else
                                bif r2.fst.snd.fst != r3.fst.snd.fst then
                                  some (Sum.inr ((1, false, none, 0), r2.snd, r3.snd))
                                else
                                  bif !r2.fst.snd.snd == r3.fst.snd.snd then
                                    some (Sum.inr ((1, false, none, 0), r2.snd, r3.snd))
                                  else some (Sum.inl (r2.snd, r3.snd, none, r0.fst.snd, IntKind.i64.wrap (t50 + 1)))
                          else
                            bif r2.snd.fst != r3.snd.fst then some (Sum.inr ((1, false, none, 0), r2.snd, r3.snd))
                            else
                              bif r2.fst.fst != r3.fst.fst then some (Sum.inr ((1, false, none, 0), r2.snd, r3.snd))
                              else
                                bif r2.fst.snd.fst != r3.fst.snd.fst then
                                  some (Sum.inr ((1, false, none, 0), r2.snd, r3.snd))
                                else
                                  bif !r2.fst.snd.snd == r3.fst.snd.snd then
                                    some (Sum.inr ((1, false, none, 0), r2.snd, r3.snd))
                                  else some (Sum.inl (r2.snd, r3.snd, none, r0.fst.snd, IntKind.i64.wrap (t50 + 1)))
          else none
        else none
      else some (Sum.inr ((0, false, none, at0), (c0, c1, c2, c3, c4, c5, c6, c7, c8, c9), w0, w1, w2, w3, w4))
theorem r3e (x19 : F19.FT) (x20 : F20.FT) (x21 : F21.FT) (x22 : F22.FT) (x23 : F23.FT) (x24 : F24.FT) (x13 : F13.FT) (x25 : F25.FT) (x26 : F26.FT) (x27 : F27.FT) (l1 : G1) (l2 : G2) (kd : (List (Int × Int × Int)) × (List (Int × Int × Int)) × Int) (d : (Int × Bool × Int × Bool × Int × Bool × Int × Bool × Int × Bool) × (Int × Int × Int × Int × Int) × (Option (Int × Bool × Int × Bool × Int × Bool × Int × Bool × Int × Bool)) × Int × Int) : roundF (tabC Try.prog (tab x19 x20 x21 x22 x23 x24 x13 x25 x26 x27) (pls x19 x20 x21 x22 x23 x24 x13 x25 x26 x27) 100 10) 100 (.node .none (.node .none (.node (.node (.node .none (.node .none (.node (.node .none (.unit (u1 l1))) (.node .none (.node (.node .none (.unit (u2 l2))) .none))))) .none) .none))) (u3 fun _ _ => none) (codeAt [1, 1, 1, 1, 1, 1, 1, 0, 1, 0, 0] (bodyOf Try.prog 7)) kd d = r3P x19 x20 x21 x22 x23 x24 x13 x25 x26 x27 l1 l2 kd d := by kernel_rfl
noncomputable def r3 : ((List (Int × Int × Int)) × (List (Int × Int × Int)) × Int) → ((Int × Bool × Int × Bool × Int × Bool × Int × Bool × Int × Bool) × (Int × Int × Int × Int × Int) × (Option (Int × Bool × Int × Bool × Int × Bool × Int × Bool × Int × Bool)) × Int × Int) → Option (((Int × Bool × Int × Bool × Int × Bool × Int × Bool × Int × Bool) × (Int × Int × Int × Int × Int) × (Option (Int × Bool × Int × Bool × Int × Bool × Int × Bool × Int × Bool)) × Int × Int) ⊕ ((Int × Bool × (Option (Int × Bool × Int × Bool × Int × Bool × Int × Bool × Int × Bool)) × Int) × ((Int × Bool × Int × Bool × Int × Bool × Int × Bool × Int × Bool) × (Int × Int × Int × Int × Int)))) := r3P F19.f F20.f F21.f F22.f F23.f F24.f F13.f F25.f F26.f F27.f l1 l2
noncomputable def l3 : G3 := fun kd d => iterO (r3 kd) d
theorem ok3 : UnOk Try.prog (u3 l3) (codeAt [1, 1, 1, 1, 1, 1, 1, 0, 1, 0] (bodyOf Try.prog 7)) :=
  loopT (p := (.node .none (.node .none (.node (.node (.node .none (.node .none (.node (.node .none (.unit (u1 l1))) (.node .none (.node (.node .none (.unit (u2 l2))) .none))))) .none) .none)))) (c := codeAt [1, 1, 1, 1, 1, 1, 1, 0, 1, 0, 0] (bodyOf Try.prog 7)) (fuel := 100) (depth := 10) mixed tabS plsP (by kernel_rfl) (planOk_of (.node .none (.node .none (.node (.node (.node .none (.node .none (.node (.node .none (.unit (u1 l1))) (.node .none (.node (.node .none (.unit (u2 l2))) .none))))) .none) .none))) _ [([1, 1, 0, 0, 1, 1, 0, 1], u1 l1), ([1, 1, 0, 0, 1, 1, 1, 1, 0, 1], u2 l2)] rfl ⟨ok1, ok2, trivial⟩) (by kernel_rfl) (fun kd d => r3e F19.f F20.f F21.f F22.f F23.f F24.f F13.f F25.f F26.f F27.f l1 l2 kd d) rfl
def fP (x19 : F19.FT) (x20 : F20.FT) (x21 : F21.FT) (x22 : F22.FT) (x23 : F23.FT) (x24 : F24.FT) (x13 : F13.FT) (x25 : F25.FT) (x26 : F26.FT) (x27 : F27.FT) (l3 : G3) : FT := fun (now, l) =>
    bif decide (now < 0) then
      bif decide (now < 0) then some (true, PUnit.unit)
      else bif decide (now > 1099511627776) then some (true, PUnit.unit) else some (false, PUnit.unit)
    else
      bif decide (now > 1099511627776) then
        bif decide (now < 0) then some (true, PUnit.unit)
        else bif decide (now > 1099511627776) then some (true, PUnit.unit) else some (false, PUnit.unit)
      else
        bif decide (now < 0) then some (false, PUnit.unit)
        else
          bif decide (now > 1099511627776) then some (false, PUnit.unit)
          else
            bif decide (0 + l.length ≤ l.length) && true then
              bif decide (0 + l.length ≤ l.length) && true then
                (l3 (List.take l.length l, List.take l.length l, (↑l.length : Int))
                      ((now, false, 0, false, 0, false, 0, false, 0, true), (now, -1, -1, -1, -1), none, 0, 0)).bind
                  fun r0 =>
                  bif r0.fst.snd.snd.fst.isSome then
                    bif decide (r0.fst.fst = 0) then
                      bif
                          !(r0.fst.snd.snd.fst.getD
                                                (0, false, 0, false, 0, false, 0, false, 0,
                                                  false)).snd.snd.snd.snd.snd.snd.snd.snd.snd then
                        bif 0 == r0.fst.snd.snd.snd then some (true, PUnit.unit) else some (false, PUnit.unit)
                      else
                        bif
                            (r0.fst.snd.snd.fst.getD (0, false, 0, false, 0, false, 0, false, 0, false)).fst ==
                              r0.fst.snd.snd.snd then
                          some (true, PUnit.unit)
                        else some (false, PUnit.unit)
                    else bif decide (r0.fst.fst = 1) then some (r0.fst.snd.fst, PUnit.unit) else none
                  else
                    bif decide (r0.fst.fst = 0) then some (true, PUnit.unit)
                    else bif decide (r0.fst.fst = 1) then some (r0.fst.snd.fst, PUnit.unit) else none
              else none
            else none
theorem fe (x19 : F19.FT) (x20 : F20.FT) (x21 : F21.FT) (x22 : F22.FT) (x23 : F23.FT) (x24 : F24.FT) (x13 : F13.FT) (x25 : F25.FT) (x26 : F26.FT) (x27 : F27.FT) (l3 : G3) (d : Int × (List (Int × Int × Int))) : bodyF (tabC Try.prog (tab x19 x20 x21 x22 x23 x24 x13 x25 x26 x27) ((7, (.node .none (.node .none (.node .none (.node .none (.node .none (.node .none (.node .none (.node (.node .none (.node (.unit (u3 l3)) .none)) .none))))))))) :: pls x19 x20 x21 x22 x23 x24 x13 x25 x26 x27) 100 10) 100 7 i o d = fP x19 x20 x21 x22 x23 x24 x13 x25 x26 x27 l3 d := by kernel_rfl
noncomputable def f : FT := fP F19.f F20.f F21.f F22.f F23.f F24.f F13.f F25.f F26.f F27.f l3
def plan (l3 : G3) : Plan := (.node .none (.node .none (.node .none (.node .none (.node .none (.node .none (.node .none (.node (.node .none (.node (.unit (u3 l3)) .none)) .none))))))))
theorem planOk : PlanOk Try.prog (plan l3) (bodyOf Try.prog 7) := (planOk_of (plan l3) _ [([1, 1, 1, 1, 1, 1, 1, 0, 1, 0], u3 l3)] rfl ⟨ok3, trivial⟩)
theorem meets : MeetsF Try.prog 7 ⟨i, o, f⟩ :=
  funcT (fuel := 100) (depth := 10) (pl := (7, plan l3) :: pls F19.f F20.f F21.f F22.f F23.f F24.f F13.f F25.f F26.f F27.f) mixed tabS ⟨planOk, plsP⟩ (fun d => fe F19.f F20.f F21.f F22.f F23.f F24.f F13.f F25.f F26.f F27.f l3 d)
theorem spec : SpecOk Try.prog (fun _ => none) 7 (specF ⟨i, o, f⟩) := specF_ok (by kernel_rfl) meets
end Go.Proofs.Ytemggodhikpmdaa.F7
