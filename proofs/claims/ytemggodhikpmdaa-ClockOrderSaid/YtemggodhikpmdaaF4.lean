/- What comes of function 4 of this program, consulate.consulatelaw13.ClockOrder, as the engine gives it. -/
import Derived.Test.YtemggodhikpmdaaChecked
import Derived.Test.YtemggodhikpmdaaZM
import Derived.Test.YtemggodhikpmdaaF9
import Derived.Test.YtemggodhikpmdaaF10
import Derived.Test.YtemggodhikpmdaaF13
import Derived.Test.YtemggodhikpmdaaKA
namespace Go.Proofs.Ytemggodhikpmdaa.F4
open Go Go.Proofs Go.RowKit Go.Proofs.Ytemggodhikpmdaa.Sx
set_option linter.unusedVariables false
set_option maxRecDepth 100000
def tab (x9 : F9.FT) (x10 : F10.FT) (x13 : F13.FT) : List (FuncId × Sx.Spec) := [(9, specF ⟨F9.i, F9.o, x9⟩), (10, specF ⟨F10.i, F10.o, x10⟩), (13, specF ⟨F13.i, F13.o, x13⟩), (12, pureS saysS)]
def pls (x9 : F9.FT) (x10 : F10.FT) (x13 : F13.FT) : List (FuncId × Plan) := []
@[reducible] def k1 : Sh := .nil
@[reducible] def i1 : Sh := .pt true 23 (.sc (.int .i64) (.sc (.int .i64) (.sc (.int .i64) (.sc (.int .i64) .nil)))) (.sc (.int .i64) .nil)
@[reducible] def o1 : Sh := .nil
abbrev G1 := Unit → ((Int × Int × Int × Int) × Int) → Option (Unit × ((Int × Int × Int × Int)))
def u1 (F : G1) : Un := ⟨161, [], k1, [4, 29], i1, [], o1, [4, 7, 8], [(.exit 0, [])], F⟩
@[reducible] def k2 : Sh := .sc (.int .i64) (.sc (.int .i64) (.sc (.int .i64) (.sl true 31 (.sc (.int .i64) (.sc .bool (.sc (.int .i64) .nil))) (.sc (.int .i64) .nil))))
@[reducible] def i2 : Sh := .sc (.int .i64) (.sc (.int .i64) .nil)
@[reducible] def o2 : Sh := .sc (.int .i64) (.sc .bool (.sc (.int .i64) .nil))
abbrev G2 := (Int × Int × Int × (List (Int × Bool × Int)) × Int) → (Int × Int) → Option ((Int × Bool × Int) × Unit)
def u2 (F : G2) : Un := ⟨161, [7, 12, 13, 55, 56], k2, [14, 57], i2, [6, 14], o2, [7, 8, 10, 11, 12, 13, 50, 51, 55, 56], [(.exit 4, [false, true]), (.ret, [true, false])], F⟩
@[reducible] def k3 : Sh := .sc (.int .i64) (.sc (.int .i64) (.sl true 31 (.sc (.int .i64) (.sc .bool (.sc (.int .i64) .nil))) (.ag (.sc (.int .i64) (.sc (.int .i64) (.sc (.int .i64) (.sc (.int .i64) .nil)))) .nil)))
@[reducible] def i3 : Sh := .pt true 65 (.sc (.int .i64) (.sc .bool (.sc (.int .i64) (.sc .bool (.sc (.int .i64) (.sc .bool (.sc (.int .i64) (.sc .bool (.sc (.int .i64) (.sc .bool .nil)))))))))) (.sc (.int .i64) .nil)
@[reducible] def o3 : Sh := .sc (.int .i64) (.sc .bool .nil)
abbrev G3 := (Int × Int × (List (Int × Bool × Int)) × (Int × Int × Int × Int)) → ((Int × Bool × Int × Bool × Int × Bool × Int × Bool × Int × Bool) × Int) → Option ((Int × Bool) × ((Int × Bool × Int × Bool × Int × Bool × Int × Bool × Int × Bool)))
def u3 (F : G3) : Un := ⟨161, [7, 8, 11, 50], k3, [10, 51], i3, [6], o3, [7, 8, 10, 11, 50], [(.exit 2, [false]), (.ret, [true])], F⟩
@[reducible] def k4 : Sh := .sl true 31 (.sc (.int .i64) (.sc .bool (.sc (.int .i64) .nil))) .nil
@[reducible] def i4 : Sh := .sc (.int .i64) .nil
@[reducible] def o4 : Sh := .sc (.int .i64) (.sc .bool .nil)
abbrev G4 := ((List (Int × Bool × Int))) → Int → Option ((Int × Bool) × Unit)
def u4 (F : G4) : Un := ⟨161, [11], k4, [20], i4, [6], o4, [8, 10, 11], [(.exit 6, [false]), (.ret, [true])], F⟩
@[reducible] def i : Sh := .sc (.int .u32) (.ag (.sc (.int .i64) (.sc (.int .i64) (.sc (.int .i64) (.sc (.int .i64) .nil)))) (.sc (.int .u32) .nil))
@[reducible] def o : Sh := .sc .bool .nil
abbrev FT := (Int × (Int × Int × Int × Int) × Int) → Option (Bool × Unit)
theorem tabS : AllS Try.prog (tab F9.f F10.f F13.f) := ⟨F9.spec, F10.spec, F13.spec, says_ok (by kernel_rfl) KA.tells, trivial⟩
theorem plsP : AllP Try.prog (pls F9.f F10.f F13.f) := trivial
theorem mixed : Try.prog.follows .mixedOrders = true := by kernel_rfl
def r1P (x9 : F9.FT) (x10 : F10.FT) (x13 : F13.FT) : Unit → ((Int × Int × Int × Int) × Int) → Option (((Int × Int × Int × Int) × Int) ⊕ (Unit × ((Int × Int × Int × Int)))) := fun () ((l0, l1_2, l2_2, l3_2), t29) =>
    bif decide (t29 < 4) then
      bif decide (0 ≤ t29 ∧ t29 < 4) then
        bif t29.toNat.beq 0 then
          bif decide (0 ≤ t29 ∧ t29 < 4) then
            bif t29.toNat.beq 0 then
              some (Sum.inl ((if 1048576 < l0 then 1048576 else l0, l1_2, l2_2, l3_2), IntKind.i64.wrap (t29 + 1)))
            else
              bif t29.toNat.beq 1 then
                some (Sum.inl ((l0, if 1048576 < l0 then 1048576 else l0, l2_2, l3_2), IntKind.i64.wrap (t29 + 1)))
              else
                bif t29.toNat.beq 2 then
                  some (Sum.inl ((l0, l1_2, if 1048576 < l0 then 1048576 else l0, l3_2), IntKind.i64.wrap (t29 + 1)))
                else
                  bif t29.toNat.beq 3 then
                    some (Sum.inl ((l0, l1_2, l2_2, if 1048576 < l0 then 1048576 else l0), IntKind.i64.wrap (t29 + 1)))
                  else none
          else none
        else
          bif t29.toNat.beq 1 then
            bif decide (0 ≤ t29 ∧ t29 < 4) then
              bif t29.toNat.beq 0 then
                some (Sum.inl ((if 1048576 < l1_2 then 1048576 else l1_2, l1_2, l2_2, l3_2), IntKind.i64.wrap (t29 + 1)))
              else
                bif t29.toNat.beq 1 then
                  some (Sum.inl ((l0, if 1048576 < l1_2 then 1048576 else l1_2, l2_2, l3_2), IntKind.i64.wrap (t29 + 1)))
                else
                  bif t29.toNat.beq 2 then
                    some
                      (Sum.inl ((l0, l1_2, if 1048576 < l1_2 then 1048576 else l1_2, l3_2), IntKind.i64.wrap (t29 + 1)))
                  else
                    bif t29.toNat.beq 3 then
                      some
                        (Sum.inl ((l0, l1_2, l2_2, if 1048576 < l1_2 then 1048576 else l1_2), IntKind.i64.wrap (t29 + 1)))
                    else none
            else none
          else
            bif t29.toNat.beq 2 then
              bif decide (0 ≤ t29 ∧ t29 < 4) then
                bif t29.toNat.beq 0 then
                  some
                    (Sum.inl ((if 1048576 < l2_2 then 1048576 else l2_2, l1_2, l2_2, l3_2), IntKind.i64.wrap (t29 + 1)))
                else
                  bif t29.toNat.beq 1 then
                    some
                      (Sum.inl ((l0, if 1048576 < l2_2 then 1048576 else l2_2, l2_2, l3_2), IntKind.i64.wrap (t29 + 1)))
                  else
                    bif t29.toNat.beq 2 then
                      some
                        (Sum.inl ((l0, l1_2, if 1048576 < l2_2 then 1048576 else l2_2, l3_2), IntKind.i64.wrap (t29 + 1)))
                    else
                      bif t29.toNat.beq 3 then
                        some
                          (Sum.inl
                            ((l0, l1_2, l2_2, if 1048576 < l2_2 then 1048576 else l2_2), IntKind.i64.wrap (t29 + 1)))
                      else none
              else none
            else
              bif t29.toNat.beq 3 then
                bif decide (0 ≤ t29 ∧ t29 < 4) then
                  bif t29.toNat.beq 0 then
                    some
                      (Sum.inl ((if 1048576 < l3_2 then 1048576 else l3_2, l1_2, l2_2, l3_2), IntKind.i64.wrap (t29 + 1)))
                  else
                    bif t29.toNat.beq 1 then
                      some
                        (Sum.inl ((l0, if 1048576 < l3_2 then 1048576 else l3_2, l2_2, l3_2), IntKind.i64.wrap (t29 + 1)))
                    else
                      bif t29.toNat.beq 2 then
                        some
                          (Sum.inl
                            ((l0, l1_2, if 1048576 < l3_2 then 1048576 else l3_2, l3_2), IntKind.i64.wrap (t29 + 1)))
                      else
                        bif t29.toNat.beq 3 then
                          some
                            (Sum.inl
                              ((l0, l1_2, l2_2, if 1048576 < l3_2 then 1048576 else l3_2), IntKind.i64.wrap (t29 + 1)))
                        else none
                else none
              else none
      else none
    else some (Sum.inr (PUnit.unit, l0, l1_2, l2_2, l3_2))
theorem r1e (x9 : F9.FT) (x10 : F10.FT) (x13 : F13.FT) (kd : Unit) (d : (Int × Int × Int × Int) × Int) : roundF (tabC Try.prog (tab x9 x10 x13) (pls x9 x10 x13) 100 10) 100 .none (u1 fun _ _ => none) (codeAt [1, 1, 0, 1, 0, 0] (bodyOf Try.prog 4)) kd d = r1P x9 x10 x13 kd d := by kernel_rfl
noncomputable def r1 : Unit → ((Int × Int × Int × Int) × Int) → Option (((Int × Int × Int × Int) × Int) ⊕ (Unit × ((Int × Int × Int × Int)))) := r1P F9.f F10.f F13.f
noncomputable def l1 : G1 := fun kd d => iterO (r1 kd) d
theorem ok1 : UnOk Try.prog (u1 l1) (codeAt [1, 1, 0, 1, 0] (bodyOf Try.prog 4)) :=
  loopT (p := .none) (c := codeAt [1, 1, 0, 1, 0, 0] (bodyOf Try.prog 4)) (fuel := 100) (depth := 10) mixed tabS plsP (by kernel_rfl) trivial (by kernel_rfl) (fun kd d => r1e F9.f F10.f F13.f kd d) rfl
def r2P (x9 : F9.FT) (x10 : F10.FT) (x13 : F13.FT) : (Int × Int × Int × (List (Int × Bool × Int)) × Int) → (Int × Int) → Option ((Int × Int) ⊕ ((Int × Bool × Int) × Unit)) := fun (at0, k, n, t55, t56) (many, t57) =>
    bif decide (t57 < t56) then
      bif decide (0 ≤ t57 ∧ t57 < (↑t55.length : Int) ∧ 0 < t55.length) then
        bif decide (0 + t57.toNat < t55.length) then
          bif (t55.getD (0 + t57.toNat) (0, false, 0)).fst == k then
            bif (t55.getD (0 + t57.toNat) (0, false, 0)).snd.snd != IntKind.i64.wrap (at0 + n) then
              some (Sum.inr ((1, false, 0), PUnit.unit))
            else some (Sum.inl (IntKind.i64.wrap (many + 1), IntKind.i64.wrap (t57 + 1)))
          else some (Sum.inl (many, IntKind.i64.wrap (t57 + 1)))
        else none
      else none
    else some (Sum.inr ((0, false, many), PUnit.unit))
theorem r2e (x9 : F9.FT) (x10 : F10.FT) (x13 : F13.FT) (kd : Int × Int × Int × (List (Int × Bool × Int)) × Int) (d : Int × Int) : roundF (tabC Try.prog (tab x9 x10 x13) (pls x9 x10 x13) 100 10) 100 .none (u2 fun _ _ => none) (codeAt [1, 1, 1, 1, 1, 1, 1, 0, 1, 0, 0, 1, 1, 0, 0, 1, 1, 0, 1, 0, 0] (bodyOf Try.prog 4)) kd d = r2P x9 x10 x13 kd d := by kernel_rfl
noncomputable def r2 : (Int × Int × Int × (List (Int × Bool × Int)) × Int) → (Int × Int) → Option ((Int × Int) ⊕ ((Int × Bool × Int) × Unit)) := r2P F9.f F10.f F13.f
noncomputable def l2 : G2 := fun kd d => iterO (r2 kd) d
theorem ok2 : UnOk Try.prog (u2 l2) (codeAt [1, 1, 1, 1, 1, 1, 1, 0, 1, 0, 0, 1, 1, 0, 0, 1, 1, 0, 1, 0] (bodyOf Try.prog 4)) :=
  loopT (p := .none) (c := codeAt [1, 1, 1, 1, 1, 1, 1, 0, 1, 0, 0, 1, 1, 0, 0, 1, 1, 0, 1, 0, 0] (bodyOf Try.prog 4)) (fuel := 100) (depth := 10) mixed tabS plsP (by kernel_rfl) trivial (by kernel_rfl) (fun kd d => r2e F9.f F10.f F13.f kd d) rfl
def r3P (x9 : F9.FT) (x10 : F10.FT) (x13 : F13.FT) (l2 : G2) : (Int × Int × (List (Int × Bool × Int)) × (Int × Int × Int × Int)) → ((Int × Bool × Int × Bool × Int × Bool × Int × Bool × Int × Bool) × Int) → Option (((Int × Bool × Int × Bool × Int × Bool × Int × Bool × Int × Bool) × Int) ⊕ ((Int × Bool) × ((Int × Bool × Int × Bool × Int × Bool × Int × Bool × Int × Bool)))) := fun (at0, end0, got, (t500, t501, t502, t503)) ((c0, c1, c2, c3, c4, c5, c6, c7, c8, c9), t51) =>
    bif decide (t51 < 4) then
      bif decide (0 ≤ t51 ∧ t51 < 4) then
        bif t51.toNat.beq 0 then
          bif decide (0 + got.length ≤ got.length) && true then
            (l2 (at0, t51, t500, List.take got.length got, (↑got.length : Int)) (0, 0)).bind fun r0 =>
              bif decide (r0.fst.fst = 0) then
                bif decide (t500 ≥ 0) then
                  (x13 ((c0, c1, c2, c3, c4, c5, c6, c7, c8, c9), t51)).bind fun r1 =>
                    bif decide (r0.fst.snd.snd > 1) then some (Sum.inr ((1, false), r1.snd))
                    else
                      bif !(r0.fst.snd.snd == 1) == decide (IntKind.i64.wrap (at0 + t500) ≤ end0) then
                        some (Sum.inr ((1, false), r1.snd))
                      else
                        bif decide (t500 ≥ 0) then
                          bif !r1.fst.snd == !decide (IntKind.i64.wrap (at0 + t500) ≤ end0) then
                            some (Sum.inr ((1, false), r1.snd))
                          else
                            bif r1.fst.snd then
                              bif r1.fst.fst != IntKind.i64.wrap (IntKind.i64.wrap (at0 + t500) - end0) then
                                some (Sum.inr ((1, false), r1.snd))
                              else some (Sum.inl (r1.snd, IntKind.i64.wrap (t51 + 1)))
                            else some (Sum.inl (r1.snd, IntKind.i64.wrap (t51 + 1)))
                        else
                          bif !r1.fst.snd == false then some (Sum.inr ((1, false), r1.snd))
                          else
                            bif r1.fst.snd then
                              bif r1.fst.fst != IntKind.i64.wrap (IntKind.i64.wrap (at0 + t500) - end0) then
                                some (Sum.inr ((1, false), r1.snd))
                              else some (Sum.inl (r1.snd, IntKind.i64.wrap (t51 + 1)))
                            else some (Sum.inl (r1.snd, IntKind.i64.wrap (t51 + 1)))
                else
                  (x13 ((c0, c1, c2, c3, c4, c5, c6, c7, c8, c9), t51)).bind fun r1 =>
                    bif decide (r0.fst.snd.snd > 1) then some (Sum.inr ((1, false), r1.snd))
                    else
                      bif !(r0.fst.snd.snd == 1) == false then some (Sum.inr ((1, false), r1.snd))
                      else
                        bif decide (t500 ≥ 0) then
                          bif !r1.fst.snd == true then some (Sum.inr ((1, false), r1.snd))
                          else
                            bif r1.fst.snd then
                              bif r1.fst.fst != IntKind.i64.wrap (IntKind.i64.wrap (at0 + t500) - end0) then
                                some (Sum.inr ((1, false), r1.snd))
                              else some (Sum.inl (r1.snd, IntKind.i64.wrap (t51 + 1)))
                            else some (Sum.inl (r1.snd, IntKind.i64.wrap (t51 + 1)))
                        else
                          bif !r1.fst.snd == false then some (Sum.inr ((1, false), r1.snd))
                          else
                            bif r1.fst.snd then
                              bif r1.fst.fst != IntKind.i64.wrap (IntKind.i64.wrap (at0 + t500) - end0) then
                                some (Sum.inr ((1, false), r1.snd))
                              else some (Sum.inl (r1.snd, IntKind.i64.wrap (t51 + 1)))
                            else some (Sum.inl (r1.snd, IntKind.i64.wrap (t51 + 1)))
              else
                bif decide (r0.fst.fst = 1) then
                  some (Sum.inr ((1, r0.fst.snd.fst), c0, c1, c2, c3, c4, c5, c6, c7, c8, c9))
                else none
          else none
        else
          bif t51.toNat.beq 1 then
            bif decide (0 + got.length ≤ got.length) && true then
              (l2 (at0, t51, t501, List.take got.length got, (↑got.length : Int)) (0, 0)).bind fun r0 =>
                bif decide (r0.fst.fst = 0) then
                  bif decide (t501 ≥ 0) then
                    (x13 ((c0, c1, c2, c3, c4, c5, c6, c7, c8, c9), t51)).bind fun r1 =>
                      bif decide (r0.fst.snd.snd > 1) then some (Sum.inr ((1, false), r1.snd))
                      else
                        bif !(r0.fst.snd.snd == 1) == decide (IntKind.i64.wrap (at0 + t501) ≤ end0) then
                          some (Sum.inr ((1, false), r1.snd))
                        else
                          bif decide (t501 ≥ 0) then
                            bif !r1.fst.snd == !decide (IntKind.i64.wrap (at0 + t501) ≤ end0) then
                              some (Sum.inr ((1, false), r1.snd))
                            else
                              bif r1.fst.snd then
                                bif r1.fst.fst != IntKind.i64.wrap (IntKind.i64.wrap (at0 + t501) - end0) then
                                  some (Sum.inr ((1, false), r1.snd))
                                else some (Sum.inl (r1.snd, IntKind.i64.wrap (t51 + 1)))
                              else some (Sum.inl (r1.snd, IntKind.i64.wrap (t51 + 1)))
                          else
                            bif !r1.fst.snd == false then some (Sum.inr ((1, false), r1.snd))
                            else
                              bif r1.fst.snd then
                                bif r1.fst.fst != IntKind.i64.wrap (IntKind.i64.wrap (at0 + t501) - end0) then
                                  some (Sum.inr ((1, false), r1.snd))
                                else some (Sum.inl (r1.snd, IntKind.i64.wrap (t51 + 1)))
                              else some (Sum.inl (r1.snd, IntKind.i64.wrap (t51 + 1)))
                  else
                    (x13 ((c0, c1, c2, c3, c4, c5, c6, c7, c8, c9), t51)).bind fun r1 =>
                      bif decide (r0.fst.snd.snd > 1) then some (Sum.inr ((1, false), r1.snd))
                      else
                        bif !(r0.fst.snd.snd == 1) == false then some (Sum.inr ((1, false), r1.snd))
                        else
                          bif decide (t501 ≥ 0) then
                            bif !r1.fst.snd == true then some (Sum.inr ((1, false), r1.snd))
                            else
                              bif r1.fst.snd then
                                bif r1.fst.fst != IntKind.i64.wrap (IntKind.i64.wrap (at0 + t501) - end0) then
                                  some (Sum.inr ((1, false), r1.snd))
                                else some (Sum.inl (r1.snd, IntKind.i64.wrap (t51 + 1)))
                              else some (Sum.inl (r1.snd, IntKind.i64.wrap (t51 + 1)))
                          else
                            bif !r1.fst.snd == false then some (Sum.inr ((1, false), r1.snd))
                            else
                              bif r1.fst.snd then
                                bif r1.fst.fst != IntKind.i64.wrap (IntKind.i64.wrap (at0 + t501) - end0) then
                                  some (Sum.inr ((1, false), r1.snd))
                                else some (Sum.inl (r1.snd, IntKind.i64.wrap (t51 + 1)))
                              else some (Sum.inl (r1.snd, IntKind.i64.wrap (t51 + 1)))
                else
                  bif decide (r0.fst.fst = 1) then
                    some (Sum.inr ((1, r0.fst.snd.fst), c0, c1, c2, c3, c4, c5, c6, c7, c8, c9))
                  else none
            else none
          else
            bif t51.toNat.beq 2 then
              bif decide (0 + got.length ≤ got.length) && true then
                (l2 (at0, t51, t502, List.take got.length got, (↑got.length : Int)) (0, 0)).bind fun r0 =>
                  bif decide (r0.fst.fst = 0) then
                    bif decide (t502 ≥ 0) then
                      (x13 ((c0, c1, c2, c3, c4, c5, c6, c7, c8, c9), t51)).bind fun r1 =>
                        bif decide (r0.fst.snd.snd > 1) then some (Sum.inr ((1, false), r1.snd))
                        else
                          bif !(r0.fst.snd.snd == 1) == decide (IntKind.i64.wrap (at0 + t502) ≤ end0) then
                            some (Sum.inr ((1, false), r1.snd))
                          else
                            bif decide (t502 ≥ 0) then
                              bif !r1.fst.snd == !decide (IntKind.i64.wrap (at0 + t502) ≤ end0) then
                                some (Sum.inr ((1, false), r1.snd))
                              else
                                bif r1.fst.snd then
                                  bif r1.fst.fst != IntKind.i64.wrap (IntKind.i64.wrap (at0 + t502) - end0) then
                                    some (Sum.inr ((1, false), r1.snd))
                                  else some (Sum.inl (r1.snd, IntKind.i64.wrap (t51 + 1)))
                                else some (Sum.inl (r1.snd, IntKind.i64.wrap (t51 + 1)))
                            else
                              bif !r1.fst.snd == false then some (Sum.inr ((1, false), r1.snd))
                              else
                                bif r1.fst.snd then
                                  bif r1.fst.fst != IntKind.i64.wrap (IntKind.i64.wrap (at0 + t502) - end0) then
                                    some (Sum.inr ((1, false), r1.snd))
                                  else some (Sum.inl (r1.snd, IntKind.i64.wrap (t51 + 1)))
                                else some (Sum.inl (r1.snd, IntKind.i64.wrap (t51 + 1)))
                    else
                      (x13 ((c0, c1, c2, c3, c4, c5, c6, c7, c8, c9), t51)).bind fun r1 =>
                        bif decide (r0.fst.snd.snd > 1) then some (Sum.inr ((1, false), r1.snd))
                        else
                          bif !(r0.fst.snd.snd == 1) == false then some (Sum.inr ((1, false), r1.snd))
                          else
                            bif decide (t502 ≥ 0) then
                              bif !r1.fst.snd == true then some (Sum.inr ((1, false), r1.snd))
                              else
                                bif r1.fst.snd then
                                  bif r1.fst.fst != IntKind.i64.wrap (IntKind.i64.wrap (at0 + t502) - end0) then
                                    some (Sum.inr ((1, false), r1.snd))
                                  else some (Sum.inl (r1.snd, IntKind.i64.wrap (t51 + 1)))
                                else some (Sum.inl (r1.snd, IntKind.i64.wrap (t51 + 1)))
                            else
                              bif !r1.fst.snd == false then some (Sum.inr ((1, false), r1.snd))
                              else
                                bif r1.fst.snd then
                                  bif r1.fst.fst != IntKind.i64.wrap (IntKind.i64.wrap (at0 + t502) - end0) then
                                    some (Sum.inr ((1, false), r1.snd))
                                  else some (Sum.inl (r1.snd, IntKind.i64.wrap (t51 + 1)))
                                else some (Sum.inl (r1.snd, IntKind.i64.wrap (t51 + 1)))
                  else
                    bif decide (r0.fst.fst = 1) then
                      some (Sum.inr ((1, r0.fst.snd.fst), c0, c1, c2, c3, c4, c5, c6, c7, c8, c9))
                    else none
              else none
            else
              bif t51.toNat.beq 3 then
                bif decide (0 + got.length ≤ got.length) && true then
                  (l2 (at0, t51, t503, List.take got.length got, (↑got.length : Int)) (0, 0)).bind fun r0 =>
                    bif decide (r0.fst.fst = 0) then
                      bif decide (t503 ≥ 0) then
                        (x13 ((c0, c1, c2, c3, c4, c5, c6, c7, c8, c9), t51)).bind fun r1 =>
                          bif decide (r0.fst.snd.snd > 1) then some (Sum.inr ((1, false), r1.snd))
                          else
                            bif !(r0.fst.snd.snd == 1) == decide (IntKind.i64.wrap (at0 + t503) ≤ end0) then
                              some (Sum.inr ((1, false), r1.snd))
                            else
                              bif decide (t503 ≥ 0) then
                                bif !r1.fst.snd == !decide (IntKind.i64.wrap (at0 + t503) ≤ end0) then
                                  some (Sum.inr ((1, false), r1.snd))
                                else
                                  bif r1.fst.snd then
                                    bif r1.fst.fst != IntKind.i64.wrap (IntKind.i64.wrap (at0 + t503) - end0) then
                                      some (Sum.inr ((1, false), r1.snd))
                                    else some (Sum.inl (r1.snd, IntKind.i64.wrap (t51 + 1)))
                                  else some (Sum.inl (r1.snd, IntKind.i64.wrap (t51 + 1)))
                              else
                                bif !r1.fst.snd == false then some (Sum.inr ((1, false), r1.snd))
                                else
                                  bif r1.fst.snd then
                                    bif r1.fst.fst != IntKind.i64.wrap (IntKind.i64.wrap (at0 + t503) - end0) then
                                      some (Sum.inr ((1, false), r1.snd))
                                    else some (Sum.inl (r1.snd, IntKind.i64.wrap (t51 + 1)))
                                  else some (Sum.inl (r1.snd, IntKind.i64.wrap (t51 + 1)))
                      else
                        (x13 ((c0, c1, c2, c3, c4, c5, c6, c7, c8, c9), t51)).bind fun r1 =>
                          bif decide (r0.fst.snd.snd > 1) then some (Sum.inr ((1, false), r1.snd))
                          else
                            bif !(r0.fst.snd.snd == 1) == false then some (Sum.inr ((1, false), r1.snd))
                            else
                              bif decide (t503 ≥ 0) then
                                bif !r1.fst.snd == true then some (Sum.inr ((1, false), r1.snd))
                                else
                                  bif r1.fst.snd then
                                    bif r1.fst.fst != IntKind.i64.wrap (IntKind.i64.wrap (at0 + t503) - end0) then
                                      some (Sum.inr ((1, false), r1.snd))
                                    else some (Sum.inl (r1.snd, IntKind.i64.wrap (t51 + 1)))
                                  else some (Sum.inl (r1.snd, IntKind.i64.wrap (t51 + 1)))
                              else
                                bif !r1.fst.snd == false then some (Sum.inr ((1, false), r1.snd))
                                else
                                  bif r1.fst.snd then
                                    bif r1.fst.fst != IntKind.i64.wrap (IntKind.i64.wrap (at0 + t503) - end0) then
                                      some (Sum.inr ((1, false), r1.snd))
                                    else some (Sum.inl (r1.snd, IntKind.i64.wrap (t51 + 1)))
                                  else some (Sum.inl (r1.snd, IntKind.i64.wrap (t51 + 1)))
                    else
                      bif decide (r0.fst.fst = 1) then
                        some (Sum.inr ((1, r0.fst.snd.fst), c0, c1, c2, c3, c4, c5, c6, c7, c8, c9))
                      else none
                else none
              else none
      else none
    else some (Sum.inr ((0, false), c0, c1, c2, c3, c4, c5, c6, c7, c8, c9))
theorem r3e (x9 : F9.FT) (x10 : F10.FT) (x13 : F13.FT) (l2 : G2) (kd : Int × Int × (List (Int × Bool × Int)) × (Int × Int × Int × Int)) (d : (Int × Bool × Int × Bool × Int × Bool × Int × Bool × Int × Bool) × Int) : roundF (tabC Try.prog (tab x9 x10 x13) (pls x9 x10 x13) 100 10) 100 (.node .none (.node .none (.node (.node (.node .none (.node .none (.node (.node .none (.node (.unit (u2 l2)) .none)) .none))) .none) .none))) (u3 fun _ _ => none) (codeAt [1, 1, 1, 1, 1, 1, 1, 0, 1, 0, 0] (bodyOf Try.prog 4)) kd d = r3P x9 x10 x13 l2 kd d := by kernel_rfl
noncomputable def r3 : (Int × Int × (List (Int × Bool × Int)) × (Int × Int × Int × Int)) → ((Int × Bool × Int × Bool × Int × Bool × Int × Bool × Int × Bool) × Int) → Option (((Int × Bool × Int × Bool × Int × Bool × Int × Bool × Int × Bool) × Int) ⊕ ((Int × Bool) × ((Int × Bool × Int × Bool × Int × Bool × Int × Bool × Int × Bool)))) := r3P F9.f F10.f F13.f l2
noncomputable def l3 : G3 := fun kd d => iterO (r3 kd) d
theorem ok3 : UnOk Try.prog (u3 l3) (codeAt [1, 1, 1, 1, 1, 1, 1, 0, 1, 0] (bodyOf Try.prog 4)) :=
  loopT (p := (.node .none (.node .none (.node (.node (.node .none (.node .none (.node (.node .none (.node (.unit (u2 l2)) .none)) .none))) .none) .none)))) (c := codeAt [1, 1, 1, 1, 1, 1, 1, 0, 1, 0, 0] (bodyOf Try.prog 4)) (fuel := 100) (depth := 10) mixed tabS plsP (by kernel_rfl) (planOk_of (.node .none (.node .none (.node (.node (.node .none (.node .none (.node (.node .none (.node (.unit (u2 l2)) .none)) .none))) .none) .none))) _ [([1, 1, 0, 0, 1, 1, 0, 1, 0], u2 l2)] rfl ⟨ok2, trivial⟩) (by kernel_rfl) (fun kd d => r3e F9.f F10.f F13.f l2 kd d) rfl
def r4P (x9 : F9.FT) (x10 : F10.FT) (x13 : F13.FT) : ((List (Int × Bool × Int))) → Int → Option (Int ⊕ ((Int × Bool) × Unit)) := fun got k =>
    bif decide (k < (↑got.length : Int)) then
      bif decide (0 ≤ IntKind.i64.wrap (k - 1) ∧ IntKind.i64.wrap (k - 1) < (↑got.length : Int) ∧ 0 < got.length) then
        bif decide (0 + (IntKind.i64.wrap (k - 1)).toNat < got.length) then
          bif decide (0 ≤ k ∧ k < (↑got.length : Int) ∧ 0 < got.length) then
            bif decide (0 + k.toNat < got.length) then
              bif
                  decide
                    ((got.getD (0 + (IntKind.i64.wrap (k - 1)).toNat) (0, false, 0)).snd.snd >
                      (got.getD (0 + k.toNat) (0, false, 0)).snd.snd) then
                some (Sum.inr ((1, false), PUnit.unit))
              else
                bif
                    (got.getD (0 + (IntKind.i64.wrap (k - 1)).toNat) (0, false, 0)).snd.snd ==
                      (got.getD (0 + k.toNat) (0, false, 0)).snd.snd then
                  bif
                      decide
                        ((got.getD (0 + (IntKind.i64.wrap (k - 1)).toNat) (0, false, 0)).fst ≥
                          (got.getD (0 + k.toNat) (0, false, 0)).fst) then
                    some (Sum.inr ((1, false), PUnit.unit))
                  else some (Sum.inl (IntKind.i64.wrap (k + 1)))
                else some (Sum.inl (IntKind.i64.wrap (k + 1)))
            else none
          else none
        else none
      else none
    else some (Sum.inr ((0, false), PUnit.unit))
theorem r4e (x9 : F9.FT) (x10 : F10.FT) (x13 : F13.FT) (kd : (List (Int × Bool × Int))) (d : Int) : roundF (tabC Try.prog (tab x9 x10 x13) (pls x9 x10 x13) 100 10) 100 .none (u4 fun _ _ => none) (codeAt [1, 1, 1, 1, 1, 1, 1, 1, 0, 1, 0, 0] (bodyOf Try.prog 4)) kd d = r4P x9 x10 x13 kd d := by kernel_rfl
noncomputable def r4 : ((List (Int × Bool × Int))) → Int → Option (Int ⊕ ((Int × Bool) × Unit)) := r4P F9.f F10.f F13.f
noncomputable def l4 : G4 := fun kd d => iterO (r4 kd) d
theorem ok4 : UnOk Try.prog (u4 l4) (codeAt [1, 1, 1, 1, 1, 1, 1, 1, 0, 1, 0] (bodyOf Try.prog 4)) :=
  loopT (p := .none) (c := codeAt [1, 1, 1, 1, 1, 1, 1, 1, 0, 1, 0, 0] (bodyOf Try.prog 4)) (fuel := 100) (depth := 10) mixed tabS plsP (by kernel_rfl) trivial (by kernel_rfl) (fun kd d => r4e F9.f F10.f F13.f kd d) rfl
def fP (x9 : F9.FT) (x10 : F10.FT) (x13 : F13.FT) (l1 : G1) (l3 : G3) (l4 : G4) : FT := fun (now, (l0, l1_2, l2_2, l3_2), until0) =>
    (l1 PUnit.unit ((l0, l1_2, l2_2, l3_2), 0)).bind fun r0 =>
      (x9 (IntKind.i64.wrap (now.tmod 1048576), r0.snd.fst, r0.snd.snd.fst, r0.snd.snd.snd.fst, r0.snd.snd.snd.snd)).bind
        fun r1 =>
        bif Option.isSome r1.fst then
          (x10
                (Option.getD r1.fst (0, false, 0, false, 0, false, 0, false, 0, false),
                  IntKind.i64.wrap (until0.tmod 2097152))).bind
            fun r2 =>
            bif decide (0 + List.length r2.fst ≤ List.length r2.fst) && true then
              (l3
                    (IntKind.i64.wrap (now.tmod 1048576),
                      if IntKind.i64.wrap (now.tmod 1048576) > IntKind.i64.wrap (until0.tmod 2097152) then
                        IntKind.i64.wrap (now.tmod 1048576)
                      else IntKind.i64.wrap (until0.tmod 2097152),
                      List.take (List.length r2.fst) (List.drop 0 r2.fst), r0.snd.fst, r0.snd.snd.fst, r0.snd.snd.snd.fst,
                      r0.snd.snd.snd.snd)
                    (r2.snd, 0)).bind
                fun r3 =>
                bif decide (r3.fst.fst = 0) then
                  bif decide (0 + List.length r2.fst ≤ List.length r2.fst) && true then
                    (l4 (List.take (List.length r2.fst) (List.drop 0 r2.fst)) (OfNat.ofNat 1)).bind fun r4 =>
                      bif decide (r4.fst.fst = 0) then
                        bif !r3.snd.snd.snd.snd.snd.snd.snd.snd.snd.snd then
                          bif
                              0 ==
                                if IntKind.i64.wrap (now.tmod 1048576) > IntKind.i64.wrap (until0.tmod 2097152) then
                                  IntKind.i64.wrap (now.tmod 1048576)
                                else IntKind.i64.wrap (until0.tmod 2097152) then
                            some (true, PUnit.unit)
                          else some (false, PUnit.unit)
                        else
                          bif
                              r3.snd.fst ==
                                if IntKind.i64.wrap (now.tmod 1048576) > IntKind.i64.wrap (until0.tmod 2097152) then
                                  IntKind.i64.wrap (now.tmod 1048576)
                                else IntKind.i64.wrap (until0.tmod 2097152) then
                            some (true, PUnit.unit)
                          else some (false, PUnit.unit)
                      else bif decide (r4.fst.fst = 1) then some (r4.fst.snd, PUnit.unit) else none
                  else none
                else bif decide (r3.fst.fst = 1) then some (r3.fst.snd, PUnit.unit) else none
            else none
        else some (false, PUnit.unit)
theorem fe (x9 : F9.FT) (x10 : F10.FT) (x13 : F13.FT) (l1 : G1) (l3 : G3) (l4 : G4) (d : Int × (Int × Int × Int × Int) × Int) : bodyF (tabC Try.prog (tab x9 x10 x13) ((4, (.node .none (.node .none (.node (.node .none (.node (.unit (u1 l1)) .none)) (.node .none (.node .none (.node .none (.node .none (.node (.node .none (.node (.unit (u3 l3)) .none)) (.node (.node .none (.node (.unit (u4 l4)) .none)) .none)))))))))) :: pls x9 x10 x13) 100 10) 100 4 i o d = fP x9 x10 x13 l1 l3 l4 d := by kernel_rfl
noncomputable def f : FT := fP F9.f F10.f F13.f l1 l3 l4
def plan (l1 : G1) (l3 : G3) (l4 : G4) : Plan := (.node .none (.node .none (.node (.node .none (.node (.unit (u1 l1)) .none)) (.node .none (.node .none (.node .none (.node .none (.node (.node .none (.node (.unit (u3 l3)) .none)) (.node (.node .none (.node (.unit (u4 l4)) .none)) .none)))))))))
theorem planOk : PlanOk Try.prog (plan l1 l3 l4) (bodyOf Try.prog 4) := (planOk_of (plan l1 l3 l4) _ [([1, 1, 0, 1, 0], u1 l1), ([1, 1, 1, 1, 1, 1, 1, 0, 1, 0], u3 l3), ([1, 1, 1, 1, 1, 1, 1, 1, 0, 1, 0], u4 l4)] rfl ⟨ok1, ok3, ok4, trivial⟩)
theorem meets : MeetsF Try.prog 4 ⟨i, o, f⟩ :=
  funcT (fuel := 100) (depth := 10) (pl := (4, plan l1 l3 l4) :: pls F9.f F10.f F13.f) mixed tabS ⟨planOk, plsP⟩ (fun d => fe F9.f F10.f F13.f l1 l3 l4 d)
theorem spec : SpecOk Try.prog (fun _ => none) 4 (specF ⟨i, o, f⟩) := specF_ok (by kernel_rfl) meets
end Go.Proofs.Ytemggodhikpmdaa.F4
