/- What comes of function 3 of this program, consulate.consulatelaw13.ClockParts, as the engine gives it. -/
import Derived.Test.YtemggodhikpmdaaChecked
import Derived.Test.YtemggodhikpmdaaZM
import Derived.Test.YtemggodhikpmdaaF9
import Derived.Test.YtemggodhikpmdaaF10
import Derived.Test.YtemggodhikpmdaaKA
namespace Go.Proofs.Ytemggodhikpmdaa.F3
open Go Go.Proofs Go.RowKit Go.Proofs.Ytemggodhikpmdaa.Sx
set_option linter.unusedVariables false
set_option maxRecDepth 100000
def tab (x9 : F9.FT) (x10 : F10.FT) : List (FuncId × Sx.Spec) := [(9, specF ⟨F9.i, F9.o, x9⟩), (10, specF ⟨F10.i, F10.o, x10⟩), (12, pureS saysS)]
def pls (x9 : F9.FT) (x10 : F10.FT) : List (FuncId × Plan) := []
@[reducible] def k1 : Sh := .nil
@[reducible] def i1 : Sh := .pt true 23 (.sc (.int .i64) (.sc (.int .i64) (.sc (.int .i64) (.sc (.int .i64) .nil)))) (.sc (.int .i64) .nil)
@[reducible] def o1 : Sh := .nil
abbrev G1 := Unit → ((Int × Int × Int × Int) × Int) → Option (Unit × ((Int × Int × Int × Int)))
def u1 (F : G1) : Un := ⟨93, [], k1, [4, 19], i1, [], o1, [4, 5, 7], [(.exit 0, [])], F⟩
@[reducible] def k2 : Sh := .sl true 31 (.sc (.int .i64) (.sc .bool (.sc (.int .i64) .nil))) (.sl true 31 (.sc (.int .i64) (.sc .bool (.sc (.int .i64) .nil))) (.sc (.int .i64) .nil))
@[reducible] def i2 : Sh := .sc (.int .i64) .nil
@[reducible] def o2 : Sh := .sc (.int .i64) (.sc .bool .nil)
abbrev G2 := ((List (Int × Bool × Int)) × (List (Int × Bool × Int)) × Int) → Int → Option ((Int × Bool) × Unit)
def u2 (F : G2) : Un := ⟨93, [13, 14, 78], k2, [79], i2, [6], o2, [13, 14, 78], [(.exit 2, [false]), (.ret, [true])], F⟩
@[reducible] def i : Sh := .sc (.int .u32) (.ag (.sc (.int .i64) (.sc (.int .i64) (.sc (.int .i64) (.sc (.int .i64) .nil)))) (.ag (.sc (.int .u32) (.sc (.int .u32) .nil)) .nil))
@[reducible] def o : Sh := .sc .bool .nil
abbrev FT := (Int × (Int × Int × Int × Int) × (Int × Int)) → Option (Bool × Unit)
theorem tabS : AllS Try.prog (tab F9.f F10.f) := ⟨F9.spec, F10.spec, says_ok (by kernel_rfl) KA.tells, trivial⟩
theorem plsP : AllP Try.prog (pls F9.f F10.f) := trivial
theorem mixed : Try.prog.follows .mixedOrders = true := by kernel_rfl
def r1P (x9 : F9.FT) (x10 : F10.FT) : Unit → ((Int × Int × Int × Int) × Int) → Option (((Int × Int × Int × Int) × Int) ⊕ (Unit × ((Int × Int × Int × Int)))) := fun () ((l0, l1_2, l2_2, l3_2), t19) =>
    bif decide (t19 < 4) then
      bif decide (0 ≤ t19 ∧ t19 < 4) then
        bif t19.toNat.beq 0 then
          bif decide (0 ≤ t19 ∧ t19 < 4) then
            bif t19.toNat.beq 0 then
              some (Sum.inl ((if 1048576 < l0 then 1048576 else l0, l1_2, l2_2, l3_2), IntKind.i64.wrap (t19 + 1)))
            else
              bif t19.toNat.beq 1 then
                some (Sum.inl ((l0, if 1048576 < l0 then 1048576 else l0, l2_2, l3_2), IntKind.i64.wrap (t19 + 1)))
              else
                bif t19.toNat.beq 2 then
                  some (Sum.inl ((l0, l1_2, if 1048576 < l0 then 1048576 else l0, l3_2), IntKind.i64.wrap (t19 + 1)))
                else
                  bif t19.toNat.beq 3 then
                    some (Sum.inl ((l0, l1_2, l2_2, if 1048576 < l0 then 1048576 else l0), IntKind.i64.wrap (t19 + 1)))
                  else none
          else none
        else
          bif t19.toNat.beq 1 then
            bif decide (0 ≤ t19 ∧ t19 < 4) then
              bif t19.toNat.beq 0 then
                some (Sum.inl ((if 1048576 < l1_2 then 1048576 else l1_2, l1_2, l2_2, l3_2), IntKind.i64.wrap (t19 + 1)))
              else
                bif t19.toNat.beq 1 then
                  some (Sum.inl ((l0, if 1048576 < l1_2 then 1048576 else l1_2, l2_2, l3_2), IntKind.i64.wrap (t19 + 1)))
                else
                  bif t19.toNat.beq 2 then
                    some
                      (Sum.inl ((l0, l1_2, if 1048576 < l1_2 then 1048576 else l1_2, l3_2), IntKind.i64.wrap (t19 + 1)))
                  else
                    bif t19.toNat.beq 3 then
                      some
                        (Sum.inl ((l0, l1_2, l2_2, if 1048576 < l1_2 then 1048576 else l1_2), IntKind.i64.wrap (t19 + 1)))
                    else none
            else none
          else
            bif t19.toNat.beq 2 then
              bif decide (0 ≤ t19 ∧ t19 < 4) then
                bif t19.toNat.beq 0 then
                  some
                    (Sum.inl ((if 1048576 < l2_2 then 1048576 else l2_2, l1_2, l2_2, l3_2), IntKind.i64.wrap (t19 + 1)))
                else
                  bif t19.toNat.beq 1 then
                    some
                      (Sum.inl ((l0, if 1048576 < l2_2 then 1048576 else l2_2, l2_2, l3_2), IntKind.i64.wrap (t19 + 1)))
                  else
                    bif t19.toNat.beq 2 then
                      some
                        (Sum.inl ((l0, l1_2, if 1048576 < l2_2 then 1048576 else l2_2, l3_2), IntKind.i64.wrap (t19 + 1)))
                    else
                      bif t19.toNat.beq 3 then
                        some
                          (Sum.inl
                            ((l0, l1_2, l2_2, if 1048576 < l2_2 then 1048576 else l2_2), IntKind.i64.wrap (t19 + 1)))
                      else none
              else none
            else
              bif t19.toNat.beq 3 then
                bif decide (0 ≤ t19 ∧ t19 < 4) then
                  bif t19.toNat.beq 0 then
                    some
                      (Sum.inl ((if 1048576 < l3_2 then 1048576 else l3_2, l1_2, l2_2, l3_2), IntKind.i64.wrap (t19 + 1)))
                  else
                    bif t19.toNat.beq 1 then
                      some
                        (Sum.inl ((l0, if 1048576 < l3_2 then 1048576 else l3_2, l2_2, l3_2), IntKind.i64.wrap (t19 + 1)))
                    else
                      bif t19.toNat.beq 2 then
                        some
                          (Sum.inl
                            ((l0, l1_2, if 1048576 < l3_2 then 1048576 else l3_2, l3_2), IntKind.i64.wrap (t19 + 1)))
                      else
                        bif t19.toNat.beq 3 then
                          some
                            (Sum.inl
                              ((l0, l1_2, l2_2, if 1048576 < l3_2 then 1048576 else l3_2), IntKind.i64.wrap (t19 + 1)))
                        else none
                else none
              else none
      else none
    else some (Sum.inr (PUnit.unit, l0, l1_2, l2_2, l3_2))
theorem r1e (x9 : F9.FT) (x10 : F10.FT) (kd : Unit) (d : (Int × Int × Int × Int) × Int) : roundF (tabC Try.prog (tab x9 x10) (pls x9 x10) 100 10) 100 .none (u1 fun _ _ => none) (codeAt [1, 1, 0, 1, 0, 0] (bodyOf Try.prog 3)) kd d = r1P x9 x10 kd d := by kernel_rfl
noncomputable def r1 : Unit → ((Int × Int × Int × Int) × Int) → Option (((Int × Int × Int × Int) × Int) ⊕ (Unit × ((Int × Int × Int × Int)))) := r1P F9.f F10.f
noncomputable def l1 : G1 := fun kd d => iterO (r1 kd) d
theorem ok1 : UnOk Try.prog (u1 l1) (codeAt [1, 1, 0, 1, 0] (bodyOf Try.prog 3)) :=
  loopT (p := .none) (c := codeAt [1, 1, 0, 1, 0, 0] (bodyOf Try.prog 3)) (fuel := 100) (depth := 10) mixed tabS plsP (by kernel_rfl) trivial (by kernel_rfl) (fun kd d => r1e F9.f F10.f kd d) rfl
def r2P (x9 : F9.FT) (x10 : F10.FT) : ((List (Int × Bool × Int)) × (List (Int × Bool × Int)) × Int) → Int → Option (Int ⊕ ((Int × Bool) × Unit)) := fun (parts, whole, t78) t79 =>
    bif decide (t79 < t78) then
      bif decide (0 ≤ t79 ∧ t79 < (↑parts.length : Int) ∧ 0 < parts.length) then
        bif decide (0 + t79.toNat < parts.length) then
          bif decide (0 ≤ t79 ∧ t79 < (↑whole.length : Int) ∧ 0 < whole.length) then
            bif decide (0 + t79.toNat < whole.length) then
              bif
                  !((parts.getD (0 + t79.toNat) (0, false, 0)).fst == (whole.getD (0 + t79.toNat) (0, false, 0)).fst &&
                      ((parts.getD (0 + t79.toNat) (0, false, 0)).snd.fst ==
                          (whole.getD (0 + t79.toNat) (0, false, 0)).snd.fst &&
                        ((parts.getD (0 + t79.toNat) (0, false, 0)).snd.snd ==
                            (whole.getD (0 + t79.toNat) (0, false, 0)).snd.snd &&
                          true))) then
                some (Sum.inr ((1, false), PUnit.unit))
              else some (Sum.inl (IntKind.i64.wrap (t79 + 1)))
            else none
          else none
        else none
      else none
    else some (Sum.inr ((0, false), PUnit.unit))
theorem r2e (x9 : F9.FT) (x10 : F10.FT) (kd : (List (Int × Bool × Int)) × (List (Int × Bool × Int)) × Int) (d : Int) : roundF (tabC Try.prog (tab x9 x10) (pls x9 x10) 100 10) 100 .none (u2 fun _ _ => none) (codeAt [1, 1, 1, 1, 1, 1, 1, 1, 1, 0, 1, 0, 0] (bodyOf Try.prog 3)) kd d = r2P x9 x10 kd d := by kernel_rfl
noncomputable def r2 : ((List (Int × Bool × Int)) × (List (Int × Bool × Int)) × Int) → Int → Option (Int ⊕ ((Int × Bool) × Unit)) := r2P F9.f F10.f
noncomputable def l2 : G2 := fun kd d => iterO (r2 kd) d
theorem ok2 : UnOk Try.prog (u2 l2) (codeAt [1, 1, 1, 1, 1, 1, 1, 1, 1, 0, 1, 0] (bodyOf Try.prog 3)) :=
  loopT (p := .none) (c := codeAt [1, 1, 1, 1, 1, 1, 1, 1, 1, 0, 1, 0, 0] (bodyOf Try.prog 3)) (fuel := 100) (depth := 10) mixed tabS plsP (by kernel_rfl) trivial (by kernel_rfl) (fun kd d => r2e F9.f F10.f kd d) rfl
def fP (x9 : F9.FT) (x10 : F10.FT) (l1 : G1) (l2 : G2) : FT := fun (now, (l0, l1_2, l2_2, l3_2), (until00, until01)) =>
    (l1 PUnit.unit ((l0, l1_2, l2_2, l3_2), 0)).bind fun r0 =>
      (x9 (IntKind.i64.wrap (now.tmod 1048576), r0.snd.fst, r0.snd.snd.fst, r0.snd.snd.snd.fst, r0.snd.snd.snd.snd)).bind
        fun r1 =>
        bif Option.isSome r1.fst then
          (x9
                (IntKind.i64.wrap (now.tmod 1048576), r0.snd.fst, r0.snd.snd.fst, r0.snd.snd.snd.fst,
                  r0.snd.snd.snd.snd)).bind
            fun r2 =>
            bif Option.isSome r2.fst then
              (x10
                    (Option.getD r1.fst (0, false, 0, false, 0, false, 0, false, 0, false),
                      if IntKind.i64.wrap (until01.tmod 2097152) < IntKind.i64.wrap (until00.tmod 2097152) then
                        IntKind.i64.wrap (until01.tmod 2097152)
                      else IntKind.i64.wrap (until00.tmod 2097152))).bind
                fun r3 =>
                (x10
                      (r3.snd,
                        if IntKind.i64.wrap (until01.tmod 2097152) > IntKind.i64.wrap (until00.tmod 2097152) then
                          IntKind.i64.wrap (until01.tmod 2097152)
                        else IntKind.i64.wrap (until00.tmod 2097152))).bind
                  fun r4 =>
                  bif decide (0 + List.length r4.fst ≤ List.length r4.fst) then
                    bif
                        decide
                          (List.length r3.fst + (List.take (List.length r4.fst) (List.drop 0 r4.fst)).length ≤
                            1073741824) then
                      bif decide (0 + List.length r3.fst ≤ List.length r3.fst) then
                        (x10
                              (Option.getD r2.fst (0, false, 0, false, 0, false, 0, false, 0, false),
                                if IntKind.i64.wrap (until01.tmod 2097152) > IntKind.i64.wrap (until00.tmod 2097152) then
                                  IntKind.i64.wrap (until01.tmod 2097152)
                                else IntKind.i64.wrap (until00.tmod 2097152))).bind
                          fun r5 =>
                          bif
                              (↑(List.length r3.fst + (List.take (List.length r4.fst) (List.drop 0 r4.fst)).length) :
                                  Int) !=
                                (↑(List.length r5.fst) : Int) then
                            some (false, PUnit.unit)
                          else
                            bif !r4.snd.snd.snd.snd.snd.snd.snd.snd.snd.snd then
                              bif !r5.snd.snd.snd.snd.snd.snd.snd.snd.snd.snd then
                                bif
                                    decide
                                        (0 +
                                            (List.length r3.fst +
                                              (List.take (List.length r4.fst) (List.drop 0 r4.fst)).length) ≤
                                          (List.take (List.length r3.fst) (List.drop 0 r3.fst) ++
                                              List.take (List.length r4.fst) (List.drop 0 r4.fst)).length) &&
                                      true then
                                  bif decide (0 + List.length r5.fst ≤ List.length r5.fst) && true then
                                    (l2
                                          (List.take
                                              (List.length r3.fst +
                                                (List.take (List.length r4.fst) (List.drop 0 r4.fst)).length)
                                              (List.drop 0
                                                (List.take (List.length r3.fst) (List.drop 0 r3.fst) ++
                                                  List.take (List.length r4.fst) (List.drop 0 r4.fst))),
                                            List.take (List.length r5.fst) (List.drop 0 r5.fst),
                                            (↑(List.length r5.fst) : Int))
                                          (OfNat.ofNat 0)).bind
                                      fun r6 =>
                                      bif decide (r6.fst.fst = 0) then some (true, PUnit.unit)
                                      else bif decide (r6.fst.fst = 1) then some (r6.fst.snd, PUnit.unit) else none
                                  else none
                                else none
                              else
                                bif 0 != r5.snd.fst then some (false, PUnit.unit)
                                else
                                  bif
                                      decide
                                          (0 +
                                              (List.length r3.fst +
                                                (List.take (List.length r4.fst) (List.drop 0 r4.fst)).length) ≤
                                            (List.take (List.length r3.fst) (List.drop 0 r3.fst) ++
                                                List.take (List.length r4.fst) (List.drop 0 r4.fst)).length) &&
                                        true then
                                    bif decide (0 + List.length r5.fst ≤ List.length r5.fst) && true then
                                      (l2
                                            (List.take
                                                (List.length r3.fst +
                                                  (List.take (List.length r4.fst) (List.drop 0 r4.fst)).length)
                                                (List.drop 0
                                                  (List.take (List.length r3.fst) (List.drop 0 r3.fst) ++
                                                    List.take (List.length r4.fst) (List.drop 0 r4.fst))),
                                              List.take (List.length r5.fst) (List.drop 0 r5.fst),
                                              (↑(List.length r5.fst) : Int))
                                            (OfNat.ofNat 0)).bind
                                        fun r6 =>
                                        bif decide (r6.fst.fst = 0) then some (true, PUnit.unit)
                                        else bif decide (r6.fst.fst = 1) then some (r6.fst.snd, PUnit.unit) else none
                                    else none
                                  else none
                            else
                              bif !r5.snd.snd.snd.snd.snd.snd.snd.snd.snd.snd then
                                bif r4.snd.fst != 0 then some (false, PUnit.unit)
                                else
                                  bif
                                      decide
                                          (0 +
                                              (List.length r3.fst +
                                                (List.take (List.length r4.fst) (List.drop 0 r4.fst)).length) ≤
                                            (List.take (List.length r3.fst) (List.drop 0 r3.fst) ++
                                                List.take (List.length r4.fst) (List.drop 0 r4.fst)).length) &&
                                        true then
                                    bif decide (0 + List.length r5.fst ≤ List.length r5.fst) && true then
                                      (l2
                                            (List.take
                                                (List.length r3.fst +
                                                  (List.take (List.length r4.fst) (List.drop 0 r4.fst)).length)
                                                (List.drop 0
                                                  (List.take (List.length r3.fst) (List.drop 0 r3.fst) ++
                                                    List.take (List.length r4.fst) (List.drop 0 r4.fst))),
                                              List.take (List.length r5.fst) (List.drop 0 r5.fst),
                                              (↑(List.length r5.fst) : Int))
                                            (OfNat.ofNat 0)).bind
                                        fun r6 =>
                                        bif decide (r6.fst.fst = 0) then some (true, PUnit.unit)
                                        else bif decide (r6.fst.fst = 1) then some (r6.fst.snd, PUnit.unit) else none
                                    else none
                                  else none
                              else
                                bif r4.snd.fst != r5.snd.fst then some (false, PUnit.unit)
                                else
                                  bif
                                      decide
                                          (0 +
                                              (List.length r3.fst +
                                                (List.take (List.length r4.fst) (List.drop 0 r4.fst)).length) ≤
                                            (List.take (List.length r3.fst) (List.drop 0 r3.fst) ++
                                                List.take (List.length r4.fst) (List.drop 0 r4.fst)).length) &&
                                        true then
                                    bif decide (0 + List.length r5.fst ≤ List.length r5.fst) && true then
                                      (l2
                                            (List.take
                                                (List.length r3.fst +
                                                  (List.take (List.length r4.fst) (List.drop 0 r4.fst)).length)
                                                (List.drop 0
                                                  (List.take (List.length r3.fst) (List.drop 0 r3.fst) ++
                                                    List.take (List.length r4.fst) (List.drop 0 r4.fst))),
                                              List.take (List.length r5.fst) (List.drop 0 r5.fst),
                                              (↑(List.length r5.fst) : Int))
                                            (OfNat.ofNat 0)).bind
                                        fun r6 =>
                                        bif decide (r6.fst.fst = 0) then some (true, PUnit.unit)
                                        else bif decide (r6.fst.fst = 1) then some (r6.fst.snd, PUnit.unit) else none
                                    else none
                                  else none
                      else none
                    else none
                  else none
            else some (false, PUnit.unit)
        else
          (x9
                (IntKind.i64.wrap (now.tmod 1048576), r0.snd.fst, r0.snd.snd.fst, r0.snd.snd.snd.fst,
                  r0.snd.snd.snd.snd)).bind
            fun r2 => bif Option.isSome r2.fst then some (false, PUnit.unit) else some (false, PUnit.unit)
theorem fe (x9 : F9.FT) (x10 : F10.FT) (l1 : G1) (l2 : G2) (d : Int × (Int × Int × Int × Int) × (Int × Int)) : bodyF (tabC Try.prog (tab x9 x10) ((3, (.node .none (.node .none (.node (.node .none (.node (.unit (u1 l1)) .none)) (.node .none (.node .none (.node .none (.node .none (.node .none (.node .none (.node (.node .none (.node (.unit (u2 l2)) .none)) .none))))))))))) :: pls x9 x10) 100 10) 100 3 i o d = fP x9 x10 l1 l2 d := by kernel_rfl
noncomputable def f : FT := fP F9.f F10.f l1 l2
def plan (l1 : G1) (l2 : G2) : Plan := (.node .none (.node .none (.node (.node .none (.node (.unit (u1 l1)) .none)) (.node .none (.node .none (.node .none (.node .none (.node .none (.node .none (.node (.node .none (.node (.unit (u2 l2)) .none)) .none))))))))))
theorem planOk : PlanOk Try.prog (plan l1 l2) (bodyOf Try.prog 3) := (planOk_of (plan l1 l2) _ [([1, 1, 0, 1, 0], u1 l1), ([1, 1, 1, 1, 1, 1, 1, 1, 1, 0, 1, 0], u2 l2)] rfl ⟨ok1, ok2, trivial⟩)
theorem meets : MeetsF Try.prog 3 ⟨i, o, f⟩ :=
  funcT (fuel := 100) (depth := 10) (pl := (3, plan l1 l2) :: pls F9.f F10.f) mixed tabS ⟨planOk, plsP⟩ (fun d => fe F9.f F10.f l1 l2 d)
theorem spec : SpecOk Try.prog (fun _ => none) 3 (specF ⟨i, o, f⟩) := specF_ok (by kernel_rfl) meets
end Go.Proofs.Ytemggodhikpmdaa.F3
