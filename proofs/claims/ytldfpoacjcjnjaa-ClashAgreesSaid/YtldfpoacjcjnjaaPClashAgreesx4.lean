-- PRINTED BY print.sh 35421559b90ae4d0a3588c463048766b98c2df88dd9212a6774a882060cdf62d: not written by this session
import Derived.Test.YtldfpoacjcjnjaaPClashAgreesx0
import Derived.Test.YtldfpoacjcjnjaaPClashAgreesx1
import Derived.Test.YtldfpoacjcjnjaaPClashAgreesx2
import Derived.Test.YtldfpoacjcjnjaaPClashAgreesx3
namespace Go.Proofs.Ytldfpoacjcjnjaa.PClashAgrees
open Go.RowKit Go.Proofs.YtldfpoacjcjnjaaW.PrintWords Go.Proofs.YtldfpoacjcjnjaaW.PrintLast Go.Proofs.YtldfpoacjcjnjaaW.PrintMore
attribute [local go_sem] max2_int min2_int max_two min_two max_three min_three max_four min_four   -- for this text's walks alone
set_option linter.unusedVariables false
set_option linter.unusedSimpArgs false

attribute [local go_sem high] eqA26
/-! ### consulatelaw16_ClashAgrees: function 4 -/
def consulatelaw16_ClashAgrees.j0 : Nat → Bool → Int → Int → Int → Int → Int → Int → Int → Option (Bool)
  | 0, _, _, _, _, _, _, _, _ => none
  | k + 1, x2, x4, x12, x14, x130000, x130001, x131000, x131001 => if x2 = true then (if x12 = x14 then ((consulatelaw16_stays.f k x130000 x130001 x131000 x131001 x2 6).bind fun t135 => (if t135 = 1 then ((consulatelaw16_stays.f k x130000 x130001 x131000 x131001 x2 (wrap64 (1 + (wrap64 (Int.tmod x4 3))))).bind fun t136 => (if t136 = 0 then (if ((x14 == 3) == (x130000 == x131000 && (x130001 == x131001))) = true then ((consulatelaw16_tells.f k).bind fun t137 => (some t137)) else (some false)) else (some false))) else (some false))) else (some false)) else (if x12 = x14 then ((consulatelaw16_stays.f k x130000 x130001 x131000 x131001 x2 6).bind fun t138 => (if t138 = 2 then ((consulatelaw16_stays.f k x130000 x130001 x131000 x131001 x2 (wrap64 (1 + (wrap64 (Int.tmod x4 3))))).bind fun t139 => (if t139 = 0 then (if ((x14 == 3) == (x130000 == x131000 && (x130001 == x131001))) = true then ((consulatelaw16_tells.f k).bind fun t140 => (some t140)) else (some false)) else (some false))) else (some false))) else (some false))
def consulatelaw16_ClashAgrees.f (k : Nat) (a0_0 : Int) (a0_1 : Int) (a1_0 : Int) (a1_1 : Int) (a2 : Bool) (a3 : Bool) (a4 : Int) : Option (Bool) := (consulatelaw16_stays.f k a0_0 a0_1 a1_0 a1_1 a2 (wrap64 (4 + (wrap64 (Int.tmod a4 2))))).bind fun t131 => ((consulatelaw16_stays.f k a1_0 a1_1 a0_0 a0_1 a3 (wrap64 (4 + (wrap64 (Int.tmod a4 2))))).bind fun t132 => ((consulatelaw16_turned.f t132).bind fun t133 => (if t131 = t133 then ((clash_Compare.f k a0_0 a0_1 a1_0 a1_1).bind fun t134 => (if t134 > 0 then (consulatelaw16_ClashAgrees.j0 k a2 a4 t131 1 a0_0 a0_1 a1_0 a1_1) else (if t134 < 0 then (consulatelaw16_ClashAgrees.j0 k a2 a4 t131 2 a0_0 a0_1 a1_0 a1_1) else (consulatelaw16_ClashAgrees.j0 k a2 a4 t131 3 a0_0 a0_1 a1_0 a1_1)))) else (some false))))
theorem consulatelaw16_ClashAgrees.mono_l : ∀ k, (∀ y0 y1 y2 y3 y4 y5 y6 y7, LeO (consulatelaw16_ClashAgrees.j0 k y0 y1 y2 y3 y4 y5 y6 y7) (consulatelaw16_ClashAgrees.j0 (k + 1) y0 y1 y2 y3 y4 y5 y6 y7))
  | 0 => fun _ _ _ _ _ _ _ _ r h => by simp [consulatelaw16_ClashAgrees.j0] at h
  | k + 1 => by
    have ih0 := consulatelaw16_ClashAgrees.mono_l k
    · intro y0 y1 y2 y3 y4 y5 y6 y7
      unfold consulatelaw16_ClashAgrees.j0
      repeat' first
      | (with_reducible exact ih0 _ _ _ _ _ _ _ _)
      | (with_reducible exact clash_Compare.mono _ _ _ _ _)
      | (with_reducible exact consulatelaw16_stays.mono _ _ _ _ _ _ _)
      | (with_reducible exact consulatelaw16_tells.mono _)
      | (with_reducible exact LeO.refl _)
      | (with_reducible exact LeO.none _)
      | (with_reducible refine LeO.ite ?_ ?_)
      | (with_reducible refine LeO.bind ?_ (fun _ => ?_))
      | exact ih0 _ _ _ _ _ _ _ _
      | exact clash_Compare.mono _ _ _ _ _
      | exact consulatelaw16_stays.mono _ _ _ _ _ _ _
      | exact consulatelaw16_tells.mono _
      | exact LeO.none _
      | refine LeO.ite ?_ ?_
      | refine LeO.bind ?_ (fun _ => ?_)
theorem consulatelaw16_ClashAgrees.mono : ∀ a0 a1 a2 a3 a4 a5 a6 k, LeO (consulatelaw16_ClashAgrees.f k a0 a1 a2 a3 a4 a5 a6) (consulatelaw16_ClashAgrees.f (k + 1) a0 a1 a2 a3 a4 a5 a6) := by
  intro a0 a1 a2 a3 a4 a5 a6 k
  have ih0 := consulatelaw16_ClashAgrees.mono_l k
  unfold consulatelaw16_ClashAgrees.f
  repeat' first
      | (with_reducible exact ih0 _ _ _ _ _ _ _ _)
      | (with_reducible exact clash_Compare.mono _ _ _ _ _)
      | (with_reducible exact consulatelaw16_stays.mono _ _ _ _ _ _ _)
      | (with_reducible exact consulatelaw16_tells.mono _)
      | (with_reducible exact LeO.refl _)
      | (with_reducible exact LeO.none _)
      | (with_reducible refine LeO.ite ?_ ?_)
      | (with_reducible refine LeO.bind ?_ (fun _ => ?_))
      | exact ih0 _ _ _ _ _ _ _ _
      | exact clash_Compare.mono _ _ _ _ _
      | exact consulatelaw16_stays.mono _ _ _ _ _ _ _
      | exact consulatelaw16_tells.mono _
      | exact LeO.none _
      | refine LeO.ite ?_ ?_
      | refine LeO.bind ?_ (fun _ => ?_)
def consulatelaw16_ClashAgrees.T2 : Bool × List (List Nat × List Nat) := (true, [([], []), ([], []), ([], []), ([], []), ([0, 1, 2, 3], [0, 1, 2, 3]), ([], []), ([], []), ([], []), ([], []), ([5, 6, 7, 8, 4], [5, 6, 7, 8]), ([4, 9, 0, 1, 2, 3, 4], [4]), ([9, 10, 0, 1, 2, 3, 4, 5, 6, 7, 8, 9, 10], [9])])
def consulatelaw16_ClashAgrees.B2 : List Nat := [0, 0, 0, 0, 15, 0, 0, 0, 0, 511, 1023, 2047]
theorem consulatelaw16_ClashAgrees.tab2 : rtab .any (opsOf Try.f4 2) = consulatelaw16_ClashAgrees.T2 := by kernel_rfl
theorem consulatelaw16_ClashAgrees.bits2 : waitsOk consulatelaw16_ClashAgrees.T2.2 consulatelaw16_ClashAgrees.B2 = true := by kernel_rfl
set_option maxHeartbeats 8000000 in
set_option maxRecDepth 100000 in
theorem consulatelaw16_ClashAgrees.calls (k : Nat) (a0_0 : Int) (a0_1 : Int) (a1_0 : Int) (a1_1 : Int) (a2 : Bool) (a3 : Bool) (a4 : Int) (r : Bool) (w : World) (h : consulatelaw16_ClashAgrees.f k a0_0 a0_1 a1_0 a1_1 a2 a3 a4 = some r) :
    Calls Try.prog 4 #[.agg #[.int .u32 a0_0, .int .u32 a0_1], .agg #[.int .u32 a1_0, .int .u32 a1_1], .bool a2, .bool a3, .int .u8 a4] w fun e w' => e = .returned (.bool r) ∧ Below w.heap.size w w' := by
  have hu26 := Try.underlying26
  have HB := Aside0.mk (Below.refl w.heap.size w)
  have H : ((consulatelaw16_stays.f k a0_0 a0_1 a1_0 a1_1 a2 (wrap64 (4 + (wrap64 (Int.tmod a4 2))))).bind fun t131 => ((consulatelaw16_stays.f k a1_0 a1_1 a0_0 a0_1 a3 (wrap64 (4 + (wrap64 (Int.tmod a4 2))))).bind fun t132 => ((consulatelaw16_turned.f t132).bind fun t133 => (if t131 = t133 then ((clash_Compare.f k a0_0 a0_1 a1_0 a1_1).bind fun t134 => (if t134 > 0 then (consulatelaw16_ClashAgrees.j0 k a2 a4 t131 1 a0_0 a0_1 a1_0 a1_1) else (if t134 < 0 then (consulatelaw16_ClashAgrees.j0 k a2 a4 t131 2 a0_0 a0_1 a1_0 a1_1) else (consulatelaw16_ClashAgrees.j0 k a2 a4 t131 3 a0_0 a0_1 a1_0 a1_1)))) else (some false))))) = some r := h
  clear h
  replace H := Option.bind_eq_some_iff.mp H
  obtain ⟨t131, A60, H⟩ := H
  replace H : ((consulatelaw16_stays.f k a1_0 a1_1 a0_0 a0_1 a3 (wrap64 (4 + (wrap64 (Int.tmod a4 2))))).bind fun t132 => ((consulatelaw16_turned.f t132).bind fun t133 => (if t131 = t133 then ((clash_Compare.f k a0_0 a0_1 a1_0 a1_1).bind fun t134 => (if t134 > 0 then (consulatelaw16_ClashAgrees.j0 k a2 a4 t131 1 a0_0 a0_1 a1_0 a1_1) else (if t134 < 0 then (consulatelaw16_ClashAgrees.j0 k a2 a4 t131 2 a0_0 a0_1 a1_0 a1_1) else (consulatelaw16_ClashAgrees.j0 k a2 a4 t131 3 a0_0 a0_1 a1_0 a1_1)))) else (some false)))) = some r := H
  have A6 := Aside0.mk A60
  clear A60
  replace H := Option.bind_eq_some_iff.mp H
  obtain ⟨t132, A70, H⟩ := H
  replace H : ((consulatelaw16_turned.f t132).bind fun t133 => (if t131 = t133 then ((clash_Compare.f k a0_0 a0_1 a1_0 a1_1).bind fun t134 => (if t134 > 0 then (consulatelaw16_ClashAgrees.j0 k a2 a4 t131 1 a0_0 a0_1 a1_0 a1_1) else (if t134 < 0 then (consulatelaw16_ClashAgrees.j0 k a2 a4 t131 2 a0_0 a0_1 a1_0 a1_1) else (consulatelaw16_ClashAgrees.j0 k a2 a4 t131 3 a0_0 a0_1 a1_0 a1_1)))) else (some false))) = some r := H
  have A7 := Aside0.mk A70
  clear A70
  replace H := Option.bind_eq_some_iff.mp H
  obtain ⟨t133, A80, H⟩ := H
  replace H : (if t131 = t133 then ((clash_Compare.f k a0_0 a0_1 a1_0 a1_1).bind fun t134 => (if t134 > 0 then (consulatelaw16_ClashAgrees.j0 k a2 a4 t131 1 a0_0 a0_1 a1_0 a1_1) else (if t134 < 0 then (consulatelaw16_ClashAgrees.j0 k a2 a4 t131 2 a0_0 a0_1 a1_0 a1_1) else (consulatelaw16_ClashAgrees.j0 k a2 a4 t131 3 a0_0 a0_1 a1_0 a1_1)))) else (some false)) = some r := H
  have A8 := Aside0.mk A80
  clear A80
  by_cases c9 : t131 = t133
  · rw [if_pos c9] at H
    have c9b0 : (t131 == t133) = true := beq_iff_eq.mpr c9
    have c9b1 : (t131 != t133) = false := bne_eq_false_iff_eq.mpr c9
    clear c9
    replace H := Option.bind_eq_some_iff.mp H
    obtain ⟨t134, A100, H⟩ := H
    replace H : (if t134 > 0 then (consulatelaw16_ClashAgrees.j0 k a2 a4 t131 1 a0_0 a0_1 a1_0 a1_1) else (if t134 < 0 then (consulatelaw16_ClashAgrees.j0 k a2 a4 t131 2 a0_0 a0_1 a1_0 a1_1) else (consulatelaw16_ClashAgrees.j0 k a2 a4 t131 3 a0_0 a0_1 a1_0 a1_1))) = some r := H
    have A10 := Aside0.mk A100
    clear A100
    have HC11 := Aside0.mk H
    clear H
    go_enter Try.func4, Try.ntmps4
    try go_wp2_with (first | ((with_reducible refine gate_dst (N := 5) rfl ?_); refine box_event ?hg (N := 5) ?hd (cs := #[.int .u32 a0_0, .int .u32 a0_1]) (t := 26) ?hr ?_; (case hd => rfl); (case hg => rfl); (case hr => first | (go_simp; done) | (go_simp; rfl)); intro gb129 hg w12 hbox hb; have n0_ := Aside0.mk (below_step (by repeat (first | (with_reducible first | exact HB.out | apply below_alloc | apply pw_below_drewN | apply below_drew1) | exact HB.out)) hb); have n1_ := Aside0.mk (hbox); have n2_ := Aside0.mk ((by rw [hg]; exact (below_size (by repeat (first | (with_reducible first | exact HB.out | apply below_alloc | apply pw_below_drewN | apply below_drew1) | exact HB.out))) : w.heap.size ≤ gb129)); have n3_ := Aside0.mk ((by rw [hg]; exact (below_size (by repeat (first | (with_reducible first | exact HB.out | apply below_alloc | apply pw_below_drewN | apply below_drew1) | exact HB.out))) : w.heap.size ≤ gb129)); clear HB; have HB := n0_; have BK129 := n1_; have GW129 := n2_; have GE129 := n3_; clear n0_ n1_ n2_ n3_; clear hb hbox hg) | ((with_reducible refine gate_dst (N := 6) rfl ?_); refine box_event ?hg (N := 6) ?hd (cs := #[.int .u32 a1_0, .int .u32 a1_1]) (t := 26) ?hr ?_; (case hd => rfl); (case hg => rfl); (case hr => first | (go_simp; done) | (go_simp; rfl)); intro gb130 hg w13 hbox hb; have n0_ := Aside0.mk (blk_below (g := gb129) (o := .cells #[.int .u32 a0_0, .int .u32 a0_1] 26 (0, 0)) (by (with_reducible repeat (first | refine blk_drewN ?_ _ | refine blk_drew ?_ | refine blk_alloc ?_ _)); exact BK129.out) hb); have n1_ := Aside0.mk (below_step (by repeat (first | (with_reducible first | exact HB.out | apply below_alloc | apply pw_below_drewN | apply below_drew1 | refine below_set ?_ GE129.out) | exact HB.out)) hb); have n2_ := Aside0.mk (hbox); have n3_ := Aside0.mk ((by rw [hg]; exact (below_size (by repeat (first | (with_reducible first | exact HB.out | apply below_alloc | apply pw_below_drewN | apply below_drew1 | refine below_set ?_ GE129.out) | exact HB.out))) : w.heap.size ≤ gb130)); have n4_ := Aside0.mk ((by rw [hg]; exact (below_size (by repeat (first | (with_reducible first | exact HB.out | apply below_alloc | apply pw_below_drewN | apply below_drew1 | refine below_set ?_ GE129.out) | exact HB.out))) : w.heap.size ≤ gb130)); have n5_ := Aside0.mk ((by rw [hg]; exact Nat.ne_of_lt (blk_lt (g := gb129) (o := .cells #[.int .u32 a0_0, .int .u32 a0_1] 26 (0, 0)) (by (with_reducible repeat (first | refine blk_drewN ?_ _ | refine blk_drew ?_ | refine blk_alloc ?_ _)); exact BK129.out)) : gb129 ≠ gb130)); have n6_ := Aside0.mk ((by rw [hg]; exact Nat.ne_of_gt (blk_lt (g := gb129) (o := .cells #[.int .u32 a0_0, .int .u32 a0_1] 26 (0, 0)) (by (with_reducible repeat (first | refine blk_drewN ?_ _ | refine blk_drew ?_ | refine blk_alloc ?_ _)); exact BK129.out)) : gb130 ≠ gb129)); clear BK129; clear HB; have BK129 := n0_; have HB := n1_; have BK130 := n2_; have GW130 := n3_; have GE130 := n4_; have NB129_130 := n5_; have NB130_129 := n6_; clear n0_ n1_ n2_ n3_ n4_ n5_ n6_; clear hb hbox hg))
    have n0_ := Aside0.mk (blk_drew BK129.out)
    have n1_ := Aside0.mk (blk_drew BK130.out)
    have n2_ := Aside0.mk (below_drew1 HB.out)
    clear BK129
    clear BK130
    clear HB
    have BK129 := n0_
    have BK130 := n1_
    have HB := n2_
    clear n0_ n1_ n2_
    refine start_ (n := 12) (S := fun w' => w'.cell? ⟨gb129, 0, none⟩ = some (.int .u32 a0_0) ∧ w'.cell? ⟨gb129, 1, none⟩ = some (.int .u32 a0_1) ∧ w'.cell? ⟨gb130, 0, none⟩ = some (.int .u32 a1_0) ∧ w'.cell? ⟨gb130, 1, none⟩ = some (.int .u32 a1_1)) (ds := []) #[false, false, false, false, false, false, false, false, false, false, false, false] (by kernel_rfl) rfl rfl ⟨(blk_cell BK129.out 0).trans rfl, (blk_cell BK129.out 1).trans rfl, (blk_cell BK130.out 0).trans rfl, (blk_cell BK130.out 1).trans rfl⟩ (fun hHeld => ?_); refine with_tabW consulatelaw16_ClashAgrees.tab2 consulatelaw16_ClashAgrees.bits2 (fun HT_ HW_ => ?_)
    generalize w13.drew = w14 at BK129 BK130 HB hHeld ⊢
    refine pure_ (i := 2) (N := some 23) (v := ?_) (a' := ?_) #[false, false, true, false, false, false, false, false, false, false, false, false] rfl rfl (any_of HT_.out (by kernel_rfl)) (fun _ _ _ h => h) (Or.inl ⟨by rfl, ?_⟩) ?_ ?_
    rotate_left
    · intro w'
      go_simp
      with_reducible rfl
    rotate_left
    · simp only [Act.put, List.setIfInBounds_toArray, List.set_cons_zero, List.set_cons_succ, i64_w, i32_w]
      rfl
    refine pure_ (i := 3) (N := some 24) (v := ?_) (a' := ?_) #[false, false, true, true, false, false, false, false, false, false, false, false] rfl rfl (any_of HT_.out (by kernel_rfl)) (fun _ _ _ h => h) (Or.inl ⟨by rfl, ?_⟩) ?_ ?_
    rotate_left
    · intro w'
      go_simp
      with_reducible rfl
    rotate_left
    · simp only [Act.put, List.setIfInBounds_toArray, List.set_cons_zero, List.set_cons_succ, i64_w, i32_w]
      rfl
    refine pure_ (i := 7) (N := some 28) (v := ?_) (a' := ?_) #[false, false, true, true, false, false, false, true, false, false, false, false] rfl rfl (any_of HT_.out (by kernel_rfl)) (fun _ _ _ h => h) (Or.inl ⟨by rfl, ?_⟩) ?_ ?_
    rotate_left
    · intro w'
      go_simp
      with_reducible rfl
    rotate_left
    · simp only [Act.put, List.setIfInBounds_toArray, List.set_cons_zero, List.set_cons_succ, i64_w, i32_w]
      rfl
    refine pure_ (i := 8) (N := some 29) (v := ?_) (a' := ?_) #[false, false, true, true, false, false, false, true, true, false, false, false] rfl rfl (any_of HT_.out (by kernel_rfl)) (fun _ _ _ h => h) (Or.inl ⟨by rfl, ?_⟩) ?_ ?_
    rotate_left
    · intro w'
      go_simp
      with_reducible rfl
    rotate_left
    · simp only [Act.put, List.setIfInBounds_toArray, List.set_cons_zero, List.set_cons_succ, i64_w, i32_w]
      rfl
    refine take_ (i := 0) (N := some 21) (v := ?_) (a' := ?_) #[true, false, true, true, false, false, false, true, true, false, false, false] rfl rfl (take_ofW HT_.out HW_.out (by kernel_rfl)) (fun _ _ _ h => h) (Or.inl ⟨by rfl, ?_⟩) hHeld ?_ ?_
    rotate_left
    · rintro w' ⟨s0, s1, s2, s3⟩
      go_simp
      with_reducible rfl
    rotate_left
    · simp only [Act.put, List.setIfInBounds_toArray, List.set_cons_zero, List.set_cons_succ, i64_w, i32_w]
      rfl
    refine take_ (i := 1) (N := some 22) (v := ?_) (a' := ?_) #[true, true, true, true, false, false, false, true, true, false, false, false] rfl rfl (take_ofW HT_.out HW_.out (by kernel_rfl)) (fun _ _ _ h => h) (Or.inl ⟨by rfl, ?_⟩) hHeld ?_ ?_
    rotate_left
    · rintro w' ⟨s0, s1, s2, s3⟩
      go_simp
      with_reducible rfl
    rotate_left
    · simp only [Act.put, List.setIfInBounds_toArray, List.set_cons_zero, List.set_cons_succ, i64_w, i32_w]
      rfl
    refine take_ (i := 5) (N := some 26) (v := ?_) (a' := ?_) #[true, true, true, true, false, true, false, true, true, false, false, false] rfl rfl (take_ofW HT_.out HW_.out (by kernel_rfl)) (fun _ _ _ h => h) (Or.inl ⟨by rfl, ?_⟩) hHeld ?_ ?_
    rotate_left
    · rintro w' ⟨s0, s1, s2, s3⟩
      go_simp
      with_reducible rfl
    rotate_left
    · simp only [Act.put, List.setIfInBounds_toArray, List.set_cons_zero, List.set_cons_succ, i64_w, i32_w]
      rfl
    refine take_ (i := 6) (N := some 27) (v := ?_) (a' := ?_) #[true, true, true, true, false, true, true, true, true, false, false, false] rfl rfl (take_ofW HT_.out HW_.out (by kernel_rfl)) (fun _ _ _ h => h) (Or.inl ⟨by rfl, ?_⟩) hHeld ?_ ?_
    rotate_left
    · rintro w' ⟨s0, s1, s2, s3⟩
      go_simp
      with_reducible rfl
    rotate_left
    · simp only [Act.put, List.setIfInBounds_toArray, List.set_cons_zero, List.set_cons_succ, i64_w, i32_w]
      rfl
    refine one_ (i := 4) (N := some 25) #[true, true, true, true, true, true, true, true, true, false, false, false] rfl rfl (one_of HT_.out (by kernel_rfl)) (by decide) (fun K hK => ?_)
    refine goes_ Try.func12 (by kernel_rfl) rfl #[.agg #[.int .u32 a0_0, .int .u32 a0_1], .agg #[.int .u32 a1_0, .int .u32 a1_1], .bool a2, .int .i64 (wrap64 (4 + (wrap64 (Int.tmod a4 2))))] (by rfl) rfl rfl (by (try simp only [List.map_toArray, List.map_cons, List.map_nil]); first | done | rfl | (simp only [List.length_drop, List.length_take]; rfl)) ?_
    with_reducible refine (consulatelaw16_stays.calls k a0_0 a0_1 a1_0 a1_1 a2 (wrap64 (4 + (wrap64 (Int.tmod a4 2)))) t131 _ A6.out).mono ?_
    rintro e w15 ⟨rfl, hb⟩
    refine ⟨_, rfl, ?_⟩
    have n0_ := Aside0.mk (blk_below (g := gb129) (o := .cells #[.int .u32 a0_0, .int .u32 a0_1] 26 (0, 0)) (by (with_reducible repeat (first | refine blk_drewN ?_ _ | refine blk_drew ?_ | refine blk_alloc ?_ _)); exact BK129.out) hb)
    have n1_ := Aside0.mk (blk_below (g := gb130) (o := .cells #[.int .u32 a1_0, .int .u32 a1_1] 26 (0, 0)) (by (with_reducible repeat (first | refine blk_drewN ?_ _ | refine blk_drew ?_ | refine blk_alloc ?_ _)); exact BK130.out) hb)
    have n2_ := Aside0.mk (below_step (by repeat (first | (with_reducible first | exact HB.out | apply below_alloc | apply pw_below_drewN | apply below_drew1 | refine below_set ?_ GE129.out | refine below_set ?_ GE130.out) | exact HB.out)) hb)
    clear BK129
    clear BK130
    clear HB
    have BK129 := n0_
    have BK130 := n1_
    have HB := n2_
    clear n0_ n1_ n2_
    (try clear hb)
    (try clear hb2)
    (try clear hk)
    (try clear hi)
    refine hK.out _ _ ⟨(blk_cell BK129.out 0).trans rfl, (blk_cell BK129.out 1).trans rfl, (blk_cell BK130.out 0).trans rfl, (blk_cell BK130.out 1).trans rfl⟩ (fun hHeld => ?_)
    clear hK K
    refine norm_ (a' := ?_) ?_ ?_
    rotate_left
    · show Act.put _ (some 25) _ = _
      simp only [Act.put, List.setIfInBounds_toArray, List.set_cons_zero, List.set_cons_succ, i64_w, i32_w]
      rfl
    refine one_ (i := 9) (N := some 30) #[true, true, true, true, true, true, true, true, true, true, false, false] rfl rfl (one_of HT_.out (by kernel_rfl)) (by decide) (fun K hK => ?_)
    refine goes_ Try.func12 (by kernel_rfl) rfl #[.agg #[.int .u32 a1_0, .int .u32 a1_1], .agg #[.int .u32 a0_0, .int .u32 a0_1], .bool a3, .int .i64 (wrap64 (4 + (wrap64 (Int.tmod a4 2))))] (by rfl) rfl rfl (by (try simp only [List.map_toArray, List.map_cons, List.map_nil]); first | done | rfl | (simp only [List.length_drop, List.length_take]; rfl)) ?_
    with_reducible refine (consulatelaw16_stays.calls k a1_0 a1_1 a0_0 a0_1 a3 (wrap64 (4 + (wrap64 (Int.tmod a4 2)))) t132 _ A7.out).mono ?_
    rintro e w16 ⟨rfl, hb⟩
    refine ⟨_, rfl, ?_⟩
    have n0_ := Aside0.mk (blk_below (g := gb129) (o := .cells #[.int .u32 a0_0, .int .u32 a0_1] 26 (0, 0)) (by (with_reducible repeat (first | refine blk_drewN ?_ _ | refine blk_drew ?_ | refine blk_alloc ?_ _)); exact BK129.out) hb)
    have n1_ := Aside0.mk (blk_below (g := gb130) (o := .cells #[.int .u32 a1_0, .int .u32 a1_1] 26 (0, 0)) (by (with_reducible repeat (first | refine blk_drewN ?_ _ | refine blk_drew ?_ | refine blk_alloc ?_ _)); exact BK130.out) hb)
    have n2_ := Aside0.mk (below_step (by repeat (first | (with_reducible first | exact HB.out | apply below_alloc | apply pw_below_drewN | apply below_drew1 | refine below_set ?_ GE129.out | refine below_set ?_ GE130.out) | exact HB.out)) hb)
    clear BK129
    clear BK130
    clear HB
    have BK129 := n0_
    have BK130 := n1_
    have HB := n2_
    clear n0_ n1_ n2_
    (try clear hb)
    (try clear hb2)
    (try clear hk)
    (try clear hi)
    refine hK.out _ _ ⟨(blk_cell BK129.out 0).trans rfl, (blk_cell BK129.out 1).trans rfl, (blk_cell BK130.out 0).trans rfl, (blk_cell BK130.out 1).trans rfl⟩ (fun hHeld => ?_)
    clear hK K
    refine norm_ (a' := ?_) ?_ ?_
    rotate_left
    · show Act.put _ (some 30) _ = _
      simp only [Act.put, List.setIfInBounds_toArray, List.set_cons_zero, List.set_cons_succ, i64_w, i32_w]
      rfl
    refine pure_ (i := 10) (N := some 12) (v := ?_) (a' := ?_) #[true, true, true, true, true, true, true, true, true, true, true, false] rfl rfl (any_of HT_.out (by kernel_rfl)) (fun _ _ _ h => h) (Or.inl ⟨by rfl, ?_⟩) ?_ ?_
    rotate_left
    · intro w'
      go_simp
      with_reducible rfl
    rotate_left
    · simp only [Act.put, List.setIfInBounds_toArray, List.set_cons_zero, List.set_cons_succ, i64_w, i32_w]
      rfl
    refine pure_ (i := 11) (N := some 13) (v := ?_) (a' := ?_) #[true, true, true, true, true, true, true, true, true, true, true, true] rfl rfl (any_of HT_.out (by kernel_rfl)) (fun _ _ _ h => h) (Or.inl ⟨by rfl, ?_⟩) ?_ ?_
    rotate_left
    · intro w'
      go_simp
      with_reducible rfl
    rotate_left
    · simp only [Act.put, List.setIfInBounds_toArray, List.set_cons_zero, List.set_cons_succ, i64_w, i32_w]
      rfl
    refine done_ (done_of HT_.out (by kernel_rfl)) ?_
    go_upto_if 39 with (first | ((with_reducible refine gate_callee (f := 13) rfl ?_); refine goesL_ (some 33) rfl rfl Try.func13 (by kernel_rfl) rfl #[.int .i64 t132] rfl (by (try simp only [List.map_toArray, List.map_cons, List.map_nil]); first | done | rfl | (simp only [List.length_drop, List.length_take]; rfl)) ?_; (with_reducible refine (consulatelaw16_turned.calls t132 t133 _ A8.out).mono ?_); rintro e w' ⟨rfl, ⟨nd, rfl⟩⟩; refine ⟨_, rfl, ?_⟩; have hnb17 := NB129_130.out; have hnc17 := NB130_129.out; have hcz18_0 : w16.cell? ⟨gb129, 0, none⟩ = some (.int .u32 a0_0) := (blk_cell BK129.out 0).trans rfl; have hcz18_1 : w16.cell? ⟨gb129, 1, none⟩ = some (.int .u32 a0_1) := (blk_cell BK129.out 1).trans rfl; have hfz18_0 := blk_frozen BK129.out 0; have hfz18_1 := blk_frozen BK129.out 1; have hcz19_0 : w16.cell? ⟨gb130, 0, none⟩ = some (.int .u32 a1_0) := (blk_cell BK130.out 0).trans rfl; have hcz19_1 : w16.cell? ⟨gb130, 1, none⟩ = some (.int .u32 a1_1) := (blk_cell BK130.out 1).trans rfl; have hfz19_0 := blk_frozen BK130.out 0; have hfz19_1 := blk_frozen BK130.out 1) | ((with_reducible refine gate_callee (f := 7) rfl ?_); refine goesL_ (some 37) rfl rfl Try.func7 (by kernel_rfl) rfl #[.agg #[.int .u32 a0_0, .int .u32 a0_1], .agg #[.int .u32 a1_0, .int .u32 a1_1]] rfl (by (try simp only [List.map_toArray, List.map_cons, List.map_nil]); first | done | rfl | (simp only [List.length_drop, List.length_take]; rfl)) ?_; (with_reducible refine (clash_Compare.calls k a0_0 a0_1 a1_0 a1_1 t134 _ A10.out).mono ?_); rintro e w20 ⟨rfl, hb⟩; refine ⟨_, rfl, ?_⟩; have n0_ := Aside0.mk (blk_below (g := gb129) (o := .cells #[.int .u32 a0_0, .int .u32 a0_1] 26 (0, 0)) (by (with_reducible repeat (first | refine blk_drewN ?_ _ | refine blk_drew ?_ | refine blk_alloc ?_ _)); exact BK129.out) hb); have n1_ := Aside0.mk (blk_below (g := gb130) (o := .cells #[.int .u32 a1_0, .int .u32 a1_1] 26 (0, 0)) (by (with_reducible repeat (first | refine blk_drewN ?_ _ | refine blk_drew ?_ | refine blk_alloc ?_ _)); exact BK130.out) hb); have n2_ := Aside0.mk (below_step (by repeat (first | (with_reducible first | exact HB.out | apply below_alloc | apply pw_below_drewN | apply below_drew1 | refine below_set ?_ GE129.out | refine below_set ?_ GE130.out) | exact HB.out)) hb); clear BK129; clear BK130; clear HB; have BK129 := n0_; have BK130 := n1_; have HB := n2_; clear n0_ n1_ n2_; (try clear hb); (try clear hb2); (try clear hk); (try clear hi)))
    (try simp only [Act.put, List.setIfInBounds_toArray, List.set_cons_zero, List.set_cons_succ])
    go_cut [14] (fun v14 wc => ∃ (kq : Nat) (x14_10 : Int), v14 = .int .i64 x14_10 ∧ Aside0 (consulatelaw16_ClashAgrees.j0 kq a2 a4 t131 x14_10 a0_0 a0_1 a1_0 a1_1 = some r) ∧ Aside0 (kq ≤ k) ∧ Aside0 (wc.heap[gb129]? = some (.cells #[.int .u32 a0_0, .int .u32 a0_1] 26 (0, 0))) ∧ Aside0 (wc.heap[gb130]? = some (.cells #[.int .u32 a1_0, .int .u32 a1_1] 26 (0, 0))) ∧ Aside0 (Below w.heap.size w wc))
    case first =>
      have H := HC11.out
      clear HC11
      by_cases c21 : t134 > 0
      · rw [if_pos c21] at H
        have c21b0 : decide (0 < t134) = true := decide_eq_true c21
        clear c21
        (first | rw [c21b0] | (simp only [i64_w, i32_w]; rw [c21b0]) | skip)
        have H' := Aside0.mk H
        clear H
        go_wp2
        go_meet
        case rel => exact ⟨_, (1), (by first | rfl | (simp; done) | (simp [*]; done)), H', ⟨by first | omega | exact Nat.le_refl _⟩, ⟨by (with_reducible repeat (first | refine blk_drewN ?_ _ | refine blk_drew ?_ | refine blk_alloc ?_ _)); exact BK129.out⟩, ⟨by (with_reducible repeat (first | refine blk_drewN ?_ _ | refine blk_drew ?_ | refine blk_alloc ?_ _)); exact BK130.out⟩, ⟨by repeat (first | (with_reducible first | exact HB.out | apply below_alloc | apply pw_below_drewN | apply below_drew1 | refine below_set ?_ GE129.out | refine below_set ?_ GE130.out) | exact HB.out)⟩⟩
      · rw [if_neg c21] at H
        have c21b0 : decide (0 < t134) = false := decide_eq_false c21
        clear c21
        (first | rw [c21b0] | (simp only [i64_w, i32_w]; rw [c21b0]) | skip)
        by_cases c22 : t134 < 0
        · rw [if_pos c22] at H
          have c22b0 : decide (t134 < 0) = true := decide_eq_true c22
          clear c22
          have H' := Aside0.mk H
          clear H
          go_wp2
          go_meet
          case rel => exact ⟨_, (2), (by first | rfl | (simp; done) | (simp [*]; done)), H', ⟨by first | omega | exact Nat.le_refl _⟩, ⟨by (with_reducible repeat (first | refine blk_drewN ?_ _ | refine blk_drew ?_ | refine blk_alloc ?_ _)); exact BK129.out⟩, ⟨by (with_reducible repeat (first | refine blk_drewN ?_ _ | refine blk_drew ?_ | refine blk_alloc ?_ _)); exact BK130.out⟩, ⟨by repeat (first | (with_reducible first | exact HB.out | apply below_alloc | apply pw_below_drewN | apply below_drew1 | refine below_set ?_ GE129.out | refine below_set ?_ GE130.out) | exact HB.out)⟩⟩
        · rw [if_neg c22] at H
          have c22b0 : decide (t134 < 0) = false := decide_eq_false c22
          clear c22
          have H' := Aside0.mk H
          clear H
          go_wp2
          go_meet
          case rel => exact ⟨_, (3), (by first | rfl | (simp; done) | (simp [*]; done)), H', ⟨by first | omega | exact Nat.le_refl _⟩, ⟨by (with_reducible repeat (first | refine blk_drewN ?_ _ | refine blk_drew ?_ | refine blk_alloc ?_ _)); exact BK129.out⟩, ⟨by (with_reducible repeat (first | refine blk_drewN ?_ _ | refine blk_drew ?_ | refine blk_alloc ?_ _)); exact BK130.out⟩, ⟨by repeat (first | (with_reducible first | exact HB.out | apply below_alloc | apply pw_below_drewN | apply below_drew1 | refine below_set ?_ GE129.out | refine below_set ?_ GE130.out) | exact HB.out)⟩⟩
    case rest =>
      clear HC11
      try clear c1
      try clear c2
      try clear p2
      try clear c4
      try clear p6
      try clear c7
      try clear c9
      try clear c9b0
      try clear c9b1
      try clear c12
      try clear c13
      try clear c17
      try clear c21
      try clear c21b0
      try clear c22
      try clear c22b0
      try clear hcz18_0
      try clear hcz18_1
      try clear hcz19_0
      try clear hcz19_1
      try clear hfz18_0
      try clear hfz18_1
      try clear hfz19_0
      try clear hfz19_1
      obtain ⟨kq, x14_10, rfl, HA, HJ10, BK129, BK130, HB⟩ := hcut
      cases kq with
      | zero => exact absurd HA.out (by simp [consulatelaw16_ClashAgrees.j0])
      | succ kj10 =>
        have H := HA.out
        clear HA
        simp only [consulatelaw16_ClashAgrees.j0] at H
        by_cases c23 : a2 = true
        · subst c23
          have H1 : (if t131 = x14_10 then ((consulatelaw16_stays.f kj10 a0_0 a0_1 a1_0 a1_1 true 6).bind fun t135 => (if t135 = 1 then ((consulatelaw16_stays.f kj10 a0_0 a0_1 a1_0 a1_1 true (wrap64 (1 + (wrap64 (Int.tmod a4 3))))).bind fun t136 => (if t136 = 0 then (if ((x14_10 == 3) == (a0_0 == a1_0 && (a0_1 == a1_1))) = true then ((consulatelaw16_tells.f kj10).bind fun t137 => (some t137)) else (some false)) else (some false))) else (some false))) else (some false)) = some r := by rw [if_pos rfl] at H; exact H
          clear H
          have H := H1
          clear H1
          by_cases c24 : t131 = x14_10
          · rw [if_pos c24] at H
            have c24b0 : (t131 == x14_10) = true := beq_iff_eq.mpr c24
            have c24b1 : (t131 != x14_10) = false := bne_eq_false_iff_eq.mpr c24
            clear c24
            replace H := Option.bind_eq_some_iff.mp H
            obtain ⟨t135, A250, H⟩ := H
            replace H : (if t135 = 1 then ((consulatelaw16_stays.f kj10 a0_0 a0_1 a1_0 a1_1 true (wrap64 (1 + (wrap64 (Int.tmod a4 3))))).bind fun t136 => (if t136 = 0 then (if ((x14_10 == 3) == (a0_0 == a1_0 && (a0_1 == a1_1))) = true then ((consulatelaw16_tells.f kj10).bind fun t137 => (some t137)) else (some false)) else (some false))) else (some false)) = some r := H
            have A25 := Aside0.mk A250
            clear A250
            by_cases c26 : t135 = 1
            · rw [if_pos c26] at H
              have c26b0 : (t135 == 1) = true := beq_iff_eq.mpr c26
              have c26b1 : (t135 != 1) = false := bne_eq_false_iff_eq.mpr c26
              clear c26
              replace H := Option.bind_eq_some_iff.mp H
              obtain ⟨t136, A270, H⟩ := H
              replace H : (if t136 = 0 then (if ((x14_10 == 3) == (a0_0 == a1_0 && (a0_1 == a1_1))) = true then ((consulatelaw16_tells.f kj10).bind fun t137 => (some t137)) else (some false)) else (some false)) = some r := H
              have A27 := Aside0.mk A270
              clear A270
              by_cases c28 : t136 = 0
              · rw [if_pos c28] at H
                have c28b0 : (t136 == 0) = true := beq_iff_eq.mpr c28
                have c28b1 : (t136 != 0) = false := bne_eq_false_iff_eq.mpr c28
                clear c28
                by_cases c29 : ((x14_10 == 3) == (a0_0 == a1_0 && (a0_1 == a1_1))) = true
                · rw [if_pos c29] at H
                  have c29b0 : ((x14_10 == 3) == (a0_0 == a1_0 && (a0_1 == a1_1))) = true := c29
                  (try (have c29b1 : decide ((x14_10 == 3) = (a0_0 == a1_0 && (a0_1 == a1_1))) = true := by simpa using c29))
                  (try (have c29b2 : ((x14_10 == 3) == (a0_0 == a1_0 && (a0_1 == a1_1))) = true := by simpa using c29))
                  clear c29
                  replace H := Option.bind_eq_some_iff.mp H
                  obtain ⟨t137, A300, H⟩ := H
                  replace H : (some t137) = some r := H
                  have A30 := Aside0.mk A300
                  clear A300
                  obtain rfl := Option.some.inj H
                  have hnb31 := NB129_130.out
                  have hnc31 := NB130_129.out
                  have hcz32_0 : wc.cell? ⟨gb129, 0, none⟩ = some (.int .u32 a0_0) := (blk_cell BK129.out 0).trans rfl
                  have hcz32_1 : wc.cell? ⟨gb129, 1, none⟩ = some (.int .u32 a0_1) := (blk_cell BK129.out 1).trans rfl
                  have hfz32_0 := blk_frozen BK129.out 0
                  have hfz32_1 := blk_frozen BK129.out 1
                  have hcz33_0 : wc.cell? ⟨gb130, 0, none⟩ = some (.int .u32 a1_0) := (blk_cell BK130.out 0).trans rfl
                  have hcz33_1 : wc.cell? ⟨gb130, 1, none⟩ = some (.int .u32 a1_1) := (blk_cell BK130.out 1).trans rfl
                  have hfz33_0 := blk_frozen BK130.out 0
                  have hfz33_1 := blk_frozen BK130.out 1
                  go_wp2_with (first | (go_at_call 12; (with_reducible refine (consulatelaw16_stays.calls kj10 a0_0 a0_1 a1_0 a1_1 true 6 t135 _ A25.out).mono ?_); rintro e w34 ⟨rfl, hb⟩; have n0_ := Aside0.mk (blk_below (g := gb129) (o := .cells #[.int .u32 a0_0, .int .u32 a0_1] 26 (0, 0)) (by (with_reducible repeat (first | refine blk_drewN ?_ _ | refine blk_drew ?_ | refine blk_alloc ?_ _)); exact BK129.out) hb); have n1_ := Aside0.mk (blk_below (g := gb130) (o := .cells #[.int .u32 a1_0, .int .u32 a1_1] 26 (0, 0)) (by (with_reducible repeat (first | refine blk_drewN ?_ _ | refine blk_drew ?_ | refine blk_alloc ?_ _)); exact BK130.out) hb); have n2_ := Aside0.mk (below_step (by repeat (first | (with_reducible first | exact HB.out | apply below_alloc | apply pw_below_drewN | apply below_drew1 | refine below_set ?_ GE129.out | refine below_set ?_ GE130.out) | exact HB.out)) hb); clear BK129; clear BK130; clear HB; have BK129 := n0_; have BK130 := n1_; have HB := n2_; clear n0_ n1_ n2_; (try clear hb); (try clear hb2); (try clear hk); (try clear hi); have hcz35_0 : w34.cell? ⟨gb129, 0, none⟩ = some (.int .u32 a0_0) := (blk_cell BK129.out 0).trans rfl; have hcz35_1 : w34.cell? ⟨gb129, 1, none⟩ = some (.int .u32 a0_1) := (blk_cell BK129.out 1).trans rfl; have hfz35_0 := blk_frozen BK129.out 0; have hfz35_1 := blk_frozen BK129.out 1; have hcz36_0 : w34.cell? ⟨gb130, 0, none⟩ = some (.int .u32 a1_0) := (blk_cell BK130.out 0).trans rfl; have hcz36_1 : w34.cell? ⟨gb130, 1, none⟩ = some (.int .u32 a1_1) := (blk_cell BK130.out 1).trans rfl; have hfz36_0 := blk_frozen BK130.out 0; have hfz36_1 := blk_frozen BK130.out 1) | (go_at_call 12; (with_reducible refine (consulatelaw16_stays.calls kj10 a0_0 a0_1 a1_0 a1_1 true (wrap64 (1 + (wrap64 (Int.tmod a4 3)))) t136 _ A27.out).mono ?_); rintro e w37 ⟨rfl, hb⟩; have n0_ := Aside0.mk (blk_below (g := gb129) (o := .cells #[.int .u32 a0_0, .int .u32 a0_1] 26 (0, 0)) (by (with_reducible repeat (first | refine blk_drewN ?_ _ | refine blk_drew ?_ | refine blk_alloc ?_ _)); exact BK129.out) hb); have n1_ := Aside0.mk (blk_below (g := gb130) (o := .cells #[.int .u32 a1_0, .int .u32 a1_1] 26 (0, 0)) (by (with_reducible repeat (first | refine blk_drewN ?_ _ | refine blk_drew ?_ | refine blk_alloc ?_ _)); exact BK130.out) hb); have n2_ := Aside0.mk (below_step (by repeat (first | (with_reducible first | exact HB.out | apply below_alloc | apply pw_below_drewN | apply below_drew1 | refine below_set ?_ GE129.out | refine below_set ?_ GE130.out) | exact HB.out)) hb); clear BK129; clear BK130; clear HB; have BK129 := n0_; have BK130 := n1_; have HB := n2_; clear n0_ n1_ n2_; (try clear hb); (try clear hb2); (try clear hk); (try clear hi); have hcz38_0 : w37.cell? ⟨gb129, 0, none⟩ = some (.int .u32 a0_0) := (blk_cell BK129.out 0).trans rfl; have hcz38_1 : w37.cell? ⟨gb129, 1, none⟩ = some (.int .u32 a0_1) := (blk_cell BK129.out 1).trans rfl; have hfz38_0 := blk_frozen BK129.out 0; have hfz38_1 := blk_frozen BK129.out 1; have hcz39_0 : w37.cell? ⟨gb130, 0, none⟩ = some (.int .u32 a1_0) := (blk_cell BK130.out 0).trans rfl; have hcz39_1 : w37.cell? ⟨gb130, 1, none⟩ = some (.int .u32 a1_1) := (blk_cell BK130.out 1).trans rfl; have hfz39_0 := blk_frozen BK130.out 0; have hfz39_1 := blk_frozen BK130.out 1) | (go_at_call 11; (with_reducible refine (consulatelaw16_tells.calls kj10  t137 _ A30.out).mono ?_); rintro e w40 ⟨rfl, hb⟩; have n0_ := Aside0.mk (blk_below (g := gb129) (o := .cells #[.int .u32 a0_0, .int .u32 a0_1] 26 (0, 0)) (by (with_reducible repeat (first | refine blk_drewN ?_ _ | refine blk_drew ?_ | refine blk_alloc ?_ _)); exact BK129.out) hb); have n1_ := Aside0.mk (blk_below (g := gb130) (o := .cells #[.int .u32 a1_0, .int .u32 a1_1] 26 (0, 0)) (by (with_reducible repeat (first | refine blk_drewN ?_ _ | refine blk_drew ?_ | refine blk_alloc ?_ _)); exact BK130.out) hb); have n2_ := Aside0.mk (below_step (by repeat (first | (with_reducible first | exact HB.out | apply below_alloc | apply pw_below_drewN | apply below_drew1 | refine below_set ?_ GE129.out | refine below_set ?_ GE130.out) | exact HB.out)) hb); clear BK129; clear BK130; clear HB; have BK129 := n0_; have BK130 := n1_; have HB := n2_; clear n0_ n1_ n2_; (try clear hb); (try clear hb2); (try clear hk); (try clear hi)))
                  go_ret
                  exact ⟨by first | rfl | (simp [errW_none, errW_some] <;> rfl) | (simp [*, errW_none, errW_some] <;> rfl), by repeat (first | (with_reducible first | exact HB.out | apply below_alloc | apply pw_below_drewN | apply below_drew1 | refine below_set ?_ GE129.out | refine below_set ?_ GE130.out) | exact HB.out)⟩
                · rw [if_neg c29] at H
                  have c29b0 : ((x14_10 == 3) == (a0_0 == a1_0 && (a0_1 == a1_1))) = false := by simpa using c29
                  (try (have c29b1 : decide ((x14_10 == 3) = (a0_0 == a1_0 && (a0_1 == a1_1))) = false := by simpa using c29))
                  (try (have c29b2 : ((x14_10 == 3) == (a0_0 == a1_0 && (a0_1 == a1_1))) = false := by simpa using c29))
                  (try (have c29b3 : ¬ ((x14_10 == 3) = (a0_0 == a1_0 && (a0_1 == a1_1))) := by simpa using c29))
                  clear c29
                  obtain rfl := Option.some.inj H
                  have hnb41 := NB129_130.out
                  have hnc41 := NB130_129.out
                  have hcz42_0 : wc.cell? ⟨gb129, 0, none⟩ = some (.int .u32 a0_0) := (blk_cell BK129.out 0).trans rfl
                  have hcz42_1 : wc.cell? ⟨gb129, 1, none⟩ = some (.int .u32 a0_1) := (blk_cell BK129.out 1).trans rfl
                  have hfz42_0 := blk_frozen BK129.out 0
                  have hfz42_1 := blk_frozen BK129.out 1
                  have hcz43_0 : wc.cell? ⟨gb130, 0, none⟩ = some (.int .u32 a1_0) := (blk_cell BK130.out 0).trans rfl
                  have hcz43_1 : wc.cell? ⟨gb130, 1, none⟩ = some (.int .u32 a1_1) := (blk_cell BK130.out 1).trans rfl
                  have hfz43_0 := blk_frozen BK130.out 0
                  have hfz43_1 := blk_frozen BK130.out 1
                  go_wp2_with (first | (go_at_call 12; (with_reducible refine (consulatelaw16_stays.calls kj10 a0_0 a0_1 a1_0 a1_1 true 6 t135 _ A25.out).mono ?_); rintro e w44 ⟨rfl, hb⟩; have n0_ := Aside0.mk (blk_below (g := gb129) (o := .cells #[.int .u32 a0_0, .int .u32 a0_1] 26 (0, 0)) (by (with_reducible repeat (first | refine blk_drewN ?_ _ | refine blk_drew ?_ | refine blk_alloc ?_ _)); exact BK129.out) hb); have n1_ := Aside0.mk (blk_below (g := gb130) (o := .cells #[.int .u32 a1_0, .int .u32 a1_1] 26 (0, 0)) (by (with_reducible repeat (first | refine blk_drewN ?_ _ | refine blk_drew ?_ | refine blk_alloc ?_ _)); exact BK130.out) hb); have n2_ := Aside0.mk (below_step (by repeat (first | (with_reducible first | exact HB.out | apply below_alloc | apply pw_below_drewN | apply below_drew1 | refine below_set ?_ GE129.out | refine below_set ?_ GE130.out) | exact HB.out)) hb); clear BK129; clear BK130; clear HB; have BK129 := n0_; have BK130 := n1_; have HB := n2_; clear n0_ n1_ n2_; (try clear hb); (try clear hb2); (try clear hk); (try clear hi); have hcz45_0 : w44.cell? ⟨gb129, 0, none⟩ = some (.int .u32 a0_0) := (blk_cell BK129.out 0).trans rfl; have hcz45_1 : w44.cell? ⟨gb129, 1, none⟩ = some (.int .u32 a0_1) := (blk_cell BK129.out 1).trans rfl; have hfz45_0 := blk_frozen BK129.out 0; have hfz45_1 := blk_frozen BK129.out 1; have hcz46_0 : w44.cell? ⟨gb130, 0, none⟩ = some (.int .u32 a1_0) := (blk_cell BK130.out 0).trans rfl; have hcz46_1 : w44.cell? ⟨gb130, 1, none⟩ = some (.int .u32 a1_1) := (blk_cell BK130.out 1).trans rfl; have hfz46_0 := blk_frozen BK130.out 0; have hfz46_1 := blk_frozen BK130.out 1) | (go_at_call 12; (with_reducible refine (consulatelaw16_stays.calls kj10 a0_0 a0_1 a1_0 a1_1 true (wrap64 (1 + (wrap64 (Int.tmod a4 3)))) t136 _ A27.out).mono ?_); rintro e w47 ⟨rfl, hb⟩; have n0_ := Aside0.mk (blk_below (g := gb129) (o := .cells #[.int .u32 a0_0, .int .u32 a0_1] 26 (0, 0)) (by (with_reducible repeat (first | refine blk_drewN ?_ _ | refine blk_drew ?_ | refine blk_alloc ?_ _)); exact BK129.out) hb); have n1_ := Aside0.mk (blk_below (g := gb130) (o := .cells #[.int .u32 a1_0, .int .u32 a1_1] 26 (0, 0)) (by (with_reducible repeat (first | refine blk_drewN ?_ _ | refine blk_drew ?_ | refine blk_alloc ?_ _)); exact BK130.out) hb); have n2_ := Aside0.mk (below_step (by repeat (first | (with_reducible first | exact HB.out | apply below_alloc | apply pw_below_drewN | apply below_drew1 | refine below_set ?_ GE129.out | refine below_set ?_ GE130.out) | exact HB.out)) hb); clear BK129; clear BK130; clear HB; have BK129 := n0_; have BK130 := n1_; have HB := n2_; clear n0_ n1_ n2_; (try clear hb); (try clear hb2); (try clear hk); (try clear hi); have hcz48_0 : w47.cell? ⟨gb129, 0, none⟩ = some (.int .u32 a0_0) := (blk_cell BK129.out 0).trans rfl; have hcz48_1 : w47.cell? ⟨gb129, 1, none⟩ = some (.int .u32 a0_1) := (blk_cell BK129.out 1).trans rfl; have hfz48_0 := blk_frozen BK129.out 0; have hfz48_1 := blk_frozen BK129.out 1; have hcz49_0 : w47.cell? ⟨gb130, 0, none⟩ = some (.int .u32 a1_0) := (blk_cell BK130.out 0).trans rfl; have hcz49_1 : w47.cell? ⟨gb130, 1, none⟩ = some (.int .u32 a1_1) := (blk_cell BK130.out 1).trans rfl; have hfz49_0 := blk_frozen BK130.out 0; have hfz49_1 := blk_frozen BK130.out 1))
                  go_ret
                  exact ⟨by first | rfl | (simp [errW_none, errW_some] <;> rfl) | (simp [*, errW_none, errW_some] <;> rfl), by repeat (first | (with_reducible first | exact HB.out | apply below_alloc | apply pw_below_drewN | apply below_drew1 | refine below_set ?_ GE129.out | refine below_set ?_ GE130.out) | exact HB.out)⟩
              · rw [if_neg c28] at H
                have c28b0 : (t136 == 0) = false := beq_eq_false_iff_ne.mpr c28
                have c28b1 : (t136 != 0) = true := bne_iff_ne.mpr c28
                obtain rfl := Option.some.inj H
                have hnb50 := NB129_130.out
                have hnc50 := NB130_129.out
                have hcz51_0 : wc.cell? ⟨gb129, 0, none⟩ = some (.int .u32 a0_0) := (blk_cell BK129.out 0).trans rfl
                have hcz51_1 : wc.cell? ⟨gb129, 1, none⟩ = some (.int .u32 a0_1) := (blk_cell BK129.out 1).trans rfl
                have hfz51_0 := blk_frozen BK129.out 0
                have hfz51_1 := blk_frozen BK129.out 1
                have hcz52_0 : wc.cell? ⟨gb130, 0, none⟩ = some (.int .u32 a1_0) := (blk_cell BK130.out 0).trans rfl
                have hcz52_1 : wc.cell? ⟨gb130, 1, none⟩ = some (.int .u32 a1_1) := (blk_cell BK130.out 1).trans rfl
                have hfz52_0 := blk_frozen BK130.out 0
                have hfz52_1 := blk_frozen BK130.out 1
                go_wp2_with (first | (go_at_call 12; (with_reducible refine (consulatelaw16_stays.calls kj10 a0_0 a0_1 a1_0 a1_1 true 6 t135 _ A25.out).mono ?_); rintro e w53 ⟨rfl, hb⟩; have n0_ := Aside0.mk (blk_below (g := gb129) (o := .cells #[.int .u32 a0_0, .int .u32 a0_1] 26 (0, 0)) (by (with_reducible repeat (first | refine blk_drewN ?_ _ | refine blk_drew ?_ | refine blk_alloc ?_ _)); exact BK129.out) hb); have n1_ := Aside0.mk (blk_below (g := gb130) (o := .cells #[.int .u32 a1_0, .int .u32 a1_1] 26 (0, 0)) (by (with_reducible repeat (first | refine blk_drewN ?_ _ | refine blk_drew ?_ | refine blk_alloc ?_ _)); exact BK130.out) hb); have n2_ := Aside0.mk (below_step (by repeat (first | (with_reducible first | exact HB.out | apply below_alloc | apply pw_below_drewN | apply below_drew1 | refine below_set ?_ GE129.out | refine below_set ?_ GE130.out) | exact HB.out)) hb); clear BK129; clear BK130; clear HB; have BK129 := n0_; have BK130 := n1_; have HB := n2_; clear n0_ n1_ n2_; (try clear hb); (try clear hb2); (try clear hk); (try clear hi); have hcz54_0 : w53.cell? ⟨gb129, 0, none⟩ = some (.int .u32 a0_0) := (blk_cell BK129.out 0).trans rfl; have hcz54_1 : w53.cell? ⟨gb129, 1, none⟩ = some (.int .u32 a0_1) := (blk_cell BK129.out 1).trans rfl; have hfz54_0 := blk_frozen BK129.out 0; have hfz54_1 := blk_frozen BK129.out 1; have hcz55_0 : w53.cell? ⟨gb130, 0, none⟩ = some (.int .u32 a1_0) := (blk_cell BK130.out 0).trans rfl; have hcz55_1 : w53.cell? ⟨gb130, 1, none⟩ = some (.int .u32 a1_1) := (blk_cell BK130.out 1).trans rfl; have hfz55_0 := blk_frozen BK130.out 0; have hfz55_1 := blk_frozen BK130.out 1) | (go_at_call 12; (with_reducible refine (consulatelaw16_stays.calls kj10 a0_0 a0_1 a1_0 a1_1 true (wrap64 (1 + (wrap64 (Int.tmod a4 3)))) t136 _ A27.out).mono ?_); rintro e w56 ⟨rfl, hb⟩; have n0_ := Aside0.mk (blk_below (g := gb129) (o := .cells #[.int .u32 a0_0, .int .u32 a0_1] 26 (0, 0)) (by (with_reducible repeat (first | refine blk_drewN ?_ _ | refine blk_drew ?_ | refine blk_alloc ?_ _)); exact BK129.out) hb); have n1_ := Aside0.mk (blk_below (g := gb130) (o := .cells #[.int .u32 a1_0, .int .u32 a1_1] 26 (0, 0)) (by (with_reducible repeat (first | refine blk_drewN ?_ _ | refine blk_drew ?_ | refine blk_alloc ?_ _)); exact BK130.out) hb); have n2_ := Aside0.mk (below_step (by repeat (first | (with_reducible first | exact HB.out | apply below_alloc | apply pw_below_drewN | apply below_drew1 | refine below_set ?_ GE129.out | refine below_set ?_ GE130.out) | exact HB.out)) hb); clear BK129; clear BK130; clear HB; have BK129 := n0_; have BK130 := n1_; have HB := n2_; clear n0_ n1_ n2_; (try clear hb); (try clear hb2); (try clear hk); (try clear hi)))
                go_ret
                exact ⟨by first | rfl | (simp [errW_none, errW_some] <;> rfl) | (simp [*, errW_none, errW_some] <;> rfl), by repeat (first | (with_reducible first | exact HB.out | apply below_alloc | apply pw_below_drewN | apply below_drew1 | refine below_set ?_ GE129.out | refine below_set ?_ GE130.out) | exact HB.out)⟩
            · rw [if_neg c26] at H
              have c26b0 : (t135 == 1) = false := beq_eq_false_iff_ne.mpr c26
              have c26b1 : (t135 != 1) = true := bne_iff_ne.mpr c26
              obtain rfl := Option.some.inj H
              have hnb57 := NB129_130.out
              have hnc57 := NB130_129.out
              have hcz58_0 : wc.cell? ⟨gb129, 0, none⟩ = some (.int .u32 a0_0) := (blk_cell BK129.out 0).trans rfl
              have hcz58_1 : wc.cell? ⟨gb129, 1, none⟩ = some (.int .u32 a0_1) := (blk_cell BK129.out 1).trans rfl
              have hfz58_0 := blk_frozen BK129.out 0
              have hfz58_1 := blk_frozen BK129.out 1
              have hcz59_0 : wc.cell? ⟨gb130, 0, none⟩ = some (.int .u32 a1_0) := (blk_cell BK130.out 0).trans rfl
              have hcz59_1 : wc.cell? ⟨gb130, 1, none⟩ = some (.int .u32 a1_1) := (blk_cell BK130.out 1).trans rfl
              have hfz59_0 := blk_frozen BK130.out 0
              have hfz59_1 := blk_frozen BK130.out 1
              go_wp2_with (first | (go_at_call 12; (with_reducible refine (consulatelaw16_stays.calls kj10 a0_0 a0_1 a1_0 a1_1 true 6 t135 _ A25.out).mono ?_); rintro e w60 ⟨rfl, hb⟩; have n0_ := Aside0.mk (blk_below (g := gb129) (o := .cells #[.int .u32 a0_0, .int .u32 a0_1] 26 (0, 0)) (by (with_reducible repeat (first | refine blk_drewN ?_ _ | refine blk_drew ?_ | refine blk_alloc ?_ _)); exact BK129.out) hb); have n1_ := Aside0.mk (blk_below (g := gb130) (o := .cells #[.int .u32 a1_0, .int .u32 a1_1] 26 (0, 0)) (by (with_reducible repeat (first | refine blk_drewN ?_ _ | refine blk_drew ?_ | refine blk_alloc ?_ _)); exact BK130.out) hb); have n2_ := Aside0.mk (below_step (by repeat (first | (with_reducible first | exact HB.out | apply below_alloc | apply pw_below_drewN | apply below_drew1 | refine below_set ?_ GE129.out | refine below_set ?_ GE130.out) | exact HB.out)) hb); clear BK129; clear BK130; clear HB; have BK129 := n0_; have BK130 := n1_; have HB := n2_; clear n0_ n1_ n2_; (try clear hb); (try clear hb2); (try clear hk); (try clear hi)))
              go_ret
              exact ⟨by first | rfl | (simp [errW_none, errW_some] <;> rfl) | (simp [*, errW_none, errW_some] <;> rfl), by repeat (first | (with_reducible first | exact HB.out | apply below_alloc | apply pw_below_drewN | apply below_drew1 | refine below_set ?_ GE129.out | refine below_set ?_ GE130.out) | exact HB.out)⟩
          · rw [if_neg c24] at H
            have c24b0 : (t131 == x14_10) = false := beq_eq_false_iff_ne.mpr c24
            have c24b1 : (t131 != x14_10) = true := bne_iff_ne.mpr c24
            obtain rfl := Option.some.inj H
            go_wp2
            go_ret
            exact ⟨by first | rfl | (simp [errW_none, errW_some] <;> rfl) | (simp [*, errW_none, errW_some] <;> rfl), by repeat (first | (with_reducible first | exact HB.out | apply below_alloc | apply pw_below_drewN | apply below_drew1 | refine below_set ?_ GE129.out | refine below_set ?_ GE130.out) | exact HB.out)⟩
        · replace c23 := Bool.eq_false_iff.mpr c23
          subst c23
          have H1 : (if t131 = x14_10 then ((consulatelaw16_stays.f kj10 a0_0 a0_1 a1_0 a1_1 false 6).bind fun t138 => (if t138 = 2 then ((consulatelaw16_stays.f kj10 a0_0 a0_1 a1_0 a1_1 false (wrap64 (1 + (wrap64 (Int.tmod a4 3))))).bind fun t139 => (if t139 = 0 then (if ((x14_10 == 3) == (a0_0 == a1_0 && (a0_1 == a1_1))) = true then ((consulatelaw16_tells.f kj10).bind fun t140 => (some t140)) else (some false)) else (some false))) else (some false))) else (some false)) = some r := by rw [if_neg (show ¬ (false = true) by decide)] at H; exact H
          clear H
          have H := H1
          clear H1
          by_cases c61 : t131 = x14_10
          · rw [if_pos c61] at H
            have c61b0 : (t131 == x14_10) = true := beq_iff_eq.mpr c61
            have c61b1 : (t131 != x14_10) = false := bne_eq_false_iff_eq.mpr c61
            clear c61
            replace H := Option.bind_eq_some_iff.mp H
            obtain ⟨t138, A620, H⟩ := H
            replace H : (if t138 = 2 then ((consulatelaw16_stays.f kj10 a0_0 a0_1 a1_0 a1_1 false (wrap64 (1 + (wrap64 (Int.tmod a4 3))))).bind fun t139 => (if t139 = 0 then (if ((x14_10 == 3) == (a0_0 == a1_0 && (a0_1 == a1_1))) = true then ((consulatelaw16_tells.f kj10).bind fun t140 => (some t140)) else (some false)) else (some false))) else (some false)) = some r := H
            have A62 := Aside0.mk A620
            clear A620
            by_cases c63 : t138 = 2
            · rw [if_pos c63] at H
              have c63b0 : (t138 == 2) = true := beq_iff_eq.mpr c63
              have c63b1 : (t138 != 2) = false := bne_eq_false_iff_eq.mpr c63
              clear c63
              replace H := Option.bind_eq_some_iff.mp H
              obtain ⟨t139, A640, H⟩ := H
              replace H : (if t139 = 0 then (if ((x14_10 == 3) == (a0_0 == a1_0 && (a0_1 == a1_1))) = true then ((consulatelaw16_tells.f kj10).bind fun t140 => (some t140)) else (some false)) else (some false)) = some r := H
              have A64 := Aside0.mk A640
              clear A640
              by_cases c65 : t139 = 0
              · rw [if_pos c65] at H
                have c65b0 : (t139 == 0) = true := beq_iff_eq.mpr c65
                have c65b1 : (t139 != 0) = false := bne_eq_false_iff_eq.mpr c65
                clear c65
                by_cases c66 : ((x14_10 == 3) == (a0_0 == a1_0 && (a0_1 == a1_1))) = true
                · rw [if_pos c66] at H
                  have c66b0 : ((x14_10 == 3) == (a0_0 == a1_0 && (a0_1 == a1_1))) = true := c66
                  (try (have c66b1 : decide ((x14_10 == 3) = (a0_0 == a1_0 && (a0_1 == a1_1))) = true := by simpa using c66))
                  (try (have c66b2 : ((x14_10 == 3) == (a0_0 == a1_0 && (a0_1 == a1_1))) = true := by simpa using c66))
                  clear c66
                  replace H := Option.bind_eq_some_iff.mp H
                  obtain ⟨t140, A670, H⟩ := H
                  replace H : (some t140) = some r := H
                  have A67 := Aside0.mk A670
                  clear A670
                  obtain rfl := Option.some.inj H
                  have hnb68 := NB129_130.out
                  have hnc68 := NB130_129.out
                  have hcz69_0 : wc.cell? ⟨gb129, 0, none⟩ = some (.int .u32 a0_0) := (blk_cell BK129.out 0).trans rfl
                  have hcz69_1 : wc.cell? ⟨gb129, 1, none⟩ = some (.int .u32 a0_1) := (blk_cell BK129.out 1).trans rfl
                  have hfz69_0 := blk_frozen BK129.out 0
                  have hfz69_1 := blk_frozen BK129.out 1
                  have hcz70_0 : wc.cell? ⟨gb130, 0, none⟩ = some (.int .u32 a1_0) := (blk_cell BK130.out 0).trans rfl
                  have hcz70_1 : wc.cell? ⟨gb130, 1, none⟩ = some (.int .u32 a1_1) := (blk_cell BK130.out 1).trans rfl
                  have hfz70_0 := blk_frozen BK130.out 0
                  have hfz70_1 := blk_frozen BK130.out 1
                  go_wp2_with (first | (go_at_call 12; (with_reducible refine (consulatelaw16_stays.calls kj10 a0_0 a0_1 a1_0 a1_1 false 6 t138 _ A62.out).mono ?_); rintro e w71 ⟨rfl, hb⟩; have n0_ := Aside0.mk (blk_below (g := gb129) (o := .cells #[.int .u32 a0_0, .int .u32 a0_1] 26 (0, 0)) (by (with_reducible repeat (first | refine blk_drewN ?_ _ | refine blk_drew ?_ | refine blk_alloc ?_ _)); exact BK129.out) hb); have n1_ := Aside0.mk (blk_below (g := gb130) (o := .cells #[.int .u32 a1_0, .int .u32 a1_1] 26 (0, 0)) (by (with_reducible repeat (first | refine blk_drewN ?_ _ | refine blk_drew ?_ | refine blk_alloc ?_ _)); exact BK130.out) hb); have n2_ := Aside0.mk (below_step (by repeat (first | (with_reducible first | exact HB.out | apply below_alloc | apply pw_below_drewN | apply below_drew1 | refine below_set ?_ GE129.out | refine below_set ?_ GE130.out) | exact HB.out)) hb); clear BK129; clear BK130; clear HB; have BK129 := n0_; have BK130 := n1_; have HB := n2_; clear n0_ n1_ n2_; (try clear hb); (try clear hb2); (try clear hk); (try clear hi); have hcz72_0 : w71.cell? ⟨gb129, 0, none⟩ = some (.int .u32 a0_0) := (blk_cell BK129.out 0).trans rfl; have hcz72_1 : w71.cell? ⟨gb129, 1, none⟩ = some (.int .u32 a0_1) := (blk_cell BK129.out 1).trans rfl; have hfz72_0 := blk_frozen BK129.out 0; have hfz72_1 := blk_frozen BK129.out 1; have hcz73_0 : w71.cell? ⟨gb130, 0, none⟩ = some (.int .u32 a1_0) := (blk_cell BK130.out 0).trans rfl; have hcz73_1 : w71.cell? ⟨gb130, 1, none⟩ = some (.int .u32 a1_1) := (blk_cell BK130.out 1).trans rfl; have hfz73_0 := blk_frozen BK130.out 0; have hfz73_1 := blk_frozen BK130.out 1) | (go_at_call 12; (with_reducible refine (consulatelaw16_stays.calls kj10 a0_0 a0_1 a1_0 a1_1 false (wrap64 (1 + (wrap64 (Int.tmod a4 3)))) t139 _ A64.out).mono ?_); rintro e w74 ⟨rfl, hb⟩; have n0_ := Aside0.mk (blk_below (g := gb129) (o := .cells #[.int .u32 a0_0, .int .u32 a0_1] 26 (0, 0)) (by (with_reducible repeat (first | refine blk_drewN ?_ _ | refine blk_drew ?_ | refine blk_alloc ?_ _)); exact BK129.out) hb); have n1_ := Aside0.mk (blk_below (g := gb130) (o := .cells #[.int .u32 a1_0, .int .u32 a1_1] 26 (0, 0)) (by (with_reducible repeat (first | refine blk_drewN ?_ _ | refine blk_drew ?_ | refine blk_alloc ?_ _)); exact BK130.out) hb); have n2_ := Aside0.mk (below_step (by repeat (first | (with_reducible first | exact HB.out | apply below_alloc | apply pw_below_drewN | apply below_drew1 | refine below_set ?_ GE129.out | refine below_set ?_ GE130.out) | exact HB.out)) hb); clear BK129; clear BK130; clear HB; have BK129 := n0_; have BK130 := n1_; have HB := n2_; clear n0_ n1_ n2_; (try clear hb); (try clear hb2); (try clear hk); (try clear hi); have hcz75_0 : w74.cell? ⟨gb129, 0, none⟩ = some (.int .u32 a0_0) := (blk_cell BK129.out 0).trans rfl; have hcz75_1 : w74.cell? ⟨gb129, 1, none⟩ = some (.int .u32 a0_1) := (blk_cell BK129.out 1).trans rfl; have hfz75_0 := blk_frozen BK129.out 0; have hfz75_1 := blk_frozen BK129.out 1; have hcz76_0 : w74.cell? ⟨gb130, 0, none⟩ = some (.int .u32 a1_0) := (blk_cell BK130.out 0).trans rfl; have hcz76_1 : w74.cell? ⟨gb130, 1, none⟩ = some (.int .u32 a1_1) := (blk_cell BK130.out 1).trans rfl; have hfz76_0 := blk_frozen BK130.out 0; have hfz76_1 := blk_frozen BK130.out 1) | (go_at_call 11; (with_reducible refine (consulatelaw16_tells.calls kj10  t140 _ A67.out).mono ?_); rintro e w77 ⟨rfl, hb⟩; have n0_ := Aside0.mk (blk_below (g := gb129) (o := .cells #[.int .u32 a0_0, .int .u32 a0_1] 26 (0, 0)) (by (with_reducible repeat (first | refine blk_drewN ?_ _ | refine blk_drew ?_ | refine blk_alloc ?_ _)); exact BK129.out) hb); have n1_ := Aside0.mk (blk_below (g := gb130) (o := .cells #[.int .u32 a1_0, .int .u32 a1_1] 26 (0, 0)) (by (with_reducible repeat (first | refine blk_drewN ?_ _ | refine blk_drew ?_ | refine blk_alloc ?_ _)); exact BK130.out) hb); have n2_ := Aside0.mk (below_step (by repeat (first | (with_reducible first | exact HB.out | apply below_alloc | apply pw_below_drewN | apply below_drew1 | refine below_set ?_ GE129.out | refine below_set ?_ GE130.out) | exact HB.out)) hb); clear BK129; clear BK130; clear HB; have BK129 := n0_; have BK130 := n1_; have HB := n2_; clear n0_ n1_ n2_; (try clear hb); (try clear hb2); (try clear hk); (try clear hi)))
                  go_ret
                  exact ⟨by first | rfl | (simp [errW_none, errW_some] <;> rfl) | (simp [*, errW_none, errW_some] <;> rfl), by repeat (first | (with_reducible first | exact HB.out | apply below_alloc | apply pw_below_drewN | apply below_drew1 | refine below_set ?_ GE129.out | refine below_set ?_ GE130.out) | exact HB.out)⟩
                · rw [if_neg c66] at H
                  have c66b0 : ((x14_10 == 3) == (a0_0 == a1_0 && (a0_1 == a1_1))) = false := by simpa using c66
                  (try (have c66b1 : decide ((x14_10 == 3) = (a0_0 == a1_0 && (a0_1 == a1_1))) = false := by simpa using c66))
                  (try (have c66b2 : ((x14_10 == 3) == (a0_0 == a1_0 && (a0_1 == a1_1))) = false := by simpa using c66))
                  (try (have c66b3 : ¬ ((x14_10 == 3) = (a0_0 == a1_0 && (a0_1 == a1_1))) := by simpa using c66))
                  clear c66
                  obtain rfl := Option.some.inj H
                  have hnb78 := NB129_130.out
                  have hnc78 := NB130_129.out
                  have hcz79_0 : wc.cell? ⟨gb129, 0, none⟩ = some (.int .u32 a0_0) := (blk_cell BK129.out 0).trans rfl
                  have hcz79_1 : wc.cell? ⟨gb129, 1, none⟩ = some (.int .u32 a0_1) := (blk_cell BK129.out 1).trans rfl
                  have hfz79_0 := blk_frozen BK129.out 0
                  have hfz79_1 := blk_frozen BK129.out 1
                  have hcz80_0 : wc.cell? ⟨gb130, 0, none⟩ = some (.int .u32 a1_0) := (blk_cell BK130.out 0).trans rfl
                  have hcz80_1 : wc.cell? ⟨gb130, 1, none⟩ = some (.int .u32 a1_1) := (blk_cell BK130.out 1).trans rfl
                  have hfz80_0 := blk_frozen BK130.out 0
                  have hfz80_1 := blk_frozen BK130.out 1
                  go_wp2_with (first | (go_at_call 12; (with_reducible refine (consulatelaw16_stays.calls kj10 a0_0 a0_1 a1_0 a1_1 false 6 t138 _ A62.out).mono ?_); rintro e w81 ⟨rfl, hb⟩; have n0_ := Aside0.mk (blk_below (g := gb129) (o := .cells #[.int .u32 a0_0, .int .u32 a0_1] 26 (0, 0)) (by (with_reducible repeat (first | refine blk_drewN ?_ _ | refine blk_drew ?_ | refine blk_alloc ?_ _)); exact BK129.out) hb); have n1_ := Aside0.mk (blk_below (g := gb130) (o := .cells #[.int .u32 a1_0, .int .u32 a1_1] 26 (0, 0)) (by (with_reducible repeat (first | refine blk_drewN ?_ _ | refine blk_drew ?_ | refine blk_alloc ?_ _)); exact BK130.out) hb); have n2_ := Aside0.mk (below_step (by repeat (first | (with_reducible first | exact HB.out | apply below_alloc | apply pw_below_drewN | apply below_drew1 | refine below_set ?_ GE129.out | refine below_set ?_ GE130.out) | exact HB.out)) hb); clear BK129; clear BK130; clear HB; have BK129 := n0_; have BK130 := n1_; have HB := n2_; clear n0_ n1_ n2_; (try clear hb); (try clear hb2); (try clear hk); (try clear hi); have hcz82_0 : w81.cell? ⟨gb129, 0, none⟩ = some (.int .u32 a0_0) := (blk_cell BK129.out 0).trans rfl; have hcz82_1 : w81.cell? ⟨gb129, 1, none⟩ = some (.int .u32 a0_1) := (blk_cell BK129.out 1).trans rfl; have hfz82_0 := blk_frozen BK129.out 0; have hfz82_1 := blk_frozen BK129.out 1; have hcz83_0 : w81.cell? ⟨gb130, 0, none⟩ = some (.int .u32 a1_0) := (blk_cell BK130.out 0).trans rfl; have hcz83_1 : w81.cell? ⟨gb130, 1, none⟩ = some (.int .u32 a1_1) := (blk_cell BK130.out 1).trans rfl; have hfz83_0 := blk_frozen BK130.out 0; have hfz83_1 := blk_frozen BK130.out 1) | (go_at_call 12; (with_reducible refine (consulatelaw16_stays.calls kj10 a0_0 a0_1 a1_0 a1_1 false (wrap64 (1 + (wrap64 (Int.tmod a4 3)))) t139 _ A64.out).mono ?_); rintro e w84 ⟨rfl, hb⟩; have n0_ := Aside0.mk (blk_below (g := gb129) (o := .cells #[.int .u32 a0_0, .int .u32 a0_1] 26 (0, 0)) (by (with_reducible repeat (first | refine blk_drewN ?_ _ | refine blk_drew ?_ | refine blk_alloc ?_ _)); exact BK129.out) hb); have n1_ := Aside0.mk (blk_below (g := gb130) (o := .cells #[.int .u32 a1_0, .int .u32 a1_1] 26 (0, 0)) (by (with_reducible repeat (first | refine blk_drewN ?_ _ | refine blk_drew ?_ | refine blk_alloc ?_ _)); exact BK130.out) hb); have n2_ := Aside0.mk (below_step (by repeat (first | (with_reducible first | exact HB.out | apply below_alloc | apply pw_below_drewN | apply below_drew1 | refine below_set ?_ GE129.out | refine below_set ?_ GE130.out) | exact HB.out)) hb); clear BK129; clear BK130; clear HB; have BK129 := n0_; have BK130 := n1_; have HB := n2_; clear n0_ n1_ n2_; (try clear hb); (try clear hb2); (try clear hk); (try clear hi); have hcz85_0 : w84.cell? ⟨gb129, 0, none⟩ = some (.int .u32 a0_0) := (blk_cell BK129.out 0).trans rfl; have hcz85_1 : w84.cell? ⟨gb129, 1, none⟩ = some (.int .u32 a0_1) := (blk_cell BK129.out 1).trans rfl; have hfz85_0 := blk_frozen BK129.out 0; have hfz85_1 := blk_frozen BK129.out 1; have hcz86_0 : w84.cell? ⟨gb130, 0, none⟩ = some (.int .u32 a1_0) := (blk_cell BK130.out 0).trans rfl; have hcz86_1 : w84.cell? ⟨gb130, 1, none⟩ = some (.int .u32 a1_1) := (blk_cell BK130.out 1).trans rfl; have hfz86_0 := blk_frozen BK130.out 0; have hfz86_1 := blk_frozen BK130.out 1))
                  go_ret
                  exact ⟨by first | rfl | (simp [errW_none, errW_some] <;> rfl) | (simp [*, errW_none, errW_some] <;> rfl), by repeat (first | (with_reducible first | exact HB.out | apply below_alloc | apply pw_below_drewN | apply below_drew1 | refine below_set ?_ GE129.out | refine below_set ?_ GE130.out) | exact HB.out)⟩
              · rw [if_neg c65] at H
                have c65b0 : (t139 == 0) = false := beq_eq_false_iff_ne.mpr c65
                have c65b1 : (t139 != 0) = true := bne_iff_ne.mpr c65
                obtain rfl := Option.some.inj H
                have hnb87 := NB129_130.out
                have hnc87 := NB130_129.out
                have hcz88_0 : wc.cell? ⟨gb129, 0, none⟩ = some (.int .u32 a0_0) := (blk_cell BK129.out 0).trans rfl
                have hcz88_1 : wc.cell? ⟨gb129, 1, none⟩ = some (.int .u32 a0_1) := (blk_cell BK129.out 1).trans rfl
                have hfz88_0 := blk_frozen BK129.out 0
                have hfz88_1 := blk_frozen BK129.out 1
                have hcz89_0 : wc.cell? ⟨gb130, 0, none⟩ = some (.int .u32 a1_0) := (blk_cell BK130.out 0).trans rfl
                have hcz89_1 : wc.cell? ⟨gb130, 1, none⟩ = some (.int .u32 a1_1) := (blk_cell BK130.out 1).trans rfl
                have hfz89_0 := blk_frozen BK130.out 0
                have hfz89_1 := blk_frozen BK130.out 1
                go_wp2_with (first | (go_at_call 12; (with_reducible refine (consulatelaw16_stays.calls kj10 a0_0 a0_1 a1_0 a1_1 false 6 t138 _ A62.out).mono ?_); rintro e w90 ⟨rfl, hb⟩; have n0_ := Aside0.mk (blk_below (g := gb129) (o := .cells #[.int .u32 a0_0, .int .u32 a0_1] 26 (0, 0)) (by (with_reducible repeat (first | refine blk_drewN ?_ _ | refine blk_drew ?_ | refine blk_alloc ?_ _)); exact BK129.out) hb); have n1_ := Aside0.mk (blk_below (g := gb130) (o := .cells #[.int .u32 a1_0, .int .u32 a1_1] 26 (0, 0)) (by (with_reducible repeat (first | refine blk_drewN ?_ _ | refine blk_drew ?_ | refine blk_alloc ?_ _)); exact BK130.out) hb); have n2_ := Aside0.mk (below_step (by repeat (first | (with_reducible first | exact HB.out | apply below_alloc | apply pw_below_drewN | apply below_drew1 | refine below_set ?_ GE129.out | refine below_set ?_ GE130.out) | exact HB.out)) hb); clear BK129; clear BK130; clear HB; have BK129 := n0_; have BK130 := n1_; have HB := n2_; clear n0_ n1_ n2_; (try clear hb); (try clear hb2); (try clear hk); (try clear hi); have hcz91_0 : w90.cell? ⟨gb129, 0, none⟩ = some (.int .u32 a0_0) := (blk_cell BK129.out 0).trans rfl; have hcz91_1 : w90.cell? ⟨gb129, 1, none⟩ = some (.int .u32 a0_1) := (blk_cell BK129.out 1).trans rfl; have hfz91_0 := blk_frozen BK129.out 0; have hfz91_1 := blk_frozen BK129.out 1; have hcz92_0 : w90.cell? ⟨gb130, 0, none⟩ = some (.int .u32 a1_0) := (blk_cell BK130.out 0).trans rfl; have hcz92_1 : w90.cell? ⟨gb130, 1, none⟩ = some (.int .u32 a1_1) := (blk_cell BK130.out 1).trans rfl; have hfz92_0 := blk_frozen BK130.out 0; have hfz92_1 := blk_frozen BK130.out 1) | (go_at_call 12; (with_reducible refine (consulatelaw16_stays.calls kj10 a0_0 a0_1 a1_0 a1_1 false (wrap64 (1 + (wrap64 (Int.tmod a4 3)))) t139 _ A64.out).mono ?_); rintro e w93 ⟨rfl, hb⟩; have n0_ := Aside0.mk (blk_below (g := gb129) (o := .cells #[.int .u32 a0_0, .int .u32 a0_1] 26 (0, 0)) (by (with_reducible repeat (first | refine blk_drewN ?_ _ | refine blk_drew ?_ | refine blk_alloc ?_ _)); exact BK129.out) hb); have n1_ := Aside0.mk (blk_below (g := gb130) (o := .cells #[.int .u32 a1_0, .int .u32 a1_1] 26 (0, 0)) (by (with_reducible repeat (first | refine blk_drewN ?_ _ | refine blk_drew ?_ | refine blk_alloc ?_ _)); exact BK130.out) hb); have n2_ := Aside0.mk (below_step (by repeat (first | (with_reducible first | exact HB.out | apply below_alloc | apply pw_below_drewN | apply below_drew1 | refine below_set ?_ GE129.out | refine below_set ?_ GE130.out) | exact HB.out)) hb); clear BK129; clear BK130; clear HB; have BK129 := n0_; have BK130 := n1_; have HB := n2_; clear n0_ n1_ n2_; (try clear hb); (try clear hb2); (try clear hk); (try clear hi)))
                go_ret
                exact ⟨by first | rfl | (simp [errW_none, errW_some] <;> rfl) | (simp [*, errW_none, errW_some] <;> rfl), by repeat (first | (with_reducible first | exact HB.out | apply below_alloc | apply pw_below_drewN | apply below_drew1 | refine below_set ?_ GE129.out | refine below_set ?_ GE130.out) | exact HB.out)⟩
            · rw [if_neg c63] at H
              have c63b0 : (t138 == 2) = false := beq_eq_false_iff_ne.mpr c63
              have c63b1 : (t138 != 2) = true := bne_iff_ne.mpr c63
              obtain rfl := Option.some.inj H
              have hnb94 := NB129_130.out
              have hnc94 := NB130_129.out
              have hcz95_0 : wc.cell? ⟨gb129, 0, none⟩ = some (.int .u32 a0_0) := (blk_cell BK129.out 0).trans rfl
              have hcz95_1 : wc.cell? ⟨gb129, 1, none⟩ = some (.int .u32 a0_1) := (blk_cell BK129.out 1).trans rfl
              have hfz95_0 := blk_frozen BK129.out 0
              have hfz95_1 := blk_frozen BK129.out 1
              have hcz96_0 : wc.cell? ⟨gb130, 0, none⟩ = some (.int .u32 a1_0) := (blk_cell BK130.out 0).trans rfl
              have hcz96_1 : wc.cell? ⟨gb130, 1, none⟩ = some (.int .u32 a1_1) := (blk_cell BK130.out 1).trans rfl
              have hfz96_0 := blk_frozen BK130.out 0
              have hfz96_1 := blk_frozen BK130.out 1
              go_wp2_with (first | (go_at_call 12; (with_reducible refine (consulatelaw16_stays.calls kj10 a0_0 a0_1 a1_0 a1_1 false 6 t138 _ A62.out).mono ?_); rintro e w97 ⟨rfl, hb⟩; have n0_ := Aside0.mk (blk_below (g := gb129) (o := .cells #[.int .u32 a0_0, .int .u32 a0_1] 26 (0, 0)) (by (with_reducible repeat (first | refine blk_drewN ?_ _ | refine blk_drew ?_ | refine blk_alloc ?_ _)); exact BK129.out) hb); have n1_ := Aside0.mk (blk_below (g := gb130) (o := .cells #[.int .u32 a1_0, .int .u32 a1_1] 26 (0, 0)) (by (with_reducible repeat (first | refine blk_drewN ?_ _ | refine blk_drew ?_ | refine blk_alloc ?_ _)); exact BK130.out) hb); have n2_ := Aside0.mk (below_step (by repeat (first | (with_reducible first | exact HB.out | apply below_alloc | apply pw_below_drewN | apply below_drew1 | refine below_set ?_ GE129.out | refine below_set ?_ GE130.out) | exact HB.out)) hb); clear BK129; clear BK130; clear HB; have BK129 := n0_; have BK130 := n1_; have HB := n2_; clear n0_ n1_ n2_; (try clear hb); (try clear hb2); (try clear hk); (try clear hi)))
              go_ret
              exact ⟨by first | rfl | (simp [errW_none, errW_some] <;> rfl) | (simp [*, errW_none, errW_some] <;> rfl), by repeat (first | (with_reducible first | exact HB.out | apply below_alloc | apply pw_below_drewN | apply below_drew1 | refine below_set ?_ GE129.out | refine below_set ?_ GE130.out) | exact HB.out)⟩
          · rw [if_neg c61] at H
            have c61b0 : (t131 == x14_10) = false := beq_eq_false_iff_ne.mpr c61
            have c61b1 : (t131 != x14_10) = true := bne_iff_ne.mpr c61
            obtain rfl := Option.some.inj H
            go_wp2
            go_ret
            exact ⟨by first | rfl | (simp [errW_none, errW_some] <;> rfl) | (simp [*, errW_none, errW_some] <;> rfl), by repeat (first | (with_reducible first | exact HB.out | apply below_alloc | apply pw_below_drewN | apply below_drew1 | refine below_set ?_ GE129.out | refine below_set ?_ GE130.out) | exact HB.out)⟩
  · rw [if_neg c9] at H
    have c9b0 : (t131 == t133) = false := beq_eq_false_iff_ne.mpr c9
    have c9b1 : (t131 != t133) = true := bne_iff_ne.mpr c9
    obtain rfl := Option.some.inj H
    go_enter Try.func4, Try.ntmps4
    try go_wp2_with (first | ((with_reducible refine gate_dst (N := 5) rfl ?_); refine box_event ?hg (N := 5) ?hd (cs := #[.int .u32 a0_0, .int .u32 a0_1]) (t := 26) ?hr ?_; (case hd => rfl); (case hg => rfl); (case hr => first | (go_simp; done) | (go_simp; rfl)); intro gb129 hg w98 hbox hb; have n0_ := Aside0.mk (below_step (by repeat (first | (with_reducible first | exact HB.out | apply below_alloc | apply pw_below_drewN | apply below_drew1) | exact HB.out)) hb); have n1_ := Aside0.mk (hbox); have n2_ := Aside0.mk ((by rw [hg]; exact (below_size (by repeat (first | (with_reducible first | exact HB.out | apply below_alloc | apply pw_below_drewN | apply below_drew1) | exact HB.out))) : w.heap.size ≤ gb129)); have n3_ := Aside0.mk ((by rw [hg]; exact (below_size (by repeat (first | (with_reducible first | exact HB.out | apply below_alloc | apply pw_below_drewN | apply below_drew1) | exact HB.out))) : w.heap.size ≤ gb129)); clear HB; have HB := n0_; have BK129 := n1_; have GW129 := n2_; have GE129 := n3_; clear n0_ n1_ n2_ n3_; clear hb hbox hg) | ((with_reducible refine gate_dst (N := 6) rfl ?_); refine box_event ?hg (N := 6) ?hd (cs := #[.int .u32 a1_0, .int .u32 a1_1]) (t := 26) ?hr ?_; (case hd => rfl); (case hg => rfl); (case hr => first | (go_simp; done) | (go_simp; rfl)); intro gb130 hg w99 hbox hb; have n0_ := Aside0.mk (blk_below (g := gb129) (o := .cells #[.int .u32 a0_0, .int .u32 a0_1] 26 (0, 0)) (by (with_reducible repeat (first | refine blk_drewN ?_ _ | refine blk_drew ?_ | refine blk_alloc ?_ _)); exact BK129.out) hb); have n1_ := Aside0.mk (below_step (by repeat (first | (with_reducible first | exact HB.out | apply below_alloc | apply pw_below_drewN | apply below_drew1 | refine below_set ?_ GE129.out) | exact HB.out)) hb); have n2_ := Aside0.mk (hbox); have n3_ := Aside0.mk ((by rw [hg]; exact (below_size (by repeat (first | (with_reducible first | exact HB.out | apply below_alloc | apply pw_below_drewN | apply below_drew1 | refine below_set ?_ GE129.out) | exact HB.out))) : w.heap.size ≤ gb130)); have n4_ := Aside0.mk ((by rw [hg]; exact (below_size (by repeat (first | (with_reducible first | exact HB.out | apply below_alloc | apply pw_below_drewN | apply below_drew1 | refine below_set ?_ GE129.out) | exact HB.out))) : w.heap.size ≤ gb130)); have n5_ := Aside0.mk ((by rw [hg]; exact Nat.ne_of_lt (blk_lt (g := gb129) (o := .cells #[.int .u32 a0_0, .int .u32 a0_1] 26 (0, 0)) (by (with_reducible repeat (first | refine blk_drewN ?_ _ | refine blk_drew ?_ | refine blk_alloc ?_ _)); exact BK129.out)) : gb129 ≠ gb130)); have n6_ := Aside0.mk ((by rw [hg]; exact Nat.ne_of_gt (blk_lt (g := gb129) (o := .cells #[.int .u32 a0_0, .int .u32 a0_1] 26 (0, 0)) (by (with_reducible repeat (first | refine blk_drewN ?_ _ | refine blk_drew ?_ | refine blk_alloc ?_ _)); exact BK129.out)) : gb130 ≠ gb129)); clear BK129; clear HB; have BK129 := n0_; have HB := n1_; have BK130 := n2_; have GW130 := n3_; have GE130 := n4_; have NB129_130 := n5_; have NB130_129 := n6_; clear n0_ n1_ n2_ n3_ n4_ n5_ n6_; clear hb hbox hg))
    have n0_ := Aside0.mk (blk_drew BK129.out)
    have n1_ := Aside0.mk (blk_drew BK130.out)
    have n2_ := Aside0.mk (below_drew1 HB.out)
    clear BK129
    clear BK130
    clear HB
    have BK129 := n0_
    have BK130 := n1_
    have HB := n2_
    clear n0_ n1_ n2_
    refine start_ (n := 12) (S := fun w' => w'.cell? ⟨gb129, 0, none⟩ = some (.int .u32 a0_0) ∧ w'.cell? ⟨gb129, 1, none⟩ = some (.int .u32 a0_1) ∧ w'.cell? ⟨gb130, 0, none⟩ = some (.int .u32 a1_0) ∧ w'.cell? ⟨gb130, 1, none⟩ = some (.int .u32 a1_1)) (ds := []) #[false, false, false, false, false, false, false, false, false, false, false, false] (by kernel_rfl) rfl rfl ⟨(blk_cell BK129.out 0).trans rfl, (blk_cell BK129.out 1).trans rfl, (blk_cell BK130.out 0).trans rfl, (blk_cell BK130.out 1).trans rfl⟩ (fun hHeld => ?_); refine with_tabW consulatelaw16_ClashAgrees.tab2 consulatelaw16_ClashAgrees.bits2 (fun HT_ HW_ => ?_)
    generalize w99.drew = w100 at BK129 BK130 HB hHeld ⊢
    refine pure_ (i := 2) (N := some 23) (v := ?_) (a' := ?_) #[false, false, true, false, false, false, false, false, false, false, false, false] rfl rfl (any_of HT_.out (by kernel_rfl)) (fun _ _ _ h => h) (Or.inl ⟨by rfl, ?_⟩) ?_ ?_
    rotate_left
    · intro w'
      go_simp
      with_reducible rfl
    rotate_left
    · simp only [Act.put, List.setIfInBounds_toArray, List.set_cons_zero, List.set_cons_succ, i64_w, i32_w]
      rfl
    refine pure_ (i := 3) (N := some 24) (v := ?_) (a' := ?_) #[false, false, true, true, false, false, false, false, false, false, false, false] rfl rfl (any_of HT_.out (by kernel_rfl)) (fun _ _ _ h => h) (Or.inl ⟨by rfl, ?_⟩) ?_ ?_
    rotate_left
    · intro w'
      go_simp
      with_reducible rfl
    rotate_left
    · simp only [Act.put, List.setIfInBounds_toArray, List.set_cons_zero, List.set_cons_succ, i64_w, i32_w]
      rfl
    refine pure_ (i := 7) (N := some 28) (v := ?_) (a' := ?_) #[false, false, true, true, false, false, false, true, false, false, false, false] rfl rfl (any_of HT_.out (by kernel_rfl)) (fun _ _ _ h => h) (Or.inl ⟨by rfl, ?_⟩) ?_ ?_
    rotate_left
    · intro w'
      go_simp
      with_reducible rfl
    rotate_left
    · simp only [Act.put, List.setIfInBounds_toArray, List.set_cons_zero, List.set_cons_succ, i64_w, i32_w]
      rfl
    refine pure_ (i := 8) (N := some 29) (v := ?_) (a' := ?_) #[false, false, true, true, false, false, false, true, true, false, false, false] rfl rfl (any_of HT_.out (by kernel_rfl)) (fun _ _ _ h => h) (Or.inl ⟨by rfl, ?_⟩) ?_ ?_
    rotate_left
    · intro w'
      go_simp
      with_reducible rfl
    rotate_left
    · simp only [Act.put, List.setIfInBounds_toArray, List.set_cons_zero, List.set_cons_succ, i64_w, i32_w]
      rfl
    refine take_ (i := 0) (N := some 21) (v := ?_) (a' := ?_) #[true, false, true, true, false, false, false, true, true, false, false, false] rfl rfl (take_ofW HT_.out HW_.out (by kernel_rfl)) (fun _ _ _ h => h) (Or.inl ⟨by rfl, ?_⟩) hHeld ?_ ?_
    rotate_left
    · rintro w' ⟨s0, s1, s2, s3⟩
      go_simp
      with_reducible rfl
    rotate_left
    · simp only [Act.put, List.setIfInBounds_toArray, List.set_cons_zero, List.set_cons_succ, i64_w, i32_w]
      rfl
    refine take_ (i := 1) (N := some 22) (v := ?_) (a' := ?_) #[true, true, true, true, false, false, false, true, true, false, false, false] rfl rfl (take_ofW HT_.out HW_.out (by kernel_rfl)) (fun _ _ _ h => h) (Or.inl ⟨by rfl, ?_⟩) hHeld ?_ ?_
    rotate_left
    · rintro w' ⟨s0, s1, s2, s3⟩
      go_simp
      with_reducible rfl
    rotate_left
    · simp only [Act.put, List.setIfInBounds_toArray, List.set_cons_zero, List.set_cons_succ, i64_w, i32_w]
      rfl
    refine take_ (i := 5) (N := some 26) (v := ?_) (a' := ?_) #[true, true, true, true, false, true, false, true, true, false, false, false] rfl rfl (take_ofW HT_.out HW_.out (by kernel_rfl)) (fun _ _ _ h => h) (Or.inl ⟨by rfl, ?_⟩) hHeld ?_ ?_
    rotate_left
    · rintro w' ⟨s0, s1, s2, s3⟩
      go_simp
      with_reducible rfl
    rotate_left
    · simp only [Act.put, List.setIfInBounds_toArray, List.set_cons_zero, List.set_cons_succ, i64_w, i32_w]
      rfl
    refine take_ (i := 6) (N := some 27) (v := ?_) (a' := ?_) #[true, true, true, true, false, true, true, true, true, false, false, false] rfl rfl (take_ofW HT_.out HW_.out (by kernel_rfl)) (fun _ _ _ h => h) (Or.inl ⟨by rfl, ?_⟩) hHeld ?_ ?_
    rotate_left
    · rintro w' ⟨s0, s1, s2, s3⟩
      go_simp
      with_reducible rfl
    rotate_left
    · simp only [Act.put, List.setIfInBounds_toArray, List.set_cons_zero, List.set_cons_succ, i64_w, i32_w]
      rfl
    refine one_ (i := 4) (N := some 25) #[true, true, true, true, true, true, true, true, true, false, false, false] rfl rfl (one_of HT_.out (by kernel_rfl)) (by decide) (fun K hK => ?_)
    refine goes_ Try.func12 (by kernel_rfl) rfl #[.agg #[.int .u32 a0_0, .int .u32 a0_1], .agg #[.int .u32 a1_0, .int .u32 a1_1], .bool a2, .int .i64 (wrap64 (4 + (wrap64 (Int.tmod a4 2))))] (by rfl) rfl rfl (by (try simp only [List.map_toArray, List.map_cons, List.map_nil]); first | done | rfl | (simp only [List.length_drop, List.length_take]; rfl)) ?_
    with_reducible refine (consulatelaw16_stays.calls k a0_0 a0_1 a1_0 a1_1 a2 (wrap64 (4 + (wrap64 (Int.tmod a4 2)))) t131 _ A6.out).mono ?_
    rintro e w101 ⟨rfl, hb⟩
    refine ⟨_, rfl, ?_⟩
    have n0_ := Aside0.mk (blk_below (g := gb129) (o := .cells #[.int .u32 a0_0, .int .u32 a0_1] 26 (0, 0)) (by (with_reducible repeat (first | refine blk_drewN ?_ _ | refine blk_drew ?_ | refine blk_alloc ?_ _)); exact BK129.out) hb)
    have n1_ := Aside0.mk (blk_below (g := gb130) (o := .cells #[.int .u32 a1_0, .int .u32 a1_1] 26 (0, 0)) (by (with_reducible repeat (first | refine blk_drewN ?_ _ | refine blk_drew ?_ | refine blk_alloc ?_ _)); exact BK130.out) hb)
    have n2_ := Aside0.mk (below_step (by repeat (first | (with_reducible first | exact HB.out | apply below_alloc | apply pw_below_drewN | apply below_drew1 | refine below_set ?_ GE129.out | refine below_set ?_ GE130.out) | exact HB.out)) hb)
    clear BK129
    clear BK130
    clear HB
    have BK129 := n0_
    have BK130 := n1_
    have HB := n2_
    clear n0_ n1_ n2_
    (try clear hb)
    (try clear hb2)
    (try clear hk)
    (try clear hi)
    refine hK.out _ _ ⟨(blk_cell BK129.out 0).trans rfl, (blk_cell BK129.out 1).trans rfl, (blk_cell BK130.out 0).trans rfl, (blk_cell BK130.out 1).trans rfl⟩ (fun hHeld => ?_)
    clear hK K
    refine norm_ (a' := ?_) ?_ ?_
    rotate_left
    · show Act.put _ (some 25) _ = _
      simp only [Act.put, List.setIfInBounds_toArray, List.set_cons_zero, List.set_cons_succ, i64_w, i32_w]
      rfl
    refine one_ (i := 9) (N := some 30) #[true, true, true, true, true, true, true, true, true, true, false, false] rfl rfl (one_of HT_.out (by kernel_rfl)) (by decide) (fun K hK => ?_)
    refine goes_ Try.func12 (by kernel_rfl) rfl #[.agg #[.int .u32 a1_0, .int .u32 a1_1], .agg #[.int .u32 a0_0, .int .u32 a0_1], .bool a3, .int .i64 (wrap64 (4 + (wrap64 (Int.tmod a4 2))))] (by rfl) rfl rfl (by (try simp only [List.map_toArray, List.map_cons, List.map_nil]); first | done | rfl | (simp only [List.length_drop, List.length_take]; rfl)) ?_
    with_reducible refine (consulatelaw16_stays.calls k a1_0 a1_1 a0_0 a0_1 a3 (wrap64 (4 + (wrap64 (Int.tmod a4 2)))) t132 _ A7.out).mono ?_
    rintro e w102 ⟨rfl, hb⟩
    refine ⟨_, rfl, ?_⟩
    have n0_ := Aside0.mk (blk_below (g := gb129) (o := .cells #[.int .u32 a0_0, .int .u32 a0_1] 26 (0, 0)) (by (with_reducible repeat (first | refine blk_drewN ?_ _ | refine blk_drew ?_ | refine blk_alloc ?_ _)); exact BK129.out) hb)
    have n1_ := Aside0.mk (blk_below (g := gb130) (o := .cells #[.int .u32 a1_0, .int .u32 a1_1] 26 (0, 0)) (by (with_reducible repeat (first | refine blk_drewN ?_ _ | refine blk_drew ?_ | refine blk_alloc ?_ _)); exact BK130.out) hb)
    have n2_ := Aside0.mk (below_step (by repeat (first | (with_reducible first | exact HB.out | apply below_alloc | apply pw_below_drewN | apply below_drew1 | refine below_set ?_ GE129.out | refine below_set ?_ GE130.out) | exact HB.out)) hb)
    clear BK129
    clear BK130
    clear HB
    have BK129 := n0_
    have BK130 := n1_
    have HB := n2_
    clear n0_ n1_ n2_
    (try clear hb)
    (try clear hb2)
    (try clear hk)
    (try clear hi)
    refine hK.out _ _ ⟨(blk_cell BK129.out 0).trans rfl, (blk_cell BK129.out 1).trans rfl, (blk_cell BK130.out 0).trans rfl, (blk_cell BK130.out 1).trans rfl⟩ (fun hHeld => ?_)
    clear hK K
    refine norm_ (a' := ?_) ?_ ?_
    rotate_left
    · show Act.put _ (some 30) _ = _
      simp only [Act.put, List.setIfInBounds_toArray, List.set_cons_zero, List.set_cons_succ, i64_w, i32_w]
      rfl
    refine pure_ (i := 10) (N := some 12) (v := ?_) (a' := ?_) #[true, true, true, true, true, true, true, true, true, true, true, false] rfl rfl (any_of HT_.out (by kernel_rfl)) (fun _ _ _ h => h) (Or.inl ⟨by rfl, ?_⟩) ?_ ?_
    rotate_left
    · intro w'
      go_simp
      with_reducible rfl
    rotate_left
    · simp only [Act.put, List.setIfInBounds_toArray, List.set_cons_zero, List.set_cons_succ, i64_w, i32_w]
      rfl
    refine pure_ (i := 11) (N := some 13) (v := ?_) (a' := ?_) #[true, true, true, true, true, true, true, true, true, true, true, true] rfl rfl (any_of HT_.out (by kernel_rfl)) (fun _ _ _ h => h) (Or.inl ⟨by rfl, ?_⟩) ?_ ?_
    rotate_left
    · intro w'
      go_simp
      with_reducible rfl
    rotate_left
    · simp only [Act.put, List.setIfInBounds_toArray, List.set_cons_zero, List.set_cons_succ, i64_w, i32_w]
      rfl
    refine done_ (done_of HT_.out (by kernel_rfl)) ?_
    try go_wp2_with (first | ((with_reducible refine gate_callee (f := 13) rfl ?_); refine goesL_ (some 33) rfl rfl Try.func13 (by kernel_rfl) rfl #[.int .i64 t132] rfl (by (try simp only [List.map_toArray, List.map_cons, List.map_nil]); first | done | rfl | (simp only [List.length_drop, List.length_take]; rfl)) ?_; (with_reducible refine (consulatelaw16_turned.calls t132 t133 _ A8.out).mono ?_); rintro e w' ⟨rfl, ⟨nd, rfl⟩⟩; refine ⟨_, rfl, ?_⟩))
    go_ret
    exact ⟨by first | rfl | (simp [errW_none, errW_some] <;> rfl) | (simp [*, errW_none, errW_some] <;> rfl), by repeat (first | (with_reducible first | exact HB.out | apply below_alloc | apply pw_below_drewN | apply below_drew1 | refine below_set ?_ GE129.out | refine below_set ?_ GE130.out) | exact HB.out)⟩

end Go.Proofs.Ytldfpoacjcjnjaa.PClashAgrees
