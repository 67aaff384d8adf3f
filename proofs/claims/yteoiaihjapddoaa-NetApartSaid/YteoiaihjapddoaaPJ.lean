/- Chapter 29: a call at a link does the same in all nets; links apart. -/
import Derived.Test.YteoiaihjapddoaaPI
import Derived.Test.YteoiaihjapddoaaZP
import Derived.Test.YteoiaihjapddoaaZK
namespace Go.Proofs.Yteoiaihjapddoaa.PJ
open Go Go.Proofs Go.Proofs.Yteoiaihjapddoaa.Sx Go.Proofs.Yteoiaihjapddoaa.PH Go.Proofs.Yteoiaihjapddoaa.PI
set_option linter.unusedSimpArgs false
set_option linter.unusedVariables false
theorem sends {x : Lk} {n : Int} (w : Well x n) (e : Int) {b : List Int} (hb : b.length ≤ 300) :
    ∃ y, Well y (n + 1) ∧ ∀ (ls : List Lk) (k : Int), At ls k x → ∃ a, F11.f ((ls, true), k, e, b) = some (a, ls.set (0 + k.toNat) y, true) := by
  obtain ⟨up, t, q0, q1⟩ := x
  have l0 := w.l0; have l1 := w.l1; simp only at l0 l1
  by_cases he : e = 0 ∨ e = 1
  · cases up with
    | false => exact ⟨_, w.more, fun ls k h => ⟨_, f11d h he b⟩⟩
    | true =>
      rcases he with rfl | rfl
      · by_cases c : q1.length + b.length > 16384
        · exact ⟨_, w.more, fun ls k h => ⟨7, by rw [f11b h b (by omega) (by omega), if_pos c]⟩⟩
        · exact ⟨(true, t, q0, q1 ++ b), ⟨w.more.t0, w.l0, by show (q1 ++ b).length ≤ _; rw [List.length_append]; omega⟩, fun ls k h => ⟨0, by rw [f11b h b (by omega) (by omega), if_neg c]⟩⟩
      · by_cases c : q0.length + b.length > 16384
        · exact ⟨_, w.more, fun ls k h => ⟨7, by rw [f11a h b (by omega) (by omega), if_pos c]⟩⟩
        · exact ⟨(true, t, q0 ++ b, q1), ⟨w.more.t0, by show (q0 ++ b).length ≤ _; rw [List.length_append]; omega, w.l1⟩, fun ls k h => ⟨0, by rw [f11a h b (by omega) (by omega), if_neg c]⟩⟩
  · exact ⟨_, w.more, fun ls k h => ⟨1, f11x h (fun q => he (.inl q)) (fun q => he (.inr q)) b⟩⟩
theorem delivers {x : Lk} {n : Int} (w : Well x n) (e m : Int) :
    ∃ got y, Well y (n + 1) ∧ List.length got ≤ 16384 ∧ ∀ (ls : List Lk) (k : Int), At ls k x → ∃ a, F13.f ((ls, true), k, e, m) = some ((got, a), ls.set (0 + k.toNat) y, true) := by
  obtain ⟨up, t, q0, q1⟩ := x
  have l0 := w.l0; have l1 := w.l1; simp only at l0 l1
  by_cases he : e = 0 ∨ e = 1
  · by_cases hm : 0 ≤ m
    · cases up with
      | false => exact ⟨_, _, w.more, by simp, fun ls k h => ⟨_, f13d h he hm⟩⟩
      | true =>
        rcases he with rfl | rfl
        · exact ⟨q0.take m.toNat, (true, t, q0.drop m.toNat, q1), ⟨w.more.t0, by show (q0.drop _).length ≤ _; rw [List.length_drop]; omega, w.l1⟩, by rw [List.length_take]; omega, fun ls k h => ⟨0, f13a h m l0 hm⟩⟩
        · exact ⟨q1.take m.toNat, (true, t, q0, q1.drop m.toNat), ⟨w.more.t0, w.l0, by show (q1.drop _).length ≤ _; rw [List.length_drop]; omega⟩, by rw [List.length_take]; omega, fun ls k h => ⟨0, f13b h m l1 hm⟩⟩
    · exact ⟨[], _, w.more, by simp, fun ls k h => ⟨1, f13x h m (.inr ⟨he, by omega⟩)⟩⟩
  · exact ⟨[], _, w.more, by simp, fun ls k h => ⟨1, f13x h m (.inl ⟨fun q => he (.inl q), fun q => he (.inr q)⟩)⟩⟩
theorem does {x : Lk} {n : Int} (w : Well x n) (hn : n ≤ 1000) (what e m : Int) {b : List Int} (hb : b.length ≤ 300) : Does what e m b x n := by
  have unf : ∀ a0 k a4 (g : List Int × List Int) (ls : List Lk) j, F4.l1 ((a0, k, e, m, a4), b, j, what) (g, (ls, true)) = F4.r1P F9.f F10.f F15.f F11.f F13.f F16.f F12.f F17.f F18.f ((a0, k, e, m, a4), b, j, what) (g, (ls, true)) := fun _ _ _ _ _ _ => rfl
  by_cases s : what = 3 ∨ what = 4 ∨ what = 5
  · obtain ⟨y, wy, hy⟩ := sends w e hb
    refine ⟨[], y, wy, by simp, fun ls k a0 a4 j g0 g1 h hj h0 h1 => ?_⟩
    obtain ⟨a, q⟩ := hy ls k h
    rw [unf]
    unfold F4.r1P
    rcases s with rfl | rfl | rfl
    all_goals simp only [q, Option.bind_some, le_all, List.take_length, Bool.and_true, cond_true, cond_false, beq_self_eq_true, show ((3 : Int) == 1) = false from rfl, show ((3 : Int) == 2) = false from rfl, show ((4 : Int) == 1) = false from rfl, show ((4 : Int) == 2) = false from rfl, show ((4 : Int) == 3) = false from rfl, show ((5 : Int) == 1) = false from rfl, show ((5 : Int) == 2) = false from rfl, show ((5 : Int) == 3) = false from rfl, show ((5 : Int) == 4) = false from rfl]
    all_goals rfl
  by_cases d : what = 6 ∨ what = 7 ∨ what = 8
  · obtain ⟨got, y, wy, lg, hy⟩ := delivers w e m
    refine ⟨got, y, wy, lg, fun ls k a0 a4 j g0 g1 h hj h0 h1 => ?_⟩
    obtain ⟨a, q⟩ := hy ls k h
    rw [unf]
    unfold F4.r1P
    rcases d with rfl | rfl | rfl
    all_goals rcases hj with rfl | rfl
    all_goals simp only [q, Option.bind_some, le_all, take_all, List.take_length, Bool.and_true, cond_true, cond_false, beq_self_eq_true, show decide ((0 : Int) ≤ 0 ∧ (0 : Int) < 2) = true from rfl, show decide ((0 : Int) ≤ 1 ∧ (1 : Int) < 2) = true from rfl, show (0 : Int).toNat.beq 0 = true from rfl, show (1 : Int).toNat.beq 0 = false from rfl, show (1 : Int).toNat.beq 1 = true from rfl,
      show ((6 : Int) == 1) = false from rfl, show ((6 : Int) == 2) = false from rfl, show ((6 : Int) == 3) = false from rfl, show ((6 : Int) == 4) = false from rfl, show ((6 : Int) == 5) = false from rfl,
      show ((7 : Int) == 1) = false from rfl, show ((7 : Int) == 2) = false from rfl, show ((7 : Int) == 3) = false from rfl, show ((7 : Int) == 4) = false from rfl, show ((7 : Int) == 5) = false from rfl, show ((7 : Int) == 6) = false from rfl,
      show ((8 : Int) == 1) = false from rfl, show ((8 : Int) == 2) = false from rfl, show ((8 : Int) == 3) = false from rfl, show ((8 : Int) == 4) = false from rfl, show ((8 : Int) == 5) = false from rfl, show ((8 : Int) == 6) = false from rfl, show ((8 : Int) == 7) = false from rfl]
    all_goals rfl
  obtain ⟨up, t, q0, q1⟩ := x
  by_cases u : what = 1
  · subst u
    refine ⟨[], (true, t, q0, q1), ⟨w.more.t0, w.l0, w.l1⟩, by simp, fun ls k a0 a4 j g0 g1 h hj h0 h1 => ?_⟩
    rw [unf]
    unfold F4.r1P
    simp only [beq_self_eq_true, cond_true, f10 h, Option.bind_some]
    rfl
  by_cases c : what = 2
  · subst c
    refine ⟨[], if up then (false, t + 1, [], []) else (up, t, q0, q1), ?_, by simp, fun ls k a0 a4 j g0 g1 h hj h0 h1 => ?_⟩
    · cases up
      · exact w.more
      · exact ⟨⟨by have := w.t0.1; show 0 ≤ t + 1; simp only at this; omega, by have := w.t0.2; show t + 1 ≤ n + 1; simp only at this; omega⟩, by simp, by simp⟩
    rw [unf]
    unfold F4.r1P
    have := w.t0
    simp only [show ((2 : Int) == 1) = false from rfl, cond_false, beq_self_eq_true, cond_true, f15 h (by simp only at this; omega), Option.bind_some]
    cases up <;> rfl
  · refine ⟨[], (up, t, q0, q1), w.more, by simp, fun ls k a0 a4 j g0 g1 h hj h0 h1 => ?_⟩
    rw [unf]
    unfold F4.r1P
    rw [if_neg d, if_neg (by omega)]
    simp only [beq_eq_false_iff_ne.2 u, beq_eq_false_iff_ne.2 c, beq_eq_false_iff_ne.2 (show what ≠ 3 by omega), beq_eq_false_iff_ne.2 (show what ≠ 4 by omega), beq_eq_false_iff_ne.2 (show what ≠ 5 by omega), beq_eq_false_iff_ne.2 (show what ≠ 6 by omega), beq_eq_false_iff_ne.2 (show what ≠ 7 by omega), beq_eq_false_iff_ne.2 (show what ≠ 8 by omega), cond_false]
end Go.Proofs.Yteoiaihjapddoaa.PJ
