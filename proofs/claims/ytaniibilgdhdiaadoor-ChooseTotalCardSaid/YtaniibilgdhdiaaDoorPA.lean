/- Chapter 21: what Compare answers. -/
import Derived.Test.YtaniibilgdhdiaaDoorF7
namespace Go.Proofs.YtaniibilgdhdiaaDoor.PA
open Go Go.Proofs Go.Proofs.YtaniibilgdhdiaaDoor.Sx
set_option linter.unusedSimpArgs false
set_option linter.unusedVariables false
/-- One number ahead of another. -/
def c3 (x y : Int) : Int := if x < y then -1 else if y < x then 1 else 0
def cls (n : Int) : Int := if n = 0 then 0 else if n = 3 then 1 else if n = 2 then 2 else if n = 1 then 2 else 3
theorem c3_lt {x y : Int} (h : x < y) : c3 x y = -1 := if_pos h
theorem c3_gt {x y : Int} (h : y < x) : c3 x y = 1 := by unfold c3; rw [if_neg (by omega), if_pos h]
theorem c3_eq {x : Int} : c3 x x = 0 := by unfold c3; rw [if_neg (by omega), if_neg (by omega)]
theorem c3_0 {x y : Int} (h : c3 x y = 0) : x = y := by
  unfold c3 at h
  split at h
  · cases h
  · split at h
    · cases h
    · omega
theorem c3_neg (x y : Int) : c3 y x = - c3 x y := by
  unfold c3
  repeat' split
  all_goals first | rfl | omega
theorem cmp16 (x y : Int) : F20.f (x, y) = some (c3 x y, ()) := by
  show F20.fP _ = _
  unfold F20.fP c3
  have e1 : (x != x) = false := by simp
  have e2 : (y != y) = false := by simp
  simp only [e1, e2, cond_false]
  by_cases h : x < y
  · rw [decide_eq_true h, if_pos h]; rfl
  · rw [decide_eq_false h, if_neg h]
    by_cases h2 : y < x
    · rw [decide_eq_true (show x > y from h2), if_pos h2]; rfl
    · rw [decide_eq_false (show ¬ x > y from h2), if_neg h2]; rfl
theorem cmp17 (x y : Int) : F21.f (x, y) = some (c3 x y, ()) := cmp16 x y
theorem cmp18 (x y : Int) : F22.f (x, y) = some (c3 x y, ()) := cmp16 x y
theorem cmp20 (x y : Int) : F24.f (x, y) = some (c3 x y, ()) := cmp16 x y
theorem cmp21 (x y : Int) : F25.f (x, y) = some (c3 x y, ()) := cmp16 x y
theorem clsF (n : Int) : F23.f n = some (cls n, ()) := by
  show F23.fP _ = _
  unfold F23.fP cls
  by_cases h0 : n = 0
  · subst h0; rfl
  by_cases h3 : n = 3
  · subst h3; rfl
  by_cases h2 : n = 2
  · subst h2; rfl
  by_cases h1 : n = 1
  · subst h1; rfl
  rw [if_neg h0, if_neg h3, if_neg h2, if_neg h1, beq_eq_false_iff_ne.2 h0, beq_eq_false_iff_ne.2 h3, beq_eq_false_iff_ne.2 h2, beq_eq_false_iff_ne.2 h1]
  rfl
abbrev Cand := Int × Int × Int × Int × Int × Int × Int × Int × Int
/-- The first that differs. -/
def fst : List (Int × Int) → Int × Int
  | [] => (0, 0)
  | (o, k) :: l => if o = 0 then fst l else (o, k)
def parts (med : Bool) (a b : Cand) : List (Int × Int) :=
  [(c3 b.1 a.1, 1), (c3 a.2.1 b.2.1, 2), (c3 a.2.2.1 b.2.2.1, 3), (if med = true ∧ a.2.2.2.2.1 = b.2.2.2.2.1 then c3 a.2.2.2.1 b.2.2.2.1 else 0, 4),
   (c3 (cls a.2.2.2.2.2.1) (cls b.2.2.2.2.2.1), 5), (c3 a.2.2.2.2.2.2.1 b.2.2.2.2.2.2.1, 6), (c3 a.2.2.2.2.2.2.2.1 b.2.2.2.2.2.2.2.1, 7), (c3 a.2.2.2.2.2.2.2.2 b.2.2.2.2.2.2.2.2, 8)]
def cmp (med : Bool) (a b : Cand) : Int × Int := fst (parts med a b)
theorem bne0 (o : Int) {α : Type} (x y : α) : (bif o != 0 then x else y) = if o = 0 then y else x := by
  by_cases h : o = 0
  · subst h; rfl
  · rw [if_neg h, show (o != 0) = true from by simpa using h]; rfl
theorem ite_some (c : Prop) [Decidable c] (x y : Int × Int) : (if c then some (x, ()) else some (y, ())) = some (if c then x else y, ()) := by split <;> rfl
theorem compare (a b : Cand) (med : Bool) : F7.f (a, b, med) = some (cmp med a b, ()) := by
  obtain ⟨a0, a1, a2, a3, a4, a5, a6, a7, a8⟩ := a
  obtain ⟨b0, b1, b2, b3, b4, b5, b6, b7, b8⟩ := b
  show F7.fP _ _ _ _ _ _ _ = _
  unfold F7.fP
  simp only [cmp16, cmp17, cmp18, cmp20, cmp21, clsF, Option.bind_some, bne0]
  unfold cmp parts
  simp only [fst]
  cases med with
  | false => simp only [Bool.not_false, cond_true, Bool.false_eq_true, false_and, if_false, if_true, ite_some]
  | true =>
    simp only [Bool.not_true, cond_false]
    by_cases h4 : a4 = b4
    · subst h4
      have e : (a4 != a4) = false := by simp
      simp only [e, cond_false, true_and, if_true, ite_some]
    · have e : (a4 != b4) = true := by simpa using h4
      simp only [e, cond_true, true_and, if_neg h4, if_true, ite_some]
end Go.Proofs.YtaniibilgdhdiaaDoor.PA
