/- Chapter 29: the net's calls at any link of four. -/
import Derived.Test.YteoiaihjapddoaaPE
import Derived.Test.YteoiaihjapddoaaF17
import Derived.Test.YteoiaihjapddoaaF18
namespace Go.Proofs.Yteoiaihjapddoaa.PH
open Go Go.Proofs Go.Proofs.Yteoiaihjapddoaa.Sx
set_option linter.unusedSimpArgs false
set_option linter.unusedVariables false
abbrev Lk := Bool × Int × List Int × List Int
/-- Link k of four is x. -/
structure At (ls : List Lk) (k : Int) (x : Lk) : Prop where
  len : ls.length = 4
  k0 : 0 ≤ k
  k4 : k < 4
  get : ls.getD (0 + k.toNat) (false, 0, [], []) = x
theorem take_all {α : Type} (l : List α) : List.take l.length (List.drop 0 l) = l := by simp
theorem le_all (n : Nat) : decide (0 + n ≤ n) = true := decide_eq_true (by omega)
theorem setC {ls : List Lk} {i : Nat} {y : Lk} : decide (0 + ls.length ≤ (ls.set i y).length) = true := decide_eq_true (by rw [List.length_set]; omega)
theorem setT {ls : List Lk} {i : Nat} {y : Lk} : List.take ls.length (List.drop 0 (ls.set i y)) = ls.set i y := by
  rw [List.drop_zero, List.take_of_length_le (by rw [List.length_set]; exact Nat.le_refl _)]
section
variable {ls : List Lk} {k : Int} {x : Lk} (h : At ls k x)
include h
theorem n0 : decide (k < 0) = false := decide_eq_false (by have := h.k0; omega)
theorem n1 : decide (k ≥ (ls.length : Int)) = false := decide_eq_false (by have := h.len; have := h.k4; omega)
theorem n2 : decide (0 ≤ k ∧ k < (ls.length : Int) ∧ 0 < ls.length) = true := decide_eq_true (by have := h.len; have := h.k4; have := h.k0; omega)
theorem n3 : decide (0 + k.toNat < ls.length) = true := decide_eq_true (by have := h.len; have := h.k4; have := h.k0; omega)
theorem put (y : Lk) : At (ls.set (0 + k.toNat) y) k y := by
  have := h.len; have := h.k4; have := h.k0
  refine ⟨by rw [List.length_set]; exact h.len, h.k0, h.k4, ?_⟩
  rw [List.getD, List.getElem?_set_self (by omega)]
  rfl
theorem other {j : Int} {z : Lk} (hz : At ls j z) (hj : j ≠ k) (y : Lk) : At (ls.set (0 + k.toNat) y) j z := by
  have := h.k0; have := hz.k0
  refine ⟨by rw [List.length_set]; exact h.len, hz.k0, hz.k4, ?_⟩
  rw [List.getD, List.getElem?_set_ne (by omega), ← List.getD]
  exact hz.get
end
section
variable {ls : List Lk} {k : Int} {up : Bool} {t : Int} {q0 q1 : List Int} (h : At ls k (up, t, q0, q1))
include h
theorem f10 : F10.f ((ls, true), k) = some (0, ls.set (0 + k.toNat) (true, t, q0, q1), true) := by
  show F10.fP _ = _
  unfold F10.fP
  simp only [Bool.not_true, cond_false, cond_true, n0 h, n1 h, n2 h, n3 h, h.get, le_all, take_all, Bool.and_true, setC, setT]
theorem f17 : F17.f ((ls, true), k) = some (up, ls.set (0 + k.toNat) (up, t, q0, q1), true) := by
  show F17.fP _ = _
  unfold F17.fP
  simp only [Bool.not_true, cond_false, cond_true, n0 h, n1 h, n2 h, n3 h, h.get, le_all, take_all, Bool.and_true, setC, setT]
theorem f18 : F18.f ((ls, true), k) = some (t, ls.set (0 + k.toNat) (up, t, q0, q1), true) := by
  show F18.fP _ = _
  unfold F18.fP
  simp only [Bool.not_true, cond_false, cond_true, n0 h, n1 h, n2 h, n3 h, h.get, le_all, take_all, Bool.and_true, setC, setT]
theorem f12a : F12.f ((ls, true), k, 0) = some ((q0.length : Int), ls.set (0 + k.toNat) (up, t, q0, q1), true) := by
  show F12.fP _ = _
  unfold F12.fP
  simp only [Bool.not_true, cond_false, cond_true, n0 h, n1 h, n2 h, n3 h, h.get, le_all, take_all, Bool.and_true, setC, setT, bne_self_eq_false, show decide ((0 : Int) ≤ 0 ∧ (0 : Int) < 2) = true from rfl, show (0 : Int).toNat.beq 0 = true from rfl]
theorem f12b : F12.f ((ls, true), k, 1) = some ((q1.length : Int), ls.set (0 + k.toNat) (up, t, q0, q1), true) := by
  show F12.fP _ = _
  unfold F12.fP
  simp only [Bool.not_true, cond_false, cond_true, n0 h, n1 h, n2 h, n3 h, h.get, le_all, take_all, Bool.and_true, setC, setT, bne_self_eq_false, show ((1 : Int) != 0) = true from rfl, show decide ((0 : Int) ≤ 1 ∧ (1 : Int) < 2) = true from rfl, show (1 : Int).toNat.beq 0 = false from rfl, show (1 : Int).toNat.beq 1 = true from rfl]
theorem f15 (ht : 0 ≤ t ∧ t ≤ 1000) : F15.f ((ls, true), k) = some (if up then (0, ls.set (0 + k.toNat) (false, t + 1, [], []), true) else (10, ls.set (0 + k.toNat) (up, t, q0, q1), true)) := by
  show F15.fP _ = _
  unfold F15.fP
  have w : IntKind.i64.wrap (t + 1) = t + 1 := IntWalk.i64_in _ (by omega)
  cases up
  · simp only [Bool.not_true, Bool.not_false, cond_false, cond_true, n0 h, n1 h, n2 h, n3 h, h.get, le_all, take_all, Bool.and_true, setC, setT]
    rfl
  · simp only [Bool.not_true, Bool.not_false, cond_false, cond_true, n0 h, n1 h, n2 h, n3 h, h.get, le_all, take_all, Bool.and_true, setC, setT, w]
    rfl
end
theorem setT' {ls : List Lk} {i : Nat} {y : Lk} : List.take ls.length (ls.set i y) = ls.set i y :=
  List.take_of_length_le (by rw [List.length_set]; exact Nat.le_refl _)
section
variable {ls : List Lk} {k : Int} {up : Bool} {t : Int} {q0 q1 : List Int} (h : At ls k (up, t, q0, q1))
include h
/-! what is refused -/
theorem f11x {e : Int} (h0 : e ≠ 0) (h1 : e ≠ 1) (b : List Int) : F11.f ((ls, true), k, e, b) = some (1, ls.set (0 + k.toNat) (up, t, q0, q1), true) := by
  show F11.fP _ = _
  unfold F11.fP
  have c0 : (e != 0) = true := by simpa using h0
  have c1 : (e != 1) = true := by simpa using h1
  simp only [Bool.not_true, cond_false, cond_true, n0 h, n1 h, n2 h, n3 h, h.get, le_all, take_all, Bool.and_true, setC, setT, c0, c1]
theorem f13x {e : Int} (m : Int) (hx : e ≠ 0 ∧ e ≠ 1 ∨ (e = 0 ∨ e = 1) ∧ m < 0) : F13.f ((ls, true), k, e, m) = some (([], 1), ls.set (0 + k.toNat) (up, t, q0, q1), true) := by
  show F13.fP F28.f _ = _
  unfold F13.fP
  rcases hx with ⟨h0, h1⟩ | ⟨rfl | rfl, hm⟩
  · have c0 : (e != 0) = true := by simpa using h0
    have c1 : (e != 1) = true := by simpa using h1
    simp only [Bool.not_true, cond_false, cond_true, n0 h, n1 h, n2 h, n3 h, h.get, le_all, take_all, Bool.and_true, setC, setT, c0, c1]
  · have c : decide (m ≥ 0) = false := decide_eq_false (by omega)
    simp only [Bool.not_true, Bool.not_false, cond_false, cond_true, n0 h, n1 h, n2 h, n3 h, h.get, le_all, take_all, Bool.and_true, setC, setT, c, bne_self_eq_false]
  · have c : decide (m ≥ 0) = false := decide_eq_false (by omega)
    simp only [Bool.not_true, Bool.not_false, cond_false, cond_true, n0 h, n1 h, n2 h, n3 h, h.get, le_all, take_all, Bool.and_true, setC, setT, c, bne_self_eq_false, show ((1 : Int) != 0) = true from rfl]
end
section
variable {ls : List Lk} {k : Int} {t : Int} {q0 q1 : List Int}
theorem f11d (h : At ls k (false, t, q0, q1)) {e : Int} (he : e = 0 ∨ e = 1) (b : List Int) : F11.f ((ls, true), k, e, b) = some (10, ls.set (0 + k.toNat) (false, t, q0, q1), true) := by
  show F11.fP _ = _
  unfold F11.fP
  rcases he with rfl | rfl <;> simp only [Bool.not_true, Bool.not_false, cond_false, cond_true, n0 h, n1 h, n2 h, n3 h, h.get, le_all, take_all, Bool.and_true, setC, setT, bne_self_eq_false, show ((1 : Int) != 0) = true from rfl]
theorem f13d (h : At ls k (false, t, q0, q1)) {e m : Int} (he : e = 0 ∨ e = 1) (hm : 0 ≤ m) : F13.f ((ls, true), k, e, m) = some (([], 10), ls.set (0 + k.toNat) (false, t, q0, q1), true) := by
  show F13.fP F28.f _ = _
  unfold F13.fP
  have c : decide (m ≥ 0) = true := decide_eq_true (by omega)
  rcases he with rfl | rfl <;> simp only [Bool.not_true, Bool.not_false, cond_false, cond_true, n0 h, n1 h, n2 h, n3 h, h.get, le_all, take_all, Bool.and_true, setC, setT, c, bne_self_eq_false, show ((1 : Int) != 0) = true from rfl]
theorem f11a (h : At ls k (true, t, q0, q1)) (b : List Int) (l0 : q0.length ≤ 1073741824) (l1 : b.length ≤ 1073741824) : F11.f ((ls, true), k, 1, b) =
    some (if q0.length + b.length > 16384 then (7, ls.set (0 + k.toNat) (true, t, q0, q1), true) else (0, ls.set (0 + k.toNat) (true, t, q0 ++ b, q1), true)) := by
  show F11.fP _ = _
  unfold F11.fP
  have hw : IntKind.i64.wrap ((q0.length : Int) + (b.length : Int)) = (q0.length : Int) + (b.length : Int) := IntWalk.i64_in _ (by omega)
  have hz : IntKind.i64.wrap (1 - 1) = 0 := by decide
  have ht : List.take (q0.length + b.length) (List.drop 0 (q0 ++ b)) = q0 ++ b := by rw [List.drop_zero, List.take_of_length_le (by simp)]
  have c6 : decide (0 + (q0.length + b.length) ≤ (q0 ++ b).length) = true := decide_eq_true (by rw [List.length_append]; omega)
  simp only [Bool.not_true, cond_false, cond_true, n0 h, n1 h, n2 h, n3 h, h.get, le_all, take_all, List.take_length, Bool.and_true, setC, setT, bne_self_eq_false, show ((1 : Int) != 0) = true from rfl, hz, hw, show decide ((0 : Int) ≤ 0 ∧ (0 : Int) < 2) = true from rfl, show (0 : Int).toNat.beq 0 = true from rfl, ht, c6]
  by_cases c : q0.length + b.length > 16384
  · rw [decide_eq_true (show (q0.length : Int) + (b.length : Int) > 16384 by omega), if_pos c]
    rfl
  · rw [decide_eq_false (show ¬ (q0.length : Int) + (b.length : Int) > 16384 by omega), if_neg c, decide_eq_true (show q0.length + b.length ≤ 1073741824 by omega)]
    rfl
theorem f11b (h : At ls k (true, t, q0, q1)) (b : List Int) (l0 : q1.length ≤ 1073741824) (l1 : b.length ≤ 1073741824) : F11.f ((ls, true), k, 0, b) =
    some (if q1.length + b.length > 16384 then (7, ls.set (0 + k.toNat) (true, t, q0, q1), true) else (0, ls.set (0 + k.toNat) (true, t, q0, q1 ++ b), true)) := by
  show F11.fP _ = _
  unfold F11.fP
  have hw : IntKind.i64.wrap ((q1.length : Int) + (b.length : Int)) = (q1.length : Int) + (b.length : Int) := IntWalk.i64_in _ (by omega)
  have hz : IntKind.i64.wrap (1 - 0) = 1 := by decide
  have ht : List.take (q1.length + b.length) (List.drop 0 (q1 ++ b)) = q1 ++ b := by rw [List.drop_zero, List.take_of_length_le (by simp)]
  have c6 : decide (0 + (q1.length + b.length) ≤ (q1 ++ b).length) = true := decide_eq_true (by rw [List.length_append]; omega)
  simp only [Bool.not_true, cond_false, cond_true, n0 h, n1 h, n2 h, n3 h, h.get, le_all, take_all, List.take_length, Bool.and_true, setC, setT, bne_self_eq_false, hz, hw, show decide ((0 : Int) ≤ 1 ∧ (1 : Int) < 2) = true from rfl, show (1 : Int).toNat.beq 0 = false from rfl, show (1 : Int).toNat.beq 1 = true from rfl, ht, c6]
  by_cases c : q1.length + b.length > 16384
  · rw [decide_eq_true (show (q1.length : Int) + (b.length : Int) > 16384 by omega), if_pos c]
    rfl
  · rw [decide_eq_false (show ¬ (q1.length : Int) + (b.length : Int) > 16384 by omega), if_neg c, decide_eq_true (show q1.length + b.length ≤ 1073741824 by omega)]
    rfl
end
end Go.Proofs.Yteoiaihjapddoaa.PH
