/- Chapter 29: the net's calls, at a net of one link. -/
import Derived.Test.YteoiaihjapddoaaX1
import Derived.IntWalk
import Derived.Test.YteoiaihjapddoaaX2
import Derived.Test.YteoiaihjapddoaaZP
import Derived.Test.YteoiaihjapddoaaX3
import Derived.Test.YteoiaihjapddoaaX4
import Derived.Test.YteoiaihjapddoaaX5
import Derived.Test.YteoiaihjapddoaaZK
namespace Go.Proofs.Yteoiaihjapddoaa.PA
open Go Go.Proofs
set_option linter.unusedSimpArgs false
set_option linter.unusedVariables false
theorem f9 : F9.f ([], true) = some ((0, 0), [(false, 0, [], [])], true) := by
  show F9.fP _ = _
  unfold F9.fP
  simp
  decide
theorem f10 (up : Bool) (t : Int) (q0 q1 : List Int) : F10.f (([(up, t, q0, q1)], true), 0) = some (0, [(true, t, q0, q1)], true) := by
  show F10.fP _ = _
  unfold F10.fP
  simp
theorem f12a (up : Bool) (t : Int) (q0 q1 : List Int) : F12.f (([(up, t, q0, q1)], true), 0, 0) = some ((q0.length : Int), [(up, t, q0, q1)], true) := by
  show F12.fP _ = _
  unfold F12.fP
  simp
theorem f12b (up : Bool) (t : Int) (q0 q1 : List Int) : F12.f (([(up, t, q0, q1)], true), 0, 1) = some ((q1.length : Int), [(up, t, q0, q1)], true) := by
  show F12.fP _ = _
  unfold F12.fP
  simp
  rfl
theorem wrap_len {n : Int} (h : 0 ≤ n ∧ n ≤ 4611686018427387904) : IntKind.i64.wrap n = n := IntWalk.i64_in n (by omega)
/-- Sending from end 1: the bytes wait for end 0, if they fit. -/
theorem f11 (t : Int) (q0 q1 b : List Int) (h0 : q0.length ≤ 1073741824) (h1 : b.length ≤ 1073741824) : F11.f (([(true, t, q0, q1)], true), 0, 1, b) =
    some (if q0.length + b.length > 16384 then (7, [(true, t, q0, q1)], true) else (0, [(true, t, q0 ++ b, q1)], true)) := by
  show F11.fP _ = _
  unfold F11.fP
  have hw : IntKind.i64.wrap ((q0.length : Int) + (b.length : Int)) = (q0.length : Int) + (b.length : Int) := wrap_len (by omega)
  have hz : IntKind.i64.wrap 0 = 0 := by decide
  have hb : Nat.beq 0 0 = true := rfl
  have ht : List.take (q0.length + b.length) (q0 ++ b) = q0 ++ b := List.take_of_length_le (by simp)
  by_cases h : q0.length + b.length > 16384
  · have c1 : decide (IntKind.i64.wrap ((q0.length : Int) + (b.length : Int)) > 16384) = true := by rw [hw]; simp; omega
    simp [c1, h, hz, hb, ht]
  · have c1 : decide (IntKind.i64.wrap ((q0.length : Int) + (b.length : Int)) > 16384) = false := by rw [hw]; simp; omega
    have c2 : q0.length + b.length ≤ 1073741824 := by omega
    simp [c1, h, c2, hz, hb, ht]
theorem clone (l : List Int) (h : l.length ≤ 1073741824) : F28.f l = some (l, ()) := by
  show (if 0 < l.length then F28.fP l else some ([], ())) = _
  by_cases h0 : 0 < l.length
  · rw [if_pos h0]
    unfold F28.fP
    simp [h0, h]
  · rw [if_neg h0]
    have : l = [] := List.eq_nil_of_length_eq_zero (by omega)
    rw [this]
end Go.Proofs.Yteoiaihjapddoaa.PA

/- Chapter 29: what is delivered at end 0. -/
namespace Go.Proofs.Yteoiaihjapddoaa.PB
open Go Go.Proofs Go.Proofs.Yteoiaihjapddoaa.PA
set_option linter.unusedSimpArgs false
set_option linter.unusedVariables false
set_option maxHeartbeats 4000000 in
theorem f13 (t : Int) (q0 q1 : List Int) (many : Int) (h0 : q0.length ≤ 16384) (hm : 0 ≤ many) :
    F13.f (([(true, t, q0, q1)], true), 0, 0, many) = some ((q0.take many.toNat, 0), [(true, t, q0.drop many.toNat, q1)], true) := by
  show F13.fP F28.f _ = _
  unfold F13.fP
  have hb : Nat.beq 0 0 = true := rfl
  have c0 : decide (many ≥ 0) = true := by simpa using hm
  have d0 : decide ((0 : Int) ≥ 0) = true := rfl
  have e0 : ((0 : Int) != 0) = false := rfl
  have e1 : decide ((0 : Int) < 0) = false := rfl
  have c3 : decide ((0 : Int) ≥ 1) = false := rfl
  simp only [Bool.not_true, cond_false, cond_true, e0, e1, c0, List.length_cons, List.length_nil, Nat.zero_add, c3, Int.toNat_zero, Nat.add_zero, List.getD_cons_zero, List.set_cons_zero, Nat.le_refl, decide_true, Bool.and_self, List.take_length, List.drop_zero, hb]
  generalize hmm : (if (q0.length : Int) < many then (q0.length : Int) else many) = m
  have m0 : 0 ≤ m ∧ m ≤ q0.length := by rw [← hmm]; split <;> omega
  have ht : q0.take many.toNat = q0.take m.toNat := by
    rw [← hmm]
    split
    · rw [List.take_of_length_le (by omega), List.take_of_length_le (by omega)]
    · rfl
  have hd : q0.drop many.toNat = q0.drop m.toNat := by
    rw [← hmm]
    split
    · rw [List.drop_of_length_le (by omega), List.drop_of_length_le (by omega)]
    · rfl
  rw [ht, hd]
  have n1 : m.toNat ≤ q0.length := by omega
  have n2 : m.toNat + ((q0.length : Int) - m).toNat = q0.length := by omega
  have k1 : List.take ((q0.length : Int) - m).toNat (List.drop m.toNat q0) = List.drop m.toNat q0 := List.take_of_length_le (by rw [List.length_drop]; omega)
  have cl := clone (List.drop m.toNat q0) (by rw [List.length_drop]; omega)
  have cn := clone [] (by simp)
  have hle : decide (m ≤ (q0.length : Int)) = true := by simpa using m0.2
  have hge : decide ((0 : Int) ≤ m) = true := by simpa using m0.1
  by_cases hm1 : m = (q0.length : Int)
  · have hdr : List.drop m.toNat q0 = [] := List.drop_of_length_le (by omega)
    rw [hdr]
    simp [hm1, cn]
  · simp [hm1, m0.1, m0.2, n1, n2, k1, cl]
end Go.Proofs.Yteoiaihjapddoaa.PB

/- Chapter 29: the net's calls at any link of any. -/
namespace Go.Proofs.Yteoiaihjapddoaa.PM
open Go Go.Proofs Go.Proofs.Yteoiaihjapddoaa.Sx
set_option linter.unusedSimpArgs false
set_option linter.unusedVariables false
abbrev Lk := Bool × Int × List Int × List Int
/-- Link k is x. -/
structure At (ls : List Lk) (k : Int) (x : Lk) : Prop where
  k0 : 0 ≤ k
  k4 : k < (ls.length : Int)
  get : ls.getD (0 + k.toNat) (false, 0, [], []) = x
theorem take_all {α : Type} (l : List α) : List.take l.length (List.drop 0 l) = l := by simp
theorem le_all (n : Nat) : decide (0 + n ≤ n) = true := decide_eq_true (by omega)
theorem setC {ls : List Lk} {i : Nat} {y : Lk} : decide (0 + ls.length ≤ (ls.set i y).length) = true := decide_eq_true (by rw [List.length_set]; omega)
theorem setT {ls : List Lk} {i : Nat} {y : Lk} : List.take ls.length (List.drop 0 (ls.set i y)) = ls.set i y := by
  rw [List.drop_zero, List.take_of_length_le (by rw [List.length_set]; exact Nat.le_refl _)]
section
variable {ls : List Lk} {k : Int} {x : Lk} (h : At ls k x)
include h
theorem n0 : decide (k < 0) = false := decide_eq_false (by have := h.k0; omega)
theorem n1 : decide (k ≥ (ls.length : Int)) = false := decide_eq_false (by have := h.k4; omega)
theorem n2 : decide (0 ≤ k ∧ k < (ls.length : Int) ∧ 0 < ls.length) = true := decide_eq_true (by have := h.k4; have := h.k0; omega)
theorem n3 : decide (0 + k.toNat < ls.length) = true := decide_eq_true (by have := h.k4; have := h.k0; omega)
theorem put (y : Lk) : At (ls.set (0 + k.toNat) y) k y := by
  have := h.k4; have := h.k0
  refine ⟨h.k0, by rw [List.length_set]; exact h.k4, ?_⟩
  rw [List.getD, List.getElem?_set_self (by omega)]
  rfl
theorem put_same : ls.set (0 + k.toNat) x = ls := by
  have := h.k4; have := h.k0
  have hlt : 0 + k.toNat < ls.length := by omega
  refine List.ext_getElem? fun j => ?_
  rw [List.getElem?_set]
  split
  · rename_i e
    subst e
    have := h.get
    rw [List.getD_eq_getElem?_getD] at this
    cases hx : ls[0 + k.toNat]? with
    | none => rw [List.getElem?_eq_none_iff] at hx; omega
    | some y => rw [hx] at this; simp at this; rw [this]
  · rfl
theorem other {j : Int} {z : Lk} (hz : At ls j z) (hj : j ≠ k) (y : Lk) : At (ls.set (0 + k.toNat) y) j z := by
  have := h.k0; have := hz.k0
  refine ⟨hz.k0, by rw [List.length_set]; exact hz.k4, ?_⟩
  rw [List.getD, List.getElem?_set_ne (by omega), ← List.getD]
  exact hz.get
end
section
variable {ls : List Lk} {k : Int} {up : Bool} {t : Int} {q0 q1 : List Int} (h : At ls k (up, t, q0, q1))
include h
theorem f10 : F10.f ((ls, true), k) = some (0, ls.set (0 + k.toNat) (true, t, q0, q1), true) := by
  show F10.fP _ = _
  unfold F10.fP
  simp only [Bool.not_true, cond_false, cond_true, n0 h, n1 h, n2 h, n3 h, h.get, le_all, take_all, Bool.and_true, setC, setT]
theorem f17 : F17.f ((ls, true), k) = some (up, ls.set (0 + k.toNat) (up, t, q0, q1), true) := by
  show F17.fP _ = _
  unfold F17.fP
  simp only [Bool.not_true, cond_false, cond_true, n0 h, n1 h, n2 h, n3 h, h.get, le_all, take_all, Bool.and_true, setC, setT]
theorem f18 : F18.f ((ls, true), k) = some (t, ls.set (0 + k.toNat) (up, t, q0, q1), true) := by
  show F18.fP _ = _
  unfold F18.fP
  simp only [Bool.not_true, cond_false, cond_true, n0 h, n1 h, n2 h, n3 h, h.get, le_all, take_all, Bool.and_true, setC, setT]
theorem f12a : F12.f ((ls, true), k, 0) = some ((q0.length : Int), ls.set (0 + k.toNat) (up, t, q0, q1), true) := by
  show F12.fP _ = _
  unfold F12.fP
  simp only [Bool.not_true, cond_false, cond_true, n0 h, n1 h, n2 h, n3 h, h.get, le_all, take_all, Bool.and_true, setC, setT, bne_self_eq_false, show decide ((0 : Int) ≤ 0 ∧ (0 : Int) < 2) = true from rfl, show (0 : Int).toNat.beq 0 = true from rfl]
theorem f12b : F12.f ((ls, true), k, 1) = some ((q1.length : Int), ls.set (0 + k.toNat) (up, t, q0, q1), true) := by
  show F12.fP _ = _
  unfold F12.fP
  simp only [Bool.not_true, cond_false, cond_true, n0 h, n1 h, n2 h, n3 h, h.get, le_all, take_all, Bool.and_true, setC, setT, bne_self_eq_false, show ((1 : Int) != 0) = true from rfl, show decide ((0 : Int) ≤ 1 ∧ (1 : Int) < 2) = true from rfl, show (1 : Int).toNat.beq 0 = false from rfl, show (1 : Int).toNat.beq 1 = true from rfl]
theorem f15 (ht : 0 ≤ t ∧ t ≤ 1000) : F15.f ((ls, true), k) = some (if up then (0, ls.set (0 + k.toNat) (false, t + 1, [], []), true) else (10, ls.set (0 + k.toNat) (up, t, q0, q1), true)) := by
  show F15.fP _ = _
  unfold F15.fP
  have w : IntKind.i64.wrap (t + 1) = t + 1 := IntWalk.i64_in _ (by omega)
  cases up
  · simp only [Bool.not_true, Bool.not_false, cond_false, cond_true, n0 h, n1 h, n2 h, n3 h, h.get, le_all, take_all, Bool.and_true, setC, setT]
    rfl
  · simp only [Bool.not_true, Bool.not_false, cond_false, cond_true, n0 h, n1 h, n2 h, n3 h, h.get, le_all, take_all, Bool.and_true, setC, setT, w]
    rfl
end
theorem setT' {ls : List Lk} {i : Nat} {y : Lk} : List.take ls.length (ls.set i y) = ls.set i y :=
  List.take_of_length_le (by rw [List.length_set]; exact Nat.le_refl _)
section
variable {ls : List Lk} {k : Int} {up : Bool} {t : Int} {q0 q1 : List Int} (h : At ls k (up, t, q0, q1))
include h
/-! what is refused -/
theorem f11x {e : Int} (h0 : e ≠ 0) (h1 : e ≠ 1) (b : List Int) : F11.f ((ls, true), k, e, b) = some (1, ls.set (0 + k.toNat) (up, t, q0, q1), true) := by
  show F11.fP _ = _
  unfold F11.fP
  have c0 : (e != 0) = true := by simpa using h0
  have c1 : (e != 1) = true := by simpa using h1
  simp only [Bool.not_true, cond_false, cond_true, n0 h, n1 h, n2 h, n3 h, h.get, le_all, take_all, Bool.and_true, setC, setT, c0, c1]
theorem f13x {e : Int} (m : Int) (hx : e ≠ 0 ∧ e ≠ 1 ∨ (e = 0 ∨ e = 1) ∧ m < 0) : F13.f ((ls, true), k, e, m) = some (([], 1), ls.set (0 + k.toNat) (up, t, q0, q1), true) := by
  show F13.fP F28.f _ = _
  unfold F13.fP
  rcases hx with ⟨h0, h1⟩ | ⟨rfl | rfl, hm⟩
  · have c0 : (e != 0) = true := by simpa using h0
    have c1 : (e != 1) = true := by simpa using h1
    simp only [Bool.not_true, cond_false, cond_true, n0 h, n1 h, n2 h, n3 h, h.get, le_all, take_all, Bool.and_true, setC, setT, c0, c1]
  · have c : decide (m ≥ 0) = false := decide_eq_false (by omega)
    simp only [Bool.not_true, Bool.not_false, cond_false, cond_true, n0 h, n1 h, n2 h, n3 h, h.get, le_all, take_all, Bool.and_true, setC, setT, c, bne_self_eq_false]
  · have c : decide (m ≥ 0) = false := decide_eq_false (by omega)
    simp only [Bool.not_true, Bool.not_false, cond_false, cond_true, n0 h, n1 h, n2 h, n3 h, h.get, le_all, take_all, Bool.and_true, setC, setT, c, bne_self_eq_false, show ((1 : Int) != 0) = true from rfl]
end
section
variable {ls : List Lk} {k : Int} {t : Int} {q0 q1 : List Int}
theorem f11d (h : At ls k (false, t, q0, q1)) {e : Int} (he : e = 0 ∨ e = 1) (b : List Int) : F11.f ((ls, true), k, e, b) = some (10, ls.set (0 + k.toNat) (false, t, q0, q1), true) := by
  show F11.fP _ = _
  unfold F11.fP
  rcases he with rfl | rfl <;> simp only [Bool.not_true, Bool.not_false, cond_false, cond_true, n0 h, n1 h, n2 h, n3 h, h.get, le_all, take_all, Bool.and_true, setC, setT, bne_self_eq_false, show ((1 : Int) != 0) = true from rfl]
theorem f13d (h : At ls k (false, t, q0, q1)) {e m : Int} (he : e = 0 ∨ e = 1) (hm : 0 ≤ m) : F13.f ((ls, true), k, e, m) = some (([], 10), ls.set (0 + k.toNat) (false, t, q0, q1), true) := by
  show F13.fP F28.f _ = _
  unfold F13.fP
  have c : decide (m ≥ 0) = true := decide_eq_true (by omega)
  rcases he with rfl | rfl <;> simp only [Bool.not_true, Bool.not_false, cond_false, cond_true, n0 h, n1 h, n2 h, n3 h, h.get, le_all, take_all, Bool.and_true, setC, setT, c, bne_self_eq_false, show ((1 : Int) != 0) = true from rfl]
theorem f11a (h : At ls k (true, t, q0, q1)) (b : List Int) (l0 : q0.length ≤ 1073741824) (l1 : b.length ≤ 1073741824) : F11.f ((ls, true), k, 1, b) =
    some (if q0.length + b.length > 16384 then (7, ls.set (0 + k.toNat) (true, t, q0, q1), true) else (0, ls.set (0 + k.toNat) (true, t, q0 ++ b, q1), true)) := by
  show F11.fP _ = _
  unfold F11.fP
  have hw : IntKind.i64.wrap ((q0.length : Int) + (b.length : Int)) = (q0.length : Int) + (b.length : Int) := IntWalk.i64_in _ (by omega)
  have hz : IntKind.i64.wrap (1 - 1) = 0 := by decide
  have ht : List.take (q0.length + b.length) (List.drop 0 (q0 ++ b)) = q0 ++ b := by rw [List.drop_zero, List.take_of_length_le (by simp)]
  have c6 : decide (0 + (q0.length + b.length) ≤ (q0 ++ b).length) = true := decide_eq_true (by rw [List.length_append]; omega)
  simp only [Bool.not_true, cond_false, cond_true, n0 h, n1 h, n2 h, n3 h, h.get, le_all, take_all, List.take_length, Bool.and_true, setC, setT, bne_self_eq_false, show ((1 : Int) != 0) = true from rfl, hz, hw, show decide ((0 : Int) ≤ 0 ∧ (0 : Int) < 2) = true from rfl, show (0 : Int).toNat.beq 0 = true from rfl, ht, c6]
  by_cases c : q0.length + b.length > 16384
  · rw [decide_eq_true (show (q0.length : Int) + (b.length : Int) > 16384 by omega), if_pos c]
    rfl
  · rw [decide_eq_false (show ¬ (q0.length : Int) + (b.length : Int) > 16384 by omega), if_neg c, decide_eq_true (show q0.length + b.length ≤ 1073741824 by omega)]
    rfl
theorem f11b (h : At ls k (true, t, q0, q1)) (b : List Int) (l0 : q1.length ≤ 1073741824) (l1 : b.length ≤ 1073741824) : F11.f ((ls, true), k, 0, b) =
    some (if q1.length + b.length > 16384 then (7, ls.set (0 + k.toNat) (true, t, q0, q1), true) else (0, ls.set (0 + k.toNat) (true, t, q0, q1 ++ b), true)) := by
  show F11.fP _ = _
  unfold F11.fP
  have hw : IntKind.i64.wrap ((q1.length : Int) + (b.length : Int)) = (q1.length : Int) + (b.length : Int) := IntWalk.i64_in _ (by omega)
  have hz : IntKind.i64.wrap (1 - 0) = 1 := by decide
  have ht : List.take (q1.length + b.length) (List.drop 0 (q1 ++ b)) = q1 ++ b := by rw [List.drop_zero, List.take_of_length_le (by simp)]
  have c6 : decide (0 + (q1.length + b.length) ≤ (q1 ++ b).length) = true := decide_eq_true (by rw [List.length_append]; omega)
  simp only [Bool.not_true, cond_false, cond_true, n0 h, n1 h, n2 h, n3 h, h.get, le_all, take_all, List.take_length, Bool.and_true, setC, setT, bne_self_eq_false, hz, hw, show decide ((0 : Int) ≤ 1 ∧ (1 : Int) < 2) = true from rfl, show (1 : Int).toNat.beq 0 = false from rfl, show (1 : Int).toNat.beq 1 = true from rfl, ht, c6]
  by_cases c : q1.length + b.length > 16384
  · rw [decide_eq_true (show (q1.length : Int) + (b.length : Int) > 16384 by omega), if_pos c]
    rfl
  · rw [decide_eq_false (show ¬ (q1.length : Int) + (b.length : Int) > 16384 by omega), if_neg c, decide_eq_true (show q1.length + b.length ≤ 1073741824 by omega)]
    rfl
end
theorem least (q : List Int) {many : Int} (hm : 0 ≤ many) {m : Int} (hmm : (if (q.length : Int) < many then (q.length : Int) else many) = m) :
    (0 ≤ m ∧ m ≤ q.length) ∧ q.take many.toNat = q.take m.toNat ∧ q.drop many.toNat = q.drop m.toNat := by
  refine ⟨by rw [← hmm]; split <;> omega, ?_, ?_⟩
  · rw [← hmm]
    split
    · rw [List.take_of_length_le (by omega), List.take_of_length_le (by omega)]
    · rfl
  · rw [← hmm]
    split
    · rw [List.drop_of_length_le (by omega), List.drop_of_length_le (by omega)]
    · rfl
section
variable {ls : List Lk} {k : Int} {t : Int} {q0 q1 : List Int} (h : At ls k (true, t, q0, q1))
include h
set_option maxHeartbeats 4000000 in
theorem f13b (many : Int) (h0 : q1.length ≤ 16384) (hm : 0 ≤ many) :
    F13.f ((ls, true), k, 1, many) = some ((q1.take many.toNat, 0), ls.set (0 + k.toNat) (true, t, q0, q1.drop many.toNat), true) := by
  show F13.fP F28.f _ = _
  unfold F13.fP
  have c0 : decide (many ≥ 0) = true := decide_eq_true hm
  simp only [Bool.not_true, cond_false, cond_true, n0 h, n1 h, n2 h, n3 h, h.get, le_all, take_all, List.take_length, Bool.and_true, setC, setT, bne_self_eq_false, show ((1 : Int) != 0) = true from rfl, c0, show decide ((0 : Int) ≤ 1 ∧ (1 : Int) < 2) = true from rfl, show (1 : Int).toNat.beq 0 = false from rfl, show (1 : Int).toNat.beq 1 = true from rfl]
  generalize hmm : (if (q1.length : Int) < many then (q1.length : Int) else many) = m
  obtain ⟨m0, ht, hd⟩ := least q1 hm hmm
  rw [ht, hd]
  have a1 : m.toNat ≤ q1.length := by omega
  have a2 : m.toNat + ((q1.length : Int) - m).toNat = q1.length := by omega
  have k1 : List.take ((q1.length : Int) - m).toNat (List.drop m.toNat q1) = List.drop m.toNat q1 := List.take_of_length_le (by rw [List.length_drop]; omega)
  have cl := PA.clone (List.drop m.toNat q1) (by rw [List.length_drop]; omega)
  have cn := PA.clone [] (by simp)
  by_cases hm1 : m = (q1.length : Int)
  · have hdr : List.drop m.toNat q1 = [] := List.drop_of_length_le (by omega)
    rw [hdr]
    simp [hm1, cn, setT']
  · simp [hm1, m0.1, m0.2, a1, a2, k1, cl, setT']
set_option maxHeartbeats 4000000 in
theorem f13a (many : Int) (h0 : q0.length ≤ 16384) (hm : 0 ≤ many) :
    F13.f ((ls, true), k, 0, many) = some ((q0.take many.toNat, 0), ls.set (0 + k.toNat) (true, t, q0.drop many.toNat, q1), true) := by
  show F13.fP F28.f _ = _
  unfold F13.fP
  have c0 : decide (many ≥ 0) = true := decide_eq_true hm
  simp only [Bool.not_true, cond_false, cond_true, n0 h, n1 h, n2 h, n3 h, h.get, le_all, take_all, List.take_length, Bool.and_true, setC, setT, bne_self_eq_false, c0, show decide ((0 : Int) ≤ 0 ∧ (0 : Int) < 2) = true from rfl, show (0 : Int).toNat.beq 0 = true from rfl]
  generalize hmm : (if (q0.length : Int) < many then (q0.length : Int) else many) = m
  obtain ⟨m0, ht, hd⟩ := least q0 hm hmm
  rw [ht, hd]
  have a1 : m.toNat ≤ q0.length := by omega
  have a2 : m.toNat + ((q0.length : Int) - m).toNat = q0.length := by omega
  have k1 : List.take ((q0.length : Int) - m).toNat (List.drop m.toNat q0) = List.drop m.toNat q0 := List.take_of_length_le (by rw [List.length_drop]; omega)
  have cl := PA.clone (List.drop m.toNat q0) (by rw [List.length_drop]; omega)
  have cn := PA.clone [] (by simp)
  by_cases hm1 : m = (q0.length : Int)
  · have hdr : List.drop m.toNat q0 = [] := List.drop_of_length_le (by omega)
    rw [hdr]
    simp [hm1, cn, setT']
  · simp [hm1, m0.1, m0.2, a1, a2, k1, cl, setT']
end
end Go.Proofs.Yteoiaihjapddoaa.PM

/- Chapter 29: the reference's Send, at any link of any. -/
namespace Go.Proofs.Yteoiaihjapddoaa.PN
open Go Go.Proofs Go.Proofs.Yteoiaihjapddoaa.Sx Go.Proofs.Yteoiaihjapddoaa.PM
set_option linter.unusedSimpArgs false
set_option linter.unusedVariables false
theorem eqS (n : Nat) : decide (n = n) = true := decide_eq_true rfl
theorem app1 {q : List Int} {x : Int} : decide (0 + (q.length + 1) ≤ (q ++ [x]).length) = true := decide_eq_true (by simp)
theorem app2 {q : List Int} {x : Int} : List.take (q.length + 1) (List.drop 0 (q ++ [x])) = q ++ [x] := by rw [List.drop_zero, List.take_of_length_le (by simp)]
section
variable {ls : List Lk} {k : Int} {up : Bool} {t : Int} {q0 q1 : List Int} (h : At ls k (up, t, q0, q1))
include h
set_option maxHeartbeats 8000000 in
theorem r3a (b : List Int) (i : Nat) (hi : i < b.length) (hq : q0.length + 1 ≤ 1073741824) : F34.l3 (k, b, 0, (i : Int)) ls = some ((), ls.set (0 + k.toNat) (up, t, q0 ++ [b.getD i 0], q1)) := by
  unfold F34.l3 F34.r3 F34.r3P
  have c1 : decide ((0 : Int) ≤ (i : Int) ∧ (i : Int) < (b.length : Int) ∧ 0 < b.length) = true := decide_eq_true (by omega)
  have c2 : decide (0 + (i : Int).toNat < b.length) = true := decide_eq_true (by omega)
  have c3 : decide (q0.length + 1 ≤ 1073741824) = true := decide_eq_true hq
  have e : 0 + (i : Int).toNat = i := by omega
  simp only [cond_false, cond_true, n0 h, n1 h, n2 h, n3 h, h.get, le_all, take_all, List.take_length, Bool.and_true, setC, setT, show decide ((0 : Int) ≤ 0 ∧ (0 : Int) < 2) = true from rfl, show ((0 : Int).toNat.beq 0) = true from rfl, c1, c2, c3, eqS, app1, app2, e, decide_eq_true hi, decide_true]
set_option maxHeartbeats 8000000 in
theorem r3b (b : List Int) (i : Nat) (hi : i < b.length) (hq : q1.length + 1 ≤ 1073741824) : F34.l3 (k, b, 1, (i : Int)) ls = some ((), ls.set (0 + k.toNat) (up, t, q0, q1 ++ [b.getD i 0])) := by
  unfold F34.l3 F34.r3 F34.r3P
  have c1 : decide ((0 : Int) ≤ (i : Int) ∧ (i : Int) < (b.length : Int) ∧ 0 < b.length) = true := decide_eq_true (by omega)
  have c2 : decide (0 + (i : Int).toNat < b.length) = true := decide_eq_true (by omega)
  have c3 : decide (q1.length + 1 ≤ 1073741824) = true := decide_eq_true hq
  have e : 0 + (i : Int).toNat = i := by omega
  simp only [cond_false, cond_true, n0 h, n1 h, n2 h, n3 h, h.get, le_all, take_all, List.take_length, Bool.and_true, setC, setT, show decide ((0 : Int) ≤ 1 ∧ (1 : Int) < 2) = true from rfl, show ((1 : Int).toNat.beq 0) = false from rfl, show ((1 : Int).toNat.beq 1) = true from rfl, c1, c2, c3, eqS, app1, app2, e, decide_eq_true hi, decide_true]
theorem p0 : decide (k ≥ 0) = true := decide_eq_true (by have := h.k0; omega)
theorem p1 : decide (k < (ls.length : Int)) = true := decide_eq_true (by have := h.k4; omega)
/-- Bytes, appended one by one. -/
theorem l4a (b : List Int) (hq : q0.length + b.length ≤ 1073741824) : F34.l4 (k, b, 0) (ls, 0) = some ((), ls.set (0 + k.toNat) (up, t, q0 ++ b, q1)) := by
  obtain ⟨r, e, hr⟩ := iterO_inv (f := F34.r4 (k, b, 0)) (fun z => ∃ i : Nat, z.2 = (i : Int) ∧ i ≤ b.length ∧ z.1 = ls.set (0 + k.toNat) (up, t, q0 ++ b.take i, q1)) (fun z => b.length - z.2.toNat) (fun r => r = ((), ls.set (0 + k.toNat) (up, t, q0 ++ b, q1))) (by
    rintro ⟨l, i'⟩ ⟨i, e1, hi, e2⟩
    simp only at e1 e2
    subst e1 e2
    by_cases hlt : i < b.length
    · left
      refine ⟨(ls.set (0 + k.toNat) (up, t, q0 ++ b.take (i + 1), q1), ((i + 1 : Nat) : Int)), ?_, ⟨i + 1, rfl, by omega, rfl⟩, by simp only [Int.toNat_natCast]; omega⟩
      unfold F34.r4 F34.r4P
      have hp := put h (up, t, q0 ++ b.take i, q1)
      have h3 := r3a hp b i hlt (by rw [List.length_append, List.length_take]; omega)
      have hw : IntKind.i64.wrap ((i : Int) + 1) = ((i + 1 : Nat) : Int) := by
        rw [show ((i : Int) + 1) = ((i + 1 : Nat) : Int) by omega]
        exact wrap64_id (by omega)
      simp only [decide_eq_true (show ((i : Int) < (b.length : Int)) by omega), le_all, List.take_length, cond_true, Bool.and_true, h3, Option.bind_some, hw, List.set_set]
      rw [List.append_assoc, List.take_succ_eq_append_getElem hlt, List.getD_eq_getElem?_getD, List.getElem?_eq_getElem hlt]
      rfl
    · right
      have : i = b.length := by omega
      subst this
      refine ⟨_, ?_, rfl⟩
      unfold F34.r4 F34.r4P
      simp only [decide_eq_false (show ¬ ((b.length : Int) < (b.length : Int)) by omega), cond_false, List.take_length]) (ls, 0) ⟨0, rfl, by omega, by
        simp only [List.take_zero, List.append_nil]
        exact (put_same h).symm⟩
  subst hr
  exact e
theorem l4b (b : List Int) (hq : q1.length + b.length ≤ 1073741824) : F34.l4 (k, b, 1) (ls, 0) = some ((), ls.set (0 + k.toNat) (up, t, q0, q1 ++ b)) := by
  obtain ⟨r, e, hr⟩ := iterO_inv (f := F34.r4 (k, b, 1)) (fun z => ∃ i : Nat, z.2 = (i : Int) ∧ i ≤ b.length ∧ z.1 = ls.set (0 + k.toNat) (up, t, q0, q1 ++ b.take i)) (fun z => b.length - z.2.toNat) (fun r => r = ((), ls.set (0 + k.toNat) (up, t, q0, q1 ++ b))) (by
    rintro ⟨l, i'⟩ ⟨i, e1, hi, e2⟩
    simp only at e1 e2
    subst e1 e2
    by_cases hlt : i < b.length
    · left
      refine ⟨(ls.set (0 + k.toNat) (up, t, q0, q1 ++ b.take (i + 1)), ((i + 1 : Nat) : Int)), ?_, ⟨i + 1, rfl, by omega, rfl⟩, by simp only [Int.toNat_natCast]; omega⟩
      unfold F34.r4 F34.r4P
      have hp := put h (up, t, q0, q1 ++ b.take i)
      have h3 := r3b hp b i hlt (by rw [List.length_append, List.length_take]; omega)
      have hw : IntKind.i64.wrap ((i : Int) + 1) = ((i + 1 : Nat) : Int) := by
        rw [show ((i : Int) + 1) = ((i + 1 : Nat) : Int) by omega]
        exact wrap64_id (by omega)
      simp only [decide_eq_true (show ((i : Int) < (b.length : Int)) by omega), le_all, List.take_length, cond_true, Bool.and_true, h3, Option.bind_some, hw, List.set_set]
      rw [List.append_assoc, List.take_succ_eq_append_getElem hlt, List.getD_eq_getElem?_getD, List.getElem?_eq_getElem hlt]
      rfl
    · right
      have : i = b.length := by omega
      subst this
      refine ⟨_, ?_, rfl⟩
      unfold F34.r4 F34.r4P
      simp only [decide_eq_false (show ¬ ((b.length : Int) < (b.length : Int)) by omega), cond_false, List.take_length]) (ls, 0) ⟨0, rfl, by omega, by
        simp only [List.take_zero, List.append_nil]
        exact (put_same h).symm⟩
  subst hr
  exact e
theorem l1 : F34.l1 (ls, k) () = some (!up, ()) := by
  unfold F34.l1 F34.r1 F34.r1P
  simp only [n2 h, n3 h, h.get, cond_true]
theorem l2a (b : List Int) (l0 : q0.length ≤ 1073741824) (lb : b.length ≤ 1073741824) : F34.l2 (ls, k, b, 0) () = some (decide (q0.length + b.length > 16384), ()) := by
  unfold F34.l2 F34.r2 F34.r2P
  have hw : IntKind.i64.wrap ((q0.length : Int) + (b.length : Int)) = ((q0.length + b.length : Nat) : Int) := by rw [← Int.natCast_add]; exact wrap64_id (by omega)
  simp only [n2 h, n3 h, h.get, cond_true, show decide ((0 : Int) ≤ 0 ∧ (0 : Int) < 2) = true from rfl, show ((0 : Int).toNat.beq 0) = true from rfl, hw]
  congr 2
  exact decide_eq_decide.2 (by omega)
theorem l2b (b : List Int) (l0 : q1.length ≤ 1073741824) (lb : b.length ≤ 1073741824) : F34.l2 (ls, k, b, 1) () = some (decide (q1.length + b.length > 16384), ()) := by
  unfold F34.l2 F34.r2 F34.r2P
  have hw : IntKind.i64.wrap ((q1.length : Int) + (b.length : Int)) = ((q1.length + b.length : Nat) : Int) := by rw [← Int.natCast_add]; exact wrap64_id (by omega)
  simp only [n2 h, n3 h, h.get, cond_true, cond_false, show decide ((0 : Int) ≤ 1 ∧ (1 : Int) < 2) = true from rfl, show ((1 : Int).toNat.beq 0) = false from rfl, show ((1 : Int).toNat.beq 1) = true from rfl, hw]
  congr 2
  exact decide_eq_decide.2 (by omega)
/-- The reference's Send. -/
theorem f34x {e : Int} (h0 : e ≠ 0) (h1 : e ≠ 1) (b : List Int) : F34.f (ls, k, e, b) = some (1, ls) := by
  unfold F34.f F34.fP
  have c0 : (e != 0) = true := by simpa using h0
  have c1 : (e != 1) = true := by simpa using h1
  simp only [p0 h, p1 h, Bool.not_true, cond_true, cond_false, c0, c1, le_all, take_all, List.take_length, Bool.and_true]
theorem f34a (b : List Int) (l0 : q0.length ≤ 16384) (lb : b.length ≤ 1000000) : F34.f (ls, k, 1, b) =
    some (if up = false then (10, ls) else if q0.length + b.length > 16384 then (7, ls) else (0, ls.set (0 + k.toNat) (up, t, q0 ++ b, q1))) := by
  unfold F34.f F34.fP
  have hz : IntKind.i64.wrap ((1 : Int) - 1) = 0 := by decide
  simp only [p0 h, p1 h, Bool.not_true, cond_true, cond_false, show ((1 : Int) != 0) = true from rfl, bne_self_eq_false, le_all, take_all, List.take_length, Bool.and_true, l1 h, hz, l2a h b (by omega) (by omega), l4a h b (by omega), Option.bind_some]
  cases up with
  | false => rfl
  | true =>
    by_cases c : q0.length + b.length > 16384
    · simp only [Bool.not_true, cond_false, decide_eq_true c, cond_true, if_pos c]; rfl
    · simp only [Bool.not_true, cond_false, decide_eq_false c, if_neg c]; rfl
theorem f34b (b : List Int) (l0 : q1.length ≤ 16384) (lb : b.length ≤ 1000000) : F34.f (ls, k, 0, b) =
    some (if up = false then (10, ls) else if q1.length + b.length > 16384 then (7, ls) else (0, ls.set (0 + k.toNat) (up, t, q0, q1 ++ b))) := by
  unfold F34.f F34.fP
  have hz : IntKind.i64.wrap ((1 : Int) - 0) = 1 := by decide
  simp only [p0 h, p1 h, Bool.not_true, cond_true, cond_false, bne_self_eq_false, le_all, take_all, List.take_length, Bool.and_true, l1 h, hz, l2b h b (by omega) (by omega), l4b h b (by omega), Option.bind_some]
  cases up with
  | false => rfl
  | true =>
    by_cases c : q1.length + b.length > 16384
    · simp only [Bool.not_true, cond_false, decide_eq_true c, cond_true, if_pos c]; rfl
    · simp only [Bool.not_true, cond_false, decide_eq_false c, if_neg c]; rfl
end
end Go.Proofs.Yteoiaihjapddoaa.PN

/- Chapter 29: the reference's other calls, at any link of any; calls at no link. -/
namespace Go.Proofs.Yteoiaihjapddoaa.PO
open Go Go.Proofs Go.Proofs.Yteoiaihjapddoaa.Sx Go.Proofs.Yteoiaihjapddoaa.PM Go.Proofs.Yteoiaihjapddoaa.PN
set_option linter.unusedSimpArgs false
set_option linter.unusedVariables false
section
variable {ls : List Lk} {k : Int} {up : Bool} {t : Int} {q0 q1 : List Int} (h : At ls k (up, t, q0, q1))
include h
theorem f32 : F32.f (ls, k) = some (0, ls.set (0 + k.toNat) (true, t, q0, q1)) := by
  unfold F32.f F32.fP
  simp only [p0 h, p1 h, Bool.not_true, cond_false, cond_true, n2 h, n3 h, h.get, le_all, take_all, List.take_length, Bool.and_true, setC, setT]
theorem f33 (ht : 0 ≤ t ∧ t ≤ 1000) : F33.f (ls, k) = some (if up then (0, ls.set (0 + k.toNat) (false, t + 1, [], [])) else (10, ls)) := by
  unfold F33.f F33.fP
  have w : IntKind.i64.wrap (t + 1) = t + 1 := IntWalk.i64_in _ (by omega)
  have ps := put_same h
  cases up
  · simp only [p0 h, p1 h, Bool.not_true, Bool.not_false, cond_false, cond_true, n2 h, n3 h, h.get, le_all, take_all, List.take_length, Bool.and_true, setC, setT, eqS, ps]
    rfl
  · simp only [p0 h, p1 h, Bool.not_true, Bool.not_false, cond_false, cond_true, n2 h, n3 h, h.get, le_all, take_all, List.take_length, Bool.and_true, setC, setT, eqS, ps, w, List.set_set]
    rfl
theorem f25a : F25.f (ls, k, 0) = some ((q0.length : Int), ls) := by
  unfold F25.f F25.fP
  simp only [p0 h, p1 h, Bool.not_true, cond_false, cond_true, n2 h, n3 h, h.get, le_all, take_all, List.take_length, Bool.and_true, setC, setT, put_same h, bne_self_eq_false, show decide ((0 : Int) ≤ 0 ∧ (0 : Int) < 2) = true from rfl, show ((0 : Int).toNat.beq 0) = true from rfl]
theorem f25b : F25.f (ls, k, 1) = some ((q1.length : Int), ls) := by
  unfold F25.f F25.fP
  simp only [p0 h, p1 h, Bool.not_true, cond_false, cond_true, n2 h, n3 h, h.get, le_all, take_all, List.take_length, Bool.and_true, setC, setT, put_same h, bne_self_eq_false, show ((1 : Int) != 0) = true from rfl, show decide ((0 : Int) ≤ 1 ∧ (1 : Int) < 2) = true from rfl, show ((1 : Int).toNat.beq 0) = false from rfl, show ((1 : Int).toNat.beq 1) = true from rfl]
theorem f25x {e : Int} (h0 : e ≠ 0) (h1 : e ≠ 1) : F25.f (ls, k, e) = some (0, ls) := by
  unfold F25.f F25.fP
  have c0 : (e != 0) = true := by simpa using h0
  have c1 : (e != 1) = true := by simpa using h1
  simp only [p0 h, p1 h, Bool.not_true, cond_false, cond_true, c0, c1, le_all, take_all, List.take_length, Bool.and_true]
theorem f12x {e : Int} (h0 : e ≠ 0) (h1 : e ≠ 1) : F12.f ((ls, true), k, e) = some (0, ls, true) := by
  show F12.fP _ = _
  unfold F12.fP
  have c0 : (e != 0) = true := by simpa using h0
  have c1 : (e != 1) = true := by simpa using h1
  simp only [Bool.not_true, cond_false, cond_true, n0 h, n1 h, n2 h, n3 h, h.get, le_all, take_all, List.take_length, Bool.and_true, setC, setT, c0, c1, put_same h]
/-! what is delivered -/
theorem f35x {e m : Int} (hx : e ≠ 0 ∧ e ≠ 1 ∨ (e = 0 ∨ e = 1) ∧ m < 0) : F35.f (ls, k, e, m) = some (([], 1), ls) := by
  unfold F35.f F35.fP
  rcases hx with ⟨h0, h1⟩ | ⟨rfl | rfl, hm⟩
  · have c0 : (e != 0) = true := by simpa using h0
    have c1 : (e != 1) = true := by simpa using h1
    simp only [p0 h, p1 h, Bool.not_true, cond_false, cond_true, c0, c1, le_all, take_all, List.take_length, Bool.and_true]
  · have c : decide (m < 0) = true := decide_eq_true hm
    simp only [p0 h, p1 h, Bool.not_true, cond_false, cond_true, c, le_all, take_all, List.take_length, Bool.and_true, bne_self_eq_false]
  · have c : decide (m < 0) = true := decide_eq_true hm
    simp only [p0 h, p1 h, Bool.not_true, cond_false, cond_true, c, le_all, take_all, List.take_length, Bool.and_true, bne_self_eq_false, show ((1 : Int) != 0) = true from rfl]
end
theorem loop (q : List Int) (m : Int) (hm : 0 ≤ m) (hq : q.length ≤ 16384) : F35.l1 (m, q) ([], [], 0) = some ((q.take m.toNat, q.drop m.toNat), ()) := by
  obtain ⟨r, e, hr⟩ := iterO_inv (f := F35.r1 (m, q)) (fun z => ∃ i : Nat, z.2.2 = (i : Int) ∧ i ≤ q.length ∧ z.1 = (q.take i).take m.toNat ∧ z.2.1 = (q.take i).drop m.toNat) (fun z => q.length - z.2.2.toNat) (fun r => r = ((q.take m.toNat, q.drop m.toNat), ())) (by
    rintro ⟨out, rest, i'⟩ ⟨i, e1, hi, e2, e3⟩
    simp only at e1 e2 e3
    subst e1
    have lo : out.length ≤ 16384 := by rw [e2]; simp only [List.length_take]; omega
    have lr : rest.length ≤ 16384 := by rw [e3]; simp only [List.length_drop, List.length_take]; omega
    have le2 : ∀ n : Nat, decide (0 + n ≤ n) = true := fun n => decide_eq_true (by omega)
    by_cases hlt : i < q.length
    · left
      have hw : IntKind.i64.wrap ((i : Int) + 1) = ((i + 1 : Nat) : Int) := by
        rw [show ((i : Int) + 1) = ((i + 1 : Nat) : Int) by omega]
        exact wrap64_id (by omega)
      have c0 : decide ((i : Int) < (q.length : Int)) = true := decide_eq_true (by omega)
      have c1 : decide ((0 : Int) ≤ (i : Int) ∧ (i : Int) < (q.length : Int) ∧ 0 < q.length) = true := decide_eq_true (by omega)
      have c2 : decide (0 + (i : Int).toNat < q.length) = true := decide_eq_true (by omega)
      have e : 0 + (i : Int).toNat = i := by omega
      have hg : q.getD i 0 = q[i] := by rw [List.getD_eq_getElem?_getD, List.getElem?_eq_getElem hlt]; rfl
      have htk : q.take (i + 1) = q.take i ++ [q[i]] := List.take_succ_eq_append_getElem hlt
      have hl : (q.take i).length = i := by rw [List.length_take]; omega
      by_cases hm1 : (i : Int) < m
      · refine ⟨(out ++ [q.getD i 0], rest, ((i + 1 : Nat) : Int)), ?_, ⟨i + 1, rfl, by omega, ?_, ?_⟩, by simp only [Int.toNat_natCast]; omega⟩
        · unfold F35.r1 F35.r1P
          simp only [c0, c1, c2, e, decide_eq_true hm1, cond_true, le2, List.take_length, decide_eq_true (show out.length + 1 ≤ 1073741824 by omega), app1, app2, Bool.and_true, hw, decide_eq_true hlt]
        · simp only
          rw [htk, e2, hg, List.take_of_length_le (l := List.take i q) (by omega), List.take_of_length_le (l := List.take i q ++ [q[i]]) (by simp only [List.length_append, hl, List.length_cons, List.length_nil]; omega)]
        · simp only
          rw [htk, e3, List.drop_of_length_le (l := List.take i q) (by omega), List.drop_of_length_le (l := List.take i q ++ [q[i]]) (by simp only [List.length_append, hl, List.length_cons, List.length_nil]; omega)]
      · refine ⟨(out, rest ++ [q.getD i 0], ((i + 1 : Nat) : Int)), ?_, ⟨i + 1, rfl, by omega, ?_, ?_⟩, by simp only [Int.toNat_natCast]; omega⟩
        · unfold F35.r1 F35.r1P
          simp only [c0, c1, c2, e, decide_eq_false hm1, cond_true, cond_false, le2, List.take_length, decide_eq_true (show rest.length + 1 ≤ 1073741824 by omega), app1, app2, Bool.and_true, hw, decide_eq_true hlt]
        · simp only
          rw [htk, e2, List.take_append_of_le_length (by rw [hl]; omega)]
        · simp only
          rw [htk, e3, hg, List.drop_append_of_le_length (by rw [hl]; omega)]
    · right
      have : i = q.length := by omega
      subst this
      refine ⟨_, ?_, rfl⟩
      unfold F35.r1 F35.r1P
      rw [List.take_length] at e2 e3
      simp only [decide_eq_false (show ¬ ((q.length : Int) < (q.length : Int)) by omega), cond_false, cond_true, le2, List.take_length, Bool.and_true, e2, e3]) ([], [], 0) ⟨0, rfl, by omega, by simp, by simp⟩
  subst hr
  exact e
theorem r2a {ls : List Lk} {k : Int} {up : Bool} {t : Int} {q0 q1 : List Int} (h : At ls k (up, t, q0, q1)) (rest : List Int) : F35.l2 (k, 0) (ls, rest) = some ((), ls.set (0 + k.toNat) (up, t, rest, q1)) := by
  unfold F35.l2 F35.r2 F35.r2P
  simp only [n2 h, n3 h, h.get, cond_true, le_all, take_all, List.take_length, Bool.and_true, setC, setT, show decide ((0 : Int) ≤ 0 ∧ (0 : Int) < 2) = true from rfl, show ((0 : Int).toNat.beq 0) = true from rfl]
theorem r2b {ls : List Lk} {k : Int} {up : Bool} {t : Int} {q0 q1 : List Int} (h : At ls k (up, t, q0, q1)) (rest : List Int) : F35.l2 (k, 1) (ls, rest) = some ((), ls.set (0 + k.toNat) (up, t, q0, rest)) := by
  unfold F35.l2 F35.r2 F35.r2P
  simp only [n2 h, n3 h, h.get, cond_true, cond_false, le_all, take_all, List.take_length, Bool.and_true, setC, setT, show decide ((0 : Int) ≤ 1 ∧ (1 : Int) < 2) = true from rfl, show ((1 : Int).toNat.beq 0) = false from rfl, show ((1 : Int).toNat.beq 1) = true from rfl]
set_option maxHeartbeats 8000000 in
theorem f35a {ls : List Lk} {k : Int} {up : Bool} {t : Int} {q0 q1 : List Int} (h : At ls k (up, t, q0, q1)) (m : Int) (hm : 0 ≤ m) (l0 : q0.length ≤ 16384) :
    F35.f (ls, k, 0, m) = some (if up then ((q0.take m.toNat, 0), ls.set (0 + k.toNat) (true, t, q0.drop m.toNat, q1)) else (([], 10), ls)) := by
  unfold F35.f F35.fP
  have c : decide (m < 0) = false := decide_eq_false (by omega)
  cases up
  · simp only [p0 h, p1 h, Bool.not_true, Bool.not_false, cond_false, cond_true, c, le_all, take_all, List.take_length, Bool.and_true, bne_self_eq_false, n2 h, n3 h, h.get, setC, setT, put_same h]
    rfl
  · simp only [p0 h, p1 h, Bool.not_true, Bool.not_false, cond_false, cond_true, c, le_all, take_all, List.take_length, Bool.and_true, bne_self_eq_false, n2 h, n3 h, h.get, setC, setT, put_same h, show decide ((0 : Int) ≤ 0 ∧ (0 : Int) < 2) = true from rfl, show ((0 : Int).toNat.beq 0) = true from rfl, loop q0 m hm l0, Option.bind_some, r2a h, List.set_set]
    rfl
set_option maxHeartbeats 8000000 in
theorem f35b {ls : List Lk} {k : Int} {up : Bool} {t : Int} {q0 q1 : List Int} (h : At ls k (up, t, q0, q1)) (m : Int) (hm : 0 ≤ m) (l1 : q1.length ≤ 16384) :
    F35.f (ls, k, 1, m) = some (if up then ((q1.take m.toNat, 0), ls.set (0 + k.toNat) (true, t, q0, q1.drop m.toNat)) else (([], 10), ls)) := by
  unfold F35.f F35.fP
  have c : decide (m < 0) = false := decide_eq_false (by omega)
  cases up
  · simp only [p0 h, p1 h, Bool.not_true, Bool.not_false, cond_false, cond_true, c, le_all, take_all, List.take_length, Bool.and_true, bne_self_eq_false, n2 h, n3 h, h.get, setC, setT, put_same h, show ((1 : Int) != 0) = true from rfl]
    rfl
  · simp only [p0 h, p1 h, Bool.not_true, Bool.not_false, cond_false, cond_true, c, le_all, take_all, List.take_length, Bool.and_true, bne_self_eq_false, n2 h, n3 h, h.get, setC, setT, put_same h, show ((1 : Int) != 0) = true from rfl, show decide ((0 : Int) ≤ 1 ∧ (1 : Int) < 2) = true from rfl, show ((1 : Int).toNat.beq 0) = false from rfl, show ((1 : Int).toNat.beq 1) = true from rfl, loop q1 m hm l1, Option.bind_some, r2b h, List.set_set]
    rfl
/-! at no link -/
section
variable {ls : List Lk} {k : Int} (hk : ¬ (0 ≤ k ∧ k < (ls.length : Int)))
include hk
theorem nk : decide (k < 0) = true ∨ (decide (k < 0) = false ∧ decide (k ≥ (ls.length : Int)) = true) := by
  by_cases h : k < 0
  · exact .inl (decide_eq_true h)
  · exact .inr ⟨decide_eq_false h, decide_eq_true (by omega)⟩
theorem nr : decide (k ≥ 0) = false ∨ (decide (k ≥ 0) = true ∧ decide (k < (ls.length : Int)) = false) := by
  by_cases h : k ≥ 0
  · exact .inr ⟨decide_eq_true h, decide_eq_false (by omega)⟩
  · exact .inl (decide_eq_false h)
theorem x10 : F10.f ((ls, true), k) = some (6, ls, true) := by
  show F10.fP _ = _
  unfold F10.fP
  rcases nk hk with h | ⟨h, h'⟩ <;> simp only [h, cond_true, cond_false, Bool.not_true, le_all, take_all, List.take_length, Bool.and_true, *]
theorem x15 : F15.f ((ls, true), k) = some (6, ls, true) := by
  show F15.fP _ = _
  unfold F15.fP
  rcases nk hk with h | ⟨h, h'⟩ <;> simp only [h, cond_true, cond_false, Bool.not_true, le_all, take_all, List.take_length, Bool.and_true, *]
theorem x17 : F17.f ((ls, true), k) = some (false, ls, true) := by
  show F17.fP _ = _
  unfold F17.fP
  rcases nk hk with h | ⟨h, h'⟩ <;> simp only [h, cond_true, cond_false, Bool.not_true, le_all, take_all, List.take_length, Bool.and_true, *]
theorem x18 : F18.f ((ls, true), k) = some (0, ls, true) := by
  show F18.fP _ = _
  unfold F18.fP
  rcases nk hk with h | ⟨h, h'⟩ <;> simp only [h, cond_true, cond_false, Bool.not_true, le_all, take_all, List.take_length, Bool.and_true, *]
theorem x12 (e : Int) : F12.f ((ls, true), k, e) = some (0, ls, true) := by
  show F12.fP _ = _
  unfold F12.fP
  rcases nk hk with h | ⟨h, h'⟩ <;> simp only [h, cond_true, cond_false, Bool.not_true, le_all, take_all, List.take_length, Bool.and_true, *]
theorem x11 (e : Int) (b : List Int) : F11.f ((ls, true), k, e, b) = some (6, ls, true) := by
  show F11.fP _ = _
  unfold F11.fP
  rcases nk hk with h | ⟨h, h'⟩ <;> simp only [h, cond_true, cond_false, Bool.not_true, le_all, take_all, List.take_length, Bool.and_true, *]
theorem x13 (e m : Int) : F13.f ((ls, true), k, e, m) = some (([], 6), ls, true) := by
  show F13.fP F28.f _ = _
  unfold F13.fP
  rcases nk hk with h | ⟨h, h'⟩ <;> simp only [h, cond_true, cond_false, Bool.not_true, le_all, take_all, List.take_length, Bool.and_true, *]
theorem x32 : F32.f (ls, k) = some (6, ls) := by
  unfold F32.f F32.fP
  rcases nr hk with h | ⟨h, h'⟩ <;> simp only [h, cond_true, cond_false, Bool.not_false, le_all, take_all, List.take_length, Bool.and_true, *]
theorem x33 : F33.f (ls, k) = some (6, ls) := by
  unfold F33.f F33.fP
  rcases nr hk with h | ⟨h, h'⟩ <;> simp only [h, cond_true, cond_false, Bool.not_false, le_all, take_all, List.take_length, Bool.and_true, *]
theorem x34 (e : Int) (b : List Int) : F34.f (ls, k, e, b) = some (6, ls) := by
  unfold F34.f F34.fP
  rcases nr hk with h | ⟨h, h'⟩ <;> simp only [h, cond_true, cond_false, Bool.not_false, le_all, take_all, List.take_length, Bool.and_true, *]
theorem x35 (e m : Int) : F35.f (ls, k, e, m) = some (([], 6), ls) := by
  unfold F35.f F35.fP
  rcases nr hk with h | ⟨h, h'⟩ <;> simp only [h, cond_true, cond_false, Bool.not_false, le_all, take_all, List.take_length, Bool.and_true, *]
theorem x25 (e : Int) : F25.f (ls, k, e) = some (0, ls) := by
  unfold F25.f F25.fP
  rcases nr hk with h | ⟨h, h'⟩ <;> simp only [h, cond_true, cond_false, Bool.not_false, le_all, take_all, List.take_length, Bool.and_true, *]
end
end Go.Proofs.Yteoiaihjapddoaa.PO

/- Chapter 29: both nets, call by call: the same answer, the same links behind it. -/
namespace Go.Proofs.Yteoiaihjapddoaa.PQ
open Go Go.Proofs Go.Proofs.Yteoiaihjapddoaa.Sx Go.Proofs.Yteoiaihjapddoaa.PM Go.Proofs.Yteoiaihjapddoaa.PN Go.Proofs.Yteoiaihjapddoaa.PO
set_option linter.unusedSimpArgs false
set_option linter.unusedVariables false
set_option linter.unusedSectionVars false
/-- A link is well. -/
structure Well (x : Lk) (n : Int) : Prop where
  t0 : 0 ≤ x.2.1 ∧ x.2.1 ≤ n
  l0 : x.2.2.1.length ≤ 16384
  l1 : x.2.2.2.length ≤ 16384
theorem Well.more {x : Lk} {n : Int} (w : Well x n) : Well x (n + 1) := ⟨⟨w.t0.1, by have := w.t0.2; omega⟩, w.l0, w.l1⟩
/-- All links are. -/
structure Wells (ls : List Lk) (n : Int) : Prop where
  len : ls.length ≤ 64
  all : ∀ x ∈ ls, Well x n
theorem Wells.more {ls : List Lk} {n : Int} (w : Wells ls n) : Wells ls (n + 1) := ⟨w.len, fun x hx => (w.all x hx).more⟩
theorem Wells.put {ls : List Lk} {n : Int} {i : Nat} {y : Lk} (w : Wells ls n) (hy : Well y n) : Wells (ls.set i y) n :=
  ⟨by rw [List.length_set]; exact w.len, fun x hx => (List.mem_or_eq_of_mem_set hx).elim (w.all x) (fun e => by rw [e]; exact hy)⟩
theorem Wells.at {ls : List Lk} {n k : Int} (w : Wells ls n) (hk : 0 ≤ k ∧ k < (ls.length : Int)) : ∃ up t q0 q1, At ls k (up, t, q0, q1) ∧ Well (up, t, q0, q1) n := by
  have hlt : 0 + k.toNat < ls.length := by omega
  refine ⟨(ls[0 + k.toNat]).1, (ls[0 + k.toNat]).2.1, (ls[0 + k.toNat]).2.2.1, (ls[0 + k.toNat]).2.2.2, ⟨hk.1, hk.2, ?_⟩, w.all _ (List.getElem_mem hlt)⟩
  rw [List.getD_eq_getElem?_getD, List.getElem?_eq_getElem hlt]
  rfl
section
variable {ls : List Lk} {n k : Int} (w : Wells ls n) (hn : 0 ≤ n ∧ n ≤ 999)
include w hn
theorem up_ : ∃ c ls', F10.f ((ls, true), k) = some (c, ls', true) ∧ F32.f (ls, k) = some (c, ls') ∧ Wells ls' (n + 1) := by
  by_cases hk : 0 ≤ k ∧ k < (ls.length : Int)
  · obtain ⟨up, t, q0, q1, h, hw⟩ := w.at hk
    exact ⟨_, _, f10 h, f32 h, (w.put (y := (true, t, q0, q1)) ⟨hw.t0, hw.l0, hw.l1⟩).more⟩
  · exact ⟨_, _, x10 hk, x32 hk, w.more⟩
theorem cut_ : ∃ c ls', F15.f ((ls, true), k) = some (c, ls', true) ∧ F33.f (ls, k) = some (c, ls') ∧ Wells ls' (n + 1) := by
  by_cases hk : 0 ≤ k ∧ k < (ls.length : Int)
  · obtain ⟨up, t, q0, q1, h, hw⟩ := w.at hk
    have h1 := f15 h (by have := hw.t0; simp only at this; omega)
    have h2 := f33 h (by have := hw.t0; simp only at this; omega)
    rw [put_same h] at h1
    cases up with
    | true => exact ⟨_, _, h1, h2, w.more.put ⟨by have := hw.t0; simp only at this ⊢; omega, by simp, by simp⟩⟩
    | false => exact ⟨_, _, h1, h2, w.more⟩
  · exact ⟨_, _, x15 hk, x33 hk, w.more⟩
theorem send_ (e : Int) (b : List Int) (lb : b.length ≤ 1000000) : ∃ c ls', F11.f ((ls, true), k, e, b) = some (c, ls', true) ∧ F34.f (ls, k, e, b) = some (c, ls') ∧ Wells ls' (n + 1) := by
  by_cases hk : 0 ≤ k ∧ k < (ls.length : Int)
  · obtain ⟨up, t, q0, q1, h, hw⟩ := w.at hk
    have l0 : q0.length ≤ 16384 := hw.l0
    have l1 : q1.length ≤ 16384 := hw.l1
    by_cases h0 : e = 0
    · subst h0
      have h2 := f34b h b l1 lb
      cases up with
      | false =>
        have h1 := f11d h (.inl rfl) b
        rw [put_same h] at h1
        exact ⟨_, _, h1, h2, w.more⟩
      | true =>
        have h1 := f11b h b (by omega) (by omega)
        rw [put_same h] at h1
        by_cases c : q1.length + b.length > 16384
        · simp only [if_pos c] at h1
          simp only [if_pos c, Bool.true_eq_false, if_false] at h2
          exact ⟨_, _, h1, h2, w.more⟩
        · simp only [if_neg c] at h1
          simp only [if_neg c, Bool.true_eq_false, if_false] at h2
          exact ⟨_, _, h1, h2, (w.put (y := (true, t, q0, q1 ++ b)) ⟨hw.t0, l0, by simp only [List.length_append]; omega⟩).more⟩
    by_cases h1' : e = 1
    · subst h1'
      have h2 := f34a h b l0 lb
      cases up with
      | false =>
        have h1 := f11d h (.inr rfl) b
        rw [put_same h] at h1
        exact ⟨_, _, h1, h2, w.more⟩
      | true =>
        have h1 := f11a h b (by omega) (by omega)
        rw [put_same h] at h1
        by_cases c : q0.length + b.length > 16384
        · simp only [if_pos c] at h1
          simp only [if_pos c, Bool.true_eq_false, if_false] at h2
          exact ⟨_, _, h1, h2, w.more⟩
        · simp only [if_neg c] at h1
          simp only [if_neg c, Bool.true_eq_false, if_false] at h2
          exact ⟨_, _, h1, h2, (w.put (y := (true, t, q0 ++ b, q1)) ⟨hw.t0, by simp only [List.length_append]; omega, l1⟩).more⟩
    · have h1 := f11x h h0 h1' b
      rw [put_same h] at h1
      exact ⟨_, _, h1, f34x h h0 h1' b, w.more⟩
  · exact ⟨_, _, x11 hk e b, x34 hk e b, w.more⟩
theorem get_ (e m : Int) : ∃ out c ls', F13.f ((ls, true), k, e, m) = some ((out, c), ls', true) ∧ F35.f (ls, k, e, m) = some ((out, c), ls') ∧ Wells ls' (n + 1) := by
  by_cases hk : 0 ≤ k ∧ k < (ls.length : Int)
  · obtain ⟨up, t, q0, q1, h, hw⟩ := w.at hk
    have l0 : q0.length ≤ 16384 := hw.l0
    have l1 : q1.length ≤ 16384 := hw.l1
    by_cases hx : e ≠ 0 ∧ e ≠ 1 ∨ (e = 0 ∨ e = 1) ∧ m < 0
    · have h1 := f13x h m hx
      rw [put_same h] at h1
      exact ⟨_, _, _, h1, f35x h hx, w.more⟩
    · have he : e = 0 ∨ e = 1 := by omega
      have hm : 0 ≤ m := by omega
      cases up with
      | false =>
        have h1 := f13d h he hm
        rw [put_same h] at h1
        rcases he with rfl | rfl
        · exact ⟨_, _, _, h1, f35a h m hm l0, w.more⟩
        · exact ⟨_, _, _, h1, f35b h m hm l1, w.more⟩
      | true =>
        rcases he with rfl | rfl
        · exact ⟨_, _, _, f13a h m l0 hm, f35a h m hm l0, (w.put (y := (true, t, q0.drop m.toNat, q1)) ⟨hw.t0, by simp only [List.length_drop]; omega, l1⟩).more⟩
        · exact ⟨_, _, _, f13b h m l1 hm, f35b h m hm l1, (w.put (y := (true, t, q0, q1.drop m.toNat)) ⟨hw.t0, l0, by simp only [List.length_drop]; omega⟩).more⟩
  · exact ⟨_, _, _, x13 hk e m, x35 hk e m, w.more⟩
theorem waits_ (e : Int) : ∃ v, F12.f ((ls, true), k, e) = some (v, ls, true) ∧ F25.f (ls, k, e) = some (v, ls) := by
  by_cases hk : 0 ≤ k ∧ k < (ls.length : Int)
  · obtain ⟨up, t, q0, q1, h, hw⟩ := w.at hk
    by_cases h0 : e = 0
    · subst h0
      have h1 := f12a h
      rw [put_same h] at h1
      exact ⟨_, h1, f25a h⟩
    by_cases h1' : e = 1
    · subst h1'
      have h1 := f12b h
      rw [put_same h] at h1
      exact ⟨_, h1, f25b h⟩
    · exact ⟨_, f12x h h0 h1', f25x h h0 h1'⟩
  · exact ⟨_, x12 hk e, x25 hk e⟩
theorem add_ : ∃ j c ls', F9.f (ls, true) = some ((j, c), ls', true) ∧ F31.f ls = some ((j, c), ls') ∧ Wells ls' (n + 1) := by
  by_cases hl : (ls.length : Int) ≥ 64
  · refine ⟨0, 7, ls, ?_, ?_, w.more⟩
    · show F9.fP _ = _
      unfold F9.fP
      simp only [Bool.not_true, cond_false, decide_eq_true hl, cond_true, le_all, Bool.and_true, List.take_length]
    · unfold F31.f F31.fP
      simp only [decide_eq_true hl, cond_true, le_all, Bool.and_true, List.take_length]
  · have c1 : decide (ls.length + 1 ≤ 1073741824) = true := decide_eq_true (by omega)
    have c2 : decide (0 + (ls.length + 1) ≤ (ls ++ [((false : Bool), (0 : Int), ([] : List Int), ([] : List Int))]).length) = true := decide_eq_true (by simp)
    have c3 : List.take (ls.length + 1) (List.drop 0 (ls ++ [((false : Bool), (0 : Int), ([] : List Int), ([] : List Int))])) = ls ++ [(false, 0, [], [])] := by rw [List.drop_zero, List.take_of_length_le (by simp)]
    refine ⟨IntKind.i64.wrap (((ls.length + 1 : Nat) : Int) - 1), 0, ls ++ [(false, 0, [], [])], ?_, ?_, ⟨by simp only [List.length_append, List.length_cons, List.length_nil]; omega, fun x hx => ?_⟩⟩
    rotate_left
    · unfold F31.f F31.fP
      simp only [decide_eq_false hl, cond_false, cond_true, le_all, Bool.and_true, List.take_length, c1, c2, c3]
    · rcases List.mem_append.1 hx with hx | hx
      · exact (w.all x hx).more
      · rw [List.mem_singleton.1 hx]
        exact ⟨⟨Int.le_refl _, by show (0 : Int) ≤ n + 1; omega⟩, by simp, by simp⟩
    · show F9.fP _ = _
      unfold F9.fP
      simp only [Bool.not_true, decide_eq_false hl, cond_false, cond_true, le_all, Bool.and_true, List.take_length, c1, c2, c3]
end
theorem same16 (l : List Int) : F16.f (l, l) = some (true, ()) := by
  unfold F16.f F16.fP
  simp only [le_all, cond_true, beq_self_eq_true]
theorem leN (n : Nat) : decide ((0 : Nat) + n ≤ n) = true := decide_eq_true (by omega)
theorem tk0 {l : List Int} : List.take l.length (List.drop 0 l) = l := by simp
theorem one {ls : List Lk} {n : Int} (w : Wells ls n) (hn : 0 ≤ n ∧ n ≤ 999) (a0 a1 a2 a3 : Int) (a4 : List Int) : ∃ ls', F23.f ((ls, true), ls, a0, a1, a2, a3, a4) = some (true, (ls', true), ls') ∧ Wells ls' (n + 1) := by
  unfold F23.f F23.fP
  simp only [Option.getD_some]
  generalize hM : (if (300 : Int) < (a4.length : Int) then (300 : Int) else (a4.length : Int)) = M
  have m0 : 0 ≤ M ∧ M ≤ 300 ∧ M ≤ a4.length := by rw [← hM]; split <;> omega
  have d0 : decide ((0 : Int) ≤ M ∧ M ≤ (a4.length : Int) ∧ 0 + a4.length ≤ a4.length) = true := decide_eq_true (by omega)
  have d1 : decide (0 + M.toNat ≤ a4.length) = true := decide_eq_true (by omega)
  simp only [d0, d1, cond_true, le_all, List.take_length, Bool.and_true]
  have lb : (List.take M.toNat a4).length ≤ 1000000 := by rw [List.length_take]; omega
  have send : ∃ ls', ((F11.f ((ls, true), a1, a2, List.take M.toNat a4)).bind fun r0 => (F34.f (ls, a1, a2, List.take M.toNat a4)).bind fun r1 => some (r0.fst == r1.fst, r0.snd, r1.snd)) = some (true, (ls', true), ls') ∧ Wells ls' (n + 1) := by
    obtain ⟨c, ls', g1, g2, g3⟩ := send_ w hn (k := a1) a2 (List.take M.toNat a4) lb
    exact ⟨ls', by rw [g1, g2]; simp, g3⟩
  have get : ∃ ls', ((F13.f ((ls, true), a1, a2, a3)).bind fun r0 => (F35.f (ls, a1, a2, a3)).bind fun r1 => 
      (F16.f (List.take r0.fst.fst.length (List.drop 0 r0.fst.fst), List.take r1.fst.fst.length (List.drop 0 r1.fst.fst))).bind fun r2 => bif r2.fst then some (r0.fst.snd == r1.fst.snd, r0.snd, r1.snd) else some (false, r0.snd, r1.snd)) = some (true, (ls', true), ls') ∧ Wells ls' (n + 1) := by
    obtain ⟨out, c, ls', g1, g2, g3⟩ := get_ w hn (k := a1) a2 a3
    exact ⟨ls', by rw [g1, g2]; simp only [Option.bind_some, leN, cond_true, tk0, same16, beq_self_eq_true], g3⟩
  by_cases c0 : a0 = 0
  · subst c0
    obtain ⟨j, c, ls', g1, g2, g3⟩ := add_ w hn
    refine ⟨ls', ?_, g3⟩
    simp only [beq_self_eq_true, cond_true, g1, g2, Option.bind_some]
  rw [show (a0 == 0) = false from by simpa using c0, cond_false]
  by_cases c1 : a0 = 1
  · subst c1
    obtain ⟨c, ls', g1, g2, g3⟩ := up_ w hn (k := a1)
    refine ⟨ls', ?_, g3⟩
    simp only [beq_self_eq_true, cond_true, g1, g2, Option.bind_some]
  rw [show (a0 == 1) = false from by simpa using c1, cond_false]
  by_cases c2 : a0 = 2
  · subst c2
    obtain ⟨c, ls', g1, g2, g3⟩ := cut_ w hn (k := a1)
    refine ⟨ls', ?_, g3⟩
    simp only [beq_self_eq_true, cond_true, g1, g2, Option.bind_some]
  rw [show (a0 == 2) = false from by simpa using c2, cond_false]
  by_cases c3 : a0 = 3
  · subst c3
    simpa only [beq_self_eq_true, cond_true] using send
  rw [show (a0 == 3) = false from by simpa using c3, cond_false]
  by_cases c4 : a0 = 4
  · subst c4
    simpa only [beq_self_eq_true, cond_true] using send
  rw [show (a0 == 4) = false from by simpa using c4, cond_false]
  by_cases c5 : a0 = 5
  · subst c5
    simpa only [beq_self_eq_true, cond_true] using send
  rw [show (a0 == 5) = false from by simpa using c5, cond_false]
  by_cases c6 : a0 = 6
  · subst c6
    simpa only [beq_self_eq_true, cond_true] using get
  rw [show (a0 == 6) = false from by simpa using c6, cond_false]
  by_cases c7 : a0 = 7
  · subst c7
    simpa only [beq_self_eq_true, cond_true] using get
  rw [show (a0 == 7) = false from by simpa using c7, cond_false]
  by_cases c8 : a0 = 8
  · subst c8
    simpa only [beq_self_eq_true, cond_true] using get
  rw [show (a0 == 8) = false from by simpa using c8, cond_false]
  by_cases c9 : a0 = 9
  · subst c9
    simp only [beq_self_eq_true, cond_true]
    have hu : 0 ≤ IntKind.u64.wrap a3 := by
      have : IntKind.u64.wrap a3 = a3 % 18446744073709551616 := rfl
      rw [this]
      exact Int.emod_nonneg _ (by decide)
    have ht : 0 ≤ (IntKind.u64.wrap a3).tmod 20001 ∧ (IntKind.u64.wrap a3).tmod 20001 < 20001 := by
      rw [Int.tmod_eq_emod_of_nonneg hu]
      exact ⟨Int.emod_nonneg _ (by decide), Int.emod_lt_of_pos _ (by decide)⟩
    have hw : IntKind.i64.wrap ((IntKind.u64.wrap a3).tmod 20001) = (IntKind.u64.wrap a3).tmod 20001 := IntWalk.i64_in _ (by omega)
    rw [hw]
    generalize (IntKind.u64.wrap a3).tmod 20001 = m at ht
    have e0 : decide ((0 : Int) ≤ m ∧ m ≤ m ∧ m ≤ 1073741824 ∧ ((OfNat.ofNat 1 : Nat) : Int) * m ≤ 281474976710656) = true := decide_eq_true ⟨ht.1, Int.le_refl _, by omega, by
      show ((1 : Nat) : Int) * m ≤ _
      omega⟩
    have e1 : decide (0 + m.toNat ≤ (List.replicate m.toNat (0 : Int)).length) = true := decide_eq_true (by rw [List.length_replicate]; omega)
    have e2 : List.take m.toNat (List.drop 0 (List.replicate m.toNat (0 : Int))) = List.replicate m.toNat 0 := by rw [List.drop_zero, List.take_of_length_le (by rw [List.length_replicate]; omega)]
    obtain ⟨c, ls', g1, g2, g3⟩ := send_ w hn (k := a1) a2 (List.replicate m.toNat 0) (by rw [List.length_replicate]; omega)
    refine ⟨ls', ?_, g3⟩
    simp only [e1, e2, cond_true, Bool.and_true, g1, g2, Option.bind_some, beq_self_eq_true]
    refine (congrArg (fun z => bif z then (some (true, (ls', true), ls') : Option (Bool × (List Lk × Bool) × List Lk)) else none) (decide_eq_true ⟨ht.1, Int.le_refl _, by omega, ?_⟩)).trans rfl
    show (1 : Int) * m ≤ _
    omega
  rw [show (a0 == 9) = false from by simpa using c9, cond_false]
  exact ⟨ls, rfl, w.more⟩
end Go.Proofs.Yteoiaihjapddoaa.PQ

/- Chapter 29: rows of calls of both nets. -/
namespace Go.Proofs.Yteoiaihjapddoaa.PR
open Go Go.Proofs Go.Proofs.Yteoiaihjapddoaa.Sx Go.Proofs.Yteoiaihjapddoaa.PM Go.Proofs.Yteoiaihjapddoaa.PN Go.Proofs.Yteoiaihjapddoaa.PO Go.Proofs.Yteoiaihjapddoaa.PQ
set_option linter.unusedSimpArgs false
set_option linter.unusedVariables false
theorem wrapN (i : Nat) (h : i < 4611686018427387904) : IntKind.i64.wrap ((i : Int) + 1) = ((i + 1 : Nat) : Int) := by
  rw [show ((i : Int) + 1) = ((i + 1 : Nat) : Int) by omega]
  exact wrap64_id (by omega)
theorem getN {α : Type} {l : List α} {i : Nat} {d : α} (h : i < l.length) : l.getD (0 + (i : Int).toNat) d = l[i] := by
  rw [show 0 + (i : Int).toNat = i by omega, List.getD_eq_getElem?_getD, List.getElem?_eq_getElem h]
  rfl
/-- All queues are empty. -/
def quiet (ls : List Lk) : Bool := ls.all fun x => decide (x.2.2.1.length + x.2.2.2.length = 0)
theorem q24 {ls : List Lk} (hl : ls.length ≤ 64) : F24.f ls = some (quiet ls, ls) := by
  obtain ⟨r, e, hr⟩ := iterO_inv (f := F24.r1 ls) (fun z => ∃ i : Nat, z = (i : Int) ∧ i ≤ ls.length ∧ ∀ x ∈ ls.take i, x.2.2.1.length + x.2.2.2.length = 0) (fun z => ls.length - z.toNat) (fun r => r = if quiet ls then ((0, false), ()) else ((1, false), ())) (by
    rintro z ⟨i, rfl, hi, hz⟩
    unfold F24.r1 F24.r1P
    by_cases hlt : i < ls.length
    · have c0 : decide ((i : Int) < (ls.length : Int)) = true := decide_eq_true (by omega)
      have c1 : decide ((0 : Int) ≤ (i : Int) ∧ (i : Int) < (ls.length : Int) ∧ 0 < ls.length) = true := decide_eq_true (by omega)
      have c2 : decide (0 + (i : Int).toNat < ls.length) = true := decide_eq_true (by omega)
      simp only [c0, c1, c2, cond_true, getN hlt, wrapN i (by omega)]
      have hm : ls[i] ∈ ls := List.getElem_mem hlt
      by_cases e0 : ((ls[i]).2.2.1.length : Int) > 0
      · right
        rw [decide_eq_true e0]
        refine ⟨_, rfl, ?_⟩
        have : quiet ls = false := by
          cases hq : quiet ls with
          | false => rfl
          | true => have := of_decide_eq_true (List.all_eq_true.1 hq _ hm); omega
        rw [this]; rfl
      · rw [decide_eq_false e0, cond_false]
        by_cases e1 : ((ls[i]).2.2.2.length : Int) > 0
        · right
          rw [decide_eq_true e1]
          refine ⟨_, rfl, ?_⟩
          have : quiet ls = false := by
            cases hq : quiet ls with
            | false => rfl
            | true => have := of_decide_eq_true (List.all_eq_true.1 hq _ hm); omega
          rw [this]; rfl
        · left
          rw [decide_eq_false e1]
          refine ⟨_, rfl, ⟨i + 1, rfl, by omega, fun x hx => ?_⟩, by omega⟩
          rw [List.take_succ_eq_append_getElem hlt] at hx
          rcases List.mem_append.1 hx with hx | hx
          · exact hz x hx
          · rw [List.mem_singleton.1 hx]; omega
    · right
      have : i = ls.length := by omega
      subst this
      rw [decide_eq_false (show ¬ ((ls.length : Int) < (ls.length : Int)) by omega), cond_false]
      refine ⟨_, rfl, ?_⟩
      have : quiet ls = true := by
        rw [List.take_length] at hz
        exact List.all_eq_true.2 fun x hx => by simpa using hz x hx
      rw [this]; rfl) 0 ⟨0, rfl, by omega, by simp⟩
  have e : F24.l1 ls 0 = some r := e
  show F24.fP F24.l1 ls = _
  unfold F24.fP
  rw [show (OfNat.ofNat 0 : Int) = 0 from rfl, e, hr]
  cases quiet ls <;> simp
theorem q20 {ls : List Lk} {n : Int} (w : Wells ls n) : F20.f (ls, true) = some (quiet ls, ls, true) := by
  have hl := w.len
  obtain ⟨r, e, hr⟩ := iterO_inv (f := F37.r1 (ls, (), (ls.length : Int))) (fun z => ∃ i : Nat, z = (i : Int) ∧ i ≤ ls.length ∧ ∀ x ∈ ls.take i, x.2.2.1.length + x.2.2.2.length = 0) (fun z => ls.length - z.toNat) (fun r => if quiet ls then r = ((0, 0), ()) else ∃ j : Nat, r = ((1, (j : Int)), ())) (by
    rintro z ⟨i, rfl, hi, hz⟩
    unfold F37.r1 F37.r1P
    simp only
    by_cases hlt : i < ls.length
    · have c0 : decide ((i : Int) < (ls.length : Int)) = true := decide_eq_true (by omega)
      have c1 : decide ((0 : Int) ≤ (i : Int) ∧ (i : Int) < (ls.length : Int) ∧ 0 < ls.length) = true := decide_eq_true (by omega)
      have c2 : decide (0 + (i : Int).toNat < ls.length) = true := decide_eq_true (by omega)
      have hm : ls[i] ∈ ls := List.getElem_mem hlt
      have hw := w.all _ hm
      have hww : IntKind.i64.wrap (((ls[i]).2.2.1.length : Int) + ((ls[i]).2.2.2.length : Int)) = ((ls[i]).2.2.1.length : Int) + ((ls[i]).2.2.2.length : Int) := wrap64_id (by have := hw.l0; have := hw.l1; omega)
      simp only [c0, c1, c2, cond_true, getN hlt, wrapN i (by omega), hww]
      by_cases e0 : ((ls[i]).2.2.1.length : Int) + ((ls[i]).2.2.2.length : Int) > 0
      · right
        rw [decide_eq_true e0]
        refine ⟨_, rfl, ?_⟩
        have : quiet ls = false := by
          cases hq : quiet ls with
          | false => rfl
          | true => have := of_decide_eq_true (List.all_eq_true.1 hq _ hm); omega
        rw [this]; exact ⟨i, rfl⟩
      · left
        rw [decide_eq_false e0]
        refine ⟨_, rfl, ⟨i + 1, rfl, by omega, fun x hx => ?_⟩, by omega⟩
        rw [List.take_succ_eq_append_getElem hlt] at hx
        rcases List.mem_append.1 hx with hx | hx
        · exact hz x hx
        · rw [List.mem_singleton.1 hx]; omega
    · right
      have : i = ls.length := by omega
      subst this
      rw [decide_eq_false (show ¬ ((ls.length : Int) < (ls.length : Int)) by omega), cond_false]
      refine ⟨_, rfl, ?_⟩
      have : quiet ls = true := by
        rw [List.take_length] at hz
        exact List.all_eq_true.2 fun x hx => by simpa using hz x hx
      rw [this]; rfl) 0 ⟨0, rfl, by omega, by simp⟩
  have e : F37.l1 (ls, (), (ls.length : Int)) 0 = some r := e
  show F20.fP F37.l1 (ls, true) = _
  unfold F20.fP
  simp only [le_all, List.take_length, Bool.and_true, cond_true]
  rw [show (OfNat.ofNat 0 : Int) = 0 from rfl, e]
  cases hq : quiet ls with
  | true => rw [hq] at hr; simp only [if_true] at hr; rw [hr]; simp
  | false =>
    rw [hq] at hr
    simp only [Bool.false_eq_true, if_false] at hr
    obtain ⟨j, hr⟩ := hr
    rw [hr]
    have : decide ((j : Int) ≥ 0) = true := decide_eq_true (by omega)
    simp [this]
/-- A copy is made. -/
theorem copy {ls : List Lk} {n : Int} (w : Wells ls n) : ∃ tw, F22.f (ls, true) = some (some (tw, true), ls, true) := by
  have hl := w.len
  obtain ⟨r, e, c, hr⟩ := iterO_inv (f := F22.r1 (ls, (ls.length : Int))) (fun z => ∃ i : Nat, z.2 = (i : Int) ∧ i ≤ ls.length ∧ z.1.2 = true ∧ z.1.1.length = i) (fun z => ls.length - z.2.toNat) (fun r => ∃ c, r = ((), (c, true))) (by
    rintro ⟨⟨c0, c1⟩, z⟩ ⟨i, e1, hi, e2, e3⟩
    simp only at e1 e2 e3
    subst e1 e2
    unfold F22.r1 F22.r1P
    by_cases hlt : i < ls.length
    · left
      have c0' : decide ((i : Int) < (ls.length : Int)) = true := decide_eq_true (by omega)
      have c1 : decide ((0 : Int) ≤ (i : Int) ∧ (i : Int) < (ls.length : Int) ∧ 0 < ls.length) = true := decide_eq_true (by omega)
      have c2 : decide (0 + (i : Int).toNat < ls.length) = true := decide_eq_true (by omega)
      have hw := w.all _ (List.getElem_mem hlt)
      have k0 := PA.clone (ls[i]).2.2.1 (by have := hw.l0; omega)
      have k1 := PA.clone (ls[i]).2.2.2 (by have := hw.l1; omega)
      have c4 : ∀ x : Lk, decide (0 + (c0.length + 4 / OfNat.ofNat 4) ≤ (c0 ++ [x]).length) = true := fun x => decide_eq_true (by
        rw [List.length_append]; show 0 + (c0.length + 4 / 4) ≤ c0.length + 1; omega)
      have c5 : decide (c0.length + 4 / OfNat.ofNat 4 ≤ 1073741824) = true := decide_eq_true (by show c0.length + 4 / 4 ≤ _; omega)
      have c6 : ∀ x : Lk, List.take (c0.length + 4 / OfNat.ofNat 4) (List.drop 0 (c0 ++ [x])) = c0 ++ [x] := fun x => by
        rw [List.drop_zero, List.take_of_length_le (by rw [List.length_append]; show c0.length + 1 ≤ c0.length + 4 / 4; omega)]
      refine ⟨_, by simp only [c0', c1, c2, cond_true, getN hlt, leN, take_all, List.take_length, Bool.and_true, k0, k1, Option.bind_some, c4, c5, c6, wrapN i (by omega)]; rfl, ⟨i + 1, rfl, by omega, rfl, ?_⟩, by simp only [Int.toNat_natCast]; omega⟩
      simp only [List.length_append, List.length_cons, List.length_nil]
      omega
    · right
      have : i = ls.length := by omega
      subst this
      exact ⟨_, by simp only; rw [decide_eq_false (show ¬ ((ls.length : Int) < (ls.length : Int)) by omega), cond_false], c0, rfl⟩) (([], true), 0) ⟨0, rfl, by omega, rfl, rfl⟩
  subst hr
  have e : F22.l1 (ls, (ls.length : Int)) (([], true), 0) = some ((), (c, true)) := e
  refine ⟨c, ?_⟩
  show F22.fP F28.f F22.l1 (ls, true) = _
  unfold F22.fP
  simp only [Bool.not_true, cond_false, cond_true, le_all, List.take_length, Bool.and_true, e, Option.bind_some]
/-- How many wait, at a net's first link. -/
theorem wait0 (tw : List Lk) (e : Int) (he : e = 0 ∨ e = 1) : ∃ v, F12.f ((tw, true), 0, e) = some (v, tw, true) := by
  by_cases hk : (0 : Int) ≤ 0 ∧ (0 : Int) < (tw.length : Int)
  · have hlt : 0 < tw.length := by omega
    have h : At tw 0 ((tw[0]).1, (tw[0]).2.1, (tw[0]).2.2.1, (tw[0]).2.2.2) := ⟨hk.1, hk.2, by
      rw [List.getD_eq_getElem?_getD]
      show (tw[0]?).getD _ = _
      rw [List.getElem?_eq_getElem hlt]
      rfl⟩
    rcases he with rfl | rfl
    · have h1 := f12a h
      rw [put_same h] at h1
      exact ⟨_, h1⟩
    · have h1 := f12b h
      rw [put_same h] at h1
      exact ⟨_, h1⟩
  · exact ⟨_, x12 hk e⟩
/-- What is kept of a twin. -/
def Twin (twin : Option (List Lk × Bool)) (kept : Int × Int × Int) : Prop :=
  twin = none ∨ ∃ tw, twin = some (tw, true) ∧ kept.1 = (tw.length : Int) ∧ F12.f ((tw, true), 0, 0) = some (kept.2.1, tw, true) ∧ F12.f ((tw, true), 0, 1) = some (kept.2.2, tw, true)
theorem u1 {ls : List Lk} {n : Int} (w : Wells ls n) (l : List (Int × Int × Int × Int × List Int)) (i : Int) (twin : Option (List Lk × Bool)) (kept : Int × Int × Int) (ht : Twin twin kept) :
    ∃ twin' kept', F6.l1 (l, (), i) ((ls, true), twin, kept) = some (twin', (ls, true), kept') ∧ Twin twin' kept' := by
  obtain ⟨tw, hc⟩ := copy w
  obtain ⟨v0, h0⟩ := wait0 tw 0 (.inl rfl)
  obtain ⟨v1, h1⟩ := wait0 tw 1 (.inr rfl)
  obtain ⟨k0, k1, k2⟩ := kept
  unfold F6.l1 F6.r1 F6.r1P
  cases hi : (i == IntKind.i64.wrap ((l.length : Int).tdiv 2)) with
  | true =>
    refine ⟨some (tw, true), ((tw.length : Int), v0, v1), ?_, .inr ⟨tw, rfl, rfl, h0, h1⟩⟩
    cases twin <;> simp only [hi, Option.isSome_none, cond_true, cond_false, hc, Option.bind_some, Option.isSome_some, Option.getD_some, leN, Bool.and_true, take_all, h0, h1]
  | false =>
    rcases ht with rfl | ⟨tw', rfl, e0, e1, e2⟩
    · exact ⟨none, (k0, k1, k2), by simp only [hi, Option.isSome_none, cond_false], .inl rfl⟩
    · exact ⟨some (tw', true), (k0, k1, k2), by simp only [hi, Option.isSome_some, cond_true, cond_false, Option.getD_some], .inr ⟨tw', rfl, e0, e1, e2⟩⟩
theorem u2 {ls : List Lk} {n : Int} (w : Wells ls n) (hn : 0 ≤ n ∧ n ≤ 900) (a0 a1 a2 a3 : Int) (a4 : List Int) : ∃ ls', F6.l2 (a0, a1, a2, a3, a4) ((ls, true), ls) = some (false, (ls', true), ls') ∧ Wells ls' (n + 1) := by
  obtain ⟨ls', h1, w'⟩ := one w (by omega) a0 a1 a2 a3 a4
  obtain ⟨v, g1, g2⟩ := waits_ w' (by omega) (k := a1) a2
  refine ⟨ls', ?_, w'⟩
  unfold F6.l2 F6.r2 F6.r2P
  simp only [leN, Bool.and_true, cond_true, List.take_length, h1, Option.bind_some, Bool.not_true, cond_false, bne_self_eq_false, take_all, q20 w', q24 w'.len, g1, g2]
  cases quiet ls' <;> rfl
theorem u3 (ls : List Lk) (a0 a1 a2 a3 : Int) (a4 : List Int) : F6.l3 (ls, a0, a1, a2, a3, a4) () = some (decide (0 ≤ a1 ∧ a1 < (ls.length : Int)), ()) := by
  unfold F6.l3 F6.r3 F6.r3P
  simp only
  by_cases h : a1 ≥ 0
  · rw [decide_eq_true h, cond_true]
    congr 2
    exact decide_eq_decide.2 ⟨fun h' => ⟨h, h'⟩, fun h' => h'.2⟩
  · rw [decide_eq_false h, cond_false, decide_eq_false (fun h' => h h'.1)]
theorem u45 {ls : List Lk} {n : Int} (w : Wells ls n) (a0 a1 a2 a3 : Int) (a4 : List Int) (hk : 0 ≤ a1 ∧ a1 < (ls.length : Int)) : ∃ up t, F6.l4 (ls, a0, a1, a2, a3, a4) () = some ((up, t), ()) ∧ F6.l5 ((a0, a1, a2, a3, a4), up, t) (ls, true) = some (false, (ls, true)) := by
  obtain ⟨up, t, q0, q1, h, hw⟩ := w.at hk
  refine ⟨up, t, ?_, ?_⟩
  · unfold F6.l4 F6.r4 F6.r4P
    simp only [n2 h, n3 h, h.get, cond_true]
  · have g1 := f17 h
    have g2 := f18 h
    rw [put_same h] at g1 g2
    unfold F6.l5 F6.r5 F6.r5P
    simp only [g1, g2, Option.bind_some, bne_self_eq_false]
    cases up <;> rfl
theorem u5 {ls : List Lk} (a0 a1 a2 a3 : Int) (a4 : List Int) (hk : ¬ (0 ≤ a1 ∧ a1 < (ls.length : Int))) : F6.l5 ((a0, a1, a2, a3, a4), false, 0) (ls, true) = some (false, (ls, true)) := by
  unfold F6.l5 F6.r5 F6.r5P
  simp only [x17 hk, x18 hk, Option.bind_some, bne_self_eq_false]
  rfl
abbrev St := (List Lk × Bool) × List Lk × Option (List Lk × Bool) × (Int × Int × Int) × Int
def Inv (L : Nat) (z : St) : Prop := ∃ (ls : List Lk) (i : Nat), z.1 = (ls, true) ∧ z.2.1 = ls ∧ Wells ls (i : Int) ∧ z.2.2.2.2 = (i : Int) ∧ i ≤ L ∧ i ≤ 60 ∧ Twin z.2.2.1 z.2.2.2.1
set_option maxHeartbeats 4000000 in
theorem round (l : List (Int × Int × Int × Int × List Int)) (z : St) (h : Inv l.length z) :
    (∃ z', F6.r6 (l, (), l, (l.length : Int)) z = some (.inl z') ∧ Inv l.length z' ∧ 60 - z'.2.2.2.2.toNat < 60 - z.2.2.2.2.toNat) ∨
    (∃ twin kept ls, F6.r6 (l, (), l, (l.length : Int)) z = some (.inr ((0, false, twin), (ls, true), ls, kept)) ∧ Twin twin kept) := by
  obtain ⟨nn, ww, twin, kept, i'⟩ := z
  obtain ⟨ls, i, e1, e2, w, e3, hi, hi60, ht⟩ := h
  simp only at e1 e2 e3 ht
  subst e1 e3
  rw [e2]
  clear e2
  obtain ⟨k0, k1, k2⟩ := kept
  have tsome : some (twin.getD ([], false)) = twin ∨ twin = none := by cases twin <;> simp
  unfold F6.r6 F6.r6P
  by_cases hlt : i < l.length
  · have c0 : decide ((i : Int) < (l.length : Int)) = true := decide_eq_true (by omega)
    have c1 : decide ((0 : Int) ≤ (i : Int) ∧ (i : Int) < (l.length : Int) ∧ 0 < l.length) = true := decide_eq_true (by omega)
    have c2 : decide (0 + (i : Int).toNat < l.length) = true := decide_eq_true (by omega)
    by_cases hs : i = 60
    · right
      subst hs
      have hb : (((60 : Nat) : Int) == (60 : Int)) = true := rfl
      refine ⟨twin, (k0, k1, k2), ls, ?_, ht⟩
      cases twin <;> simp only [c0, c1, c2, cond_true, cond_false, hb, Option.isSome_some, Option.isSome_none, Option.getD_some]
    · left
      have hb : (((i : Nat) : Int) == (60 : Int)) = false := by simp; omega
      obtain ⟨twin', kept', g1, ht'⟩ := u1 w l (i : Int) twin (k0, k1, k2) ht
      obtain ⟨k0', k1', k2'⟩ := kept'
      generalize ha : l[i] = a at *
      obtain ⟨a0, a1, a2, a3, a4⟩ := a
      have hget := getN (l := l) (d := ((0 : Int), (0 : Int), (0 : Int), (0 : Int), ([] : List Int))) hlt
      rw [ha] at hget
      obtain ⟨ls', g2, w2⟩ := u2 w (by omega) a0 a1 a2 a3 a4
      have g3 := u3 ls' a0 a1 a2 a3 a4
      have hfin : Inv l.length ((ls', true), ls', twin', (k0', k1', k2'), ((i + 1 : Nat) : Int)) := ⟨ls', i + 1, rfl, rfl, by simpa using w2, rfl, by omega, by omega, ht'⟩
      refine ⟨_, ?_, hfin, by simp only [Int.toNat_natCast]; omega⟩
      by_cases hk : 0 ≤ a1 ∧ a1 < (ls'.length : Int)
      · obtain ⟨up, t, g4, g5⟩ := u45 w2 a0 a1 a2 a3 a4 hk
        rw [decide_eq_true hk] at g3
        have g1' : F6.l1 (l, PUnit.unit, (i : Int)) ((ls, true), twin, k0, k1, k2) = some (twin', (ls, true), k0', k1', k2') := g1
        cases twin <;> cases twin' <;> simp only [Option.isSome_some, Option.isSome_none, Option.getD_some, c0, c1, c2, hb, cond_true, cond_false, leN, Bool.and_true, List.take_length, g1', Option.bind_some, hget, take_all, g2, g3, g4, g5, wrapN i (by omega)]
      · have g5 := u5 (ls := ls') a0 a1 a2 a3 a4 hk
        rw [decide_eq_false hk] at g3
        have g1' : F6.l1 (l, PUnit.unit, (i : Int)) ((ls, true), twin, k0, k1, k2) = some (twin', (ls, true), k0', k1', k2') := g1
        cases twin <;> cases twin' <;> simp only [Option.isSome_some, Option.isSome_none, Option.getD_some, c0, c1, c2, hb, cond_true, cond_false, leN, Bool.and_true, List.take_length, g1', Option.bind_some, hget, take_all, g2, g3, g5, wrapN i (by omega)]
  · right
    have : i = l.length := by omega
    subst this
    have c0 : decide ((l.length : Int) < (l.length : Int)) = false := decide_eq_false (by omega)
    refine ⟨twin, (k0, k1, k2), ls, ?_, ht⟩
    cases twin <;> simp only [c0, cond_true, cond_false, Option.isSome_some, Option.isSome_none, Option.getD_some]
theorem law (l : List (Int × Int × Int × Int × List Int)) : ∃ q, F6.f l = some (true, q) := by
  obtain ⟨r, e, twin, kept, ls, hr, ht⟩ := iterO_inv (f := F6.r6 (l, (), l, (l.length : Int))) (Inv l.length) (fun z => 60 - z.2.2.2.2.toNat) (fun r => ∃ twin kept ls, r = ((0, false, twin), (ls, true), ls, kept) ∧ Twin twin kept) (fun z h => by
    rcases round l z h with ⟨z', h1, h2, h3⟩ | ⟨twin, kept, ls, h1, h2⟩
    · exact .inl ⟨z', h1, h2, h3⟩
    · exact .inr ⟨_, h1, twin, kept, ls, rfl, h2⟩) (([], true), [], none, (0, 0, 0), 0) ⟨[], 0, rfl, rfl, ⟨by simp, by simp⟩, rfl, by omega, by omega, .inl rfl⟩
  subst hr
  have e : F6.l6 (l, PUnit.unit, l, (l.length : Int)) (([], true), [], none, (0, 0, 0), 0) = some ((0, false, twin), (ls, true), ls, kept) := e
  refine ⟨(), ?_⟩
  unfold F6.f F6.fP
  obtain ⟨k0, k1, k2⟩ := kept
  rcases ht with rfl | ⟨tw, rfl, e0, e1, e2⟩
  · simp only [leN, Bool.and_true, cond_true, List.take_length, e, Option.bind_some, Option.isSome_none, cond_false]
    rfl
  · simp only at e0 e1 e2
    simp only [leN, Bool.and_true, cond_true, List.take_length, e, Option.bind_some, Option.isSome_some, Option.getD_some, take_all, e1, e2, e0, beq_self_eq_true]
    rfl

theorem plays (d : Den F6.i) (_ : wfD F6.i d) : ∃ q, F6.f d = some (true, q) := law d
end Go.Proofs.Yteoiaihjapddoaa.PR
