/- Chapter 29: what is delivered, at any link of four. -/
import Derived.Test.YteoiaihjapddoaaPH
import Derived.Test.YteoiaihjapddoaaF4
namespace Go.Proofs.Yteoiaihjapddoaa.PI
open Go Go.Proofs Go.Proofs.Yteoiaihjapddoaa.Sx Go.Proofs.Yteoiaihjapddoaa.PH
set_option linter.unusedSimpArgs false
set_option linter.unusedVariables false
theorem least (q : List Int) {many : Int} (hm : 0 ≤ many) {m : Int} (hmm : (if (q.length : Int) < many then (q.length : Int) else many) = m) :
    (0 ≤ m ∧ m ≤ q.length) ∧ q.take many.toNat = q.take m.toNat ∧ q.drop many.toNat = q.drop m.toNat := by
  refine ⟨by rw [← hmm]; split <;> omega, ?_, ?_⟩
  · rw [← hmm]
    split
    · rw [List.take_of_length_le (by omega), List.take_of_length_le (by omega)]
    · rfl
  · rw [← hmm]
    split
    · rw [List.drop_of_length_le (by omega), List.drop_of_length_le (by omega)]
    · rfl
section
variable {ls : List Lk} {k : Int} {t : Int} {q0 q1 : List Int} (h : At ls k (true, t, q0, q1))
include h
set_option maxHeartbeats 4000000 in
theorem f13b (many : Int) (h0 : q1.length ≤ 16384) (hm : 0 ≤ many) :
    F13.f ((ls, true), k, 1, many) = some ((q1.take many.toNat, 0), ls.set (0 + k.toNat) (true, t, q0, q1.drop many.toNat), true) := by
  show F13.fP F28.f _ = _
  unfold F13.fP
  have c0 : decide (many ≥ 0) = true := decide_eq_true hm
  simp only [Bool.not_true, cond_false, cond_true, n0 h, n1 h, n2 h, n3 h, h.get, le_all, take_all, List.take_length, Bool.and_true, setC, setT, bne_self_eq_false, show ((1 : Int) != 0) = true from rfl, c0, show decide ((0 : Int) ≤ 1 ∧ (1 : Int) < 2) = true from rfl, show (1 : Int).toNat.beq 0 = false from rfl, show (1 : Int).toNat.beq 1 = true from rfl]
  generalize hmm : (if (q1.length : Int) < many then (q1.length : Int) else many) = m
  obtain ⟨m0, ht, hd⟩ := least q1 hm hmm
  rw [ht, hd]
  have a1 : m.toNat ≤ q1.length := by omega
  have a2 : m.toNat + ((q1.length : Int) - m).toNat = q1.length := by omega
  have k1 : List.take ((q1.length : Int) - m).toNat (List.drop m.toNat q1) = List.drop m.toNat q1 := List.take_of_length_le (by rw [List.length_drop]; omega)
  have cl := PA.clone (List.drop m.toNat q1) (by rw [List.length_drop]; omega)
  have cn := PA.clone [] (by simp)
  by_cases hm1 : m = (q1.length : Int)
  · have hdr : List.drop m.toNat q1 = [] := List.drop_of_length_le (by omega)
    rw [hdr]
    simp [hm1, cn, setT']
  · simp [hm1, m0.1, m0.2, a1, a2, k1, cl, setT']
set_option maxHeartbeats 4000000 in
theorem f13a (many : Int) (h0 : q0.length ≤ 16384) (hm : 0 ≤ many) :
    F13.f ((ls, true), k, 0, many) = some ((q0.take many.toNat, 0), ls.set (0 + k.toNat) (true, t, q0.drop many.toNat, q1), true) := by
  show F13.fP F28.f _ = _
  unfold F13.fP
  have c0 : decide (many ≥ 0) = true := decide_eq_true hm
  simp only [Bool.not_true, cond_false, cond_true, n0 h, n1 h, n2 h, n3 h, h.get, le_all, take_all, List.take_length, Bool.and_true, setC, setT, bne_self_eq_false, c0, show decide ((0 : Int) ≤ 0 ∧ (0 : Int) < 2) = true from rfl, show (0 : Int).toNat.beq 0 = true from rfl]
  generalize hmm : (if (q0.length : Int) < many then (q0.length : Int) else many) = m
  obtain ⟨m0, ht, hd⟩ := least q0 hm hmm
  rw [ht, hd]
  have a1 : m.toNat ≤ q0.length := by omega
  have a2 : m.toNat + ((q0.length : Int) - m).toNat = q0.length := by omega
  have k1 : List.take ((q0.length : Int) - m).toNat (List.drop m.toNat q0) = List.drop m.toNat q0 := List.take_of_length_le (by rw [List.length_drop]; omega)
  have cl := PA.clone (List.drop m.toNat q0) (by rw [List.length_drop]; omega)
  have cn := PA.clone [] (by simp)
  by_cases hm1 : m = (q0.length : Int)
  · have hdr : List.drop m.toNat q0 = [] := List.drop_of_length_le (by omega)
    rw [hdr]
    simp [hm1, cn, setT']
  · simp [hm1, m0.1, m0.2, a1, a2, k1, cl, setT']
end
/-- A link is well. -/
structure Well (x : Lk) (n : Int) : Prop where
  t0 : 0 ≤ x.2.1 ∧ x.2.1 ≤ n
  l0 : x.2.2.1.length ≤ 16384
  l1 : x.2.2.2.length ≤ 16384
theorem Well.more {x : Lk} {n : Int} (w : Well x n) : Well x (n + 1) := ⟨⟨w.t0.1, by have := w.t0.2; omega⟩, w.l0, w.l1⟩
/-- What a call does at a link: the same in all nets. -/
def Does (what e m : Int) (b : List Int) (x : Lk) (n : Int) : Prop :=
  ∃ (got : List Int) (y : Lk), Well y (n + 1) ∧ got.length ≤ 16384 ∧ ∀ (ls : List Lk) (k : Int) (a0 : Int) (a4 : List Int) (j : Int) (g0 g1 : List Int), At ls k x → j = 0 ∨ j = 1 → g0.length ≤ 16384 → g1.length ≤ 16384 →
    F4.l1 ((a0, k, e, m, a4), b, j, what) ((g0, g1), (ls, true)) = some ((), (if what = 6 ∨ what = 7 ∨ what = 8 then (if j = 0 then (got, g1) else (g0, got)) else (g0, g1)), (if 1 ≤ what ∧ what ≤ 8 then ls.set (0 + k.toNat) y else ls), true)
end Go.Proofs.Yteoiaihjapddoaa.PI
