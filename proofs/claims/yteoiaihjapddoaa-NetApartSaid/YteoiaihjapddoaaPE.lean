/- Chapter 29: what is delivered at end 1, and what is refused. -/
import Derived.Test.YteoiaihjapddoaaPD
import Derived.Test.YteoiaihjapddoaaPB
namespace Go.Proofs.Yteoiaihjapddoaa.PE
open Go Go.Proofs Go.Proofs.Yteoiaihjapddoaa.PA
set_option linter.unusedSimpArgs false
set_option linter.unusedVariables false
theorem f13n (up : Bool) (t : Int) (q0 q1 : List Int) (e many : Int) (he : e = 0 ∨ e = 1) (h : up = false ∨ many < 0) :
    F13.f (([(up, t, q0, q1)], true), 0, e, many) = some (([], if 0 ≤ many then 10 else 1), [(up, t, q0, q1)], true) := by
  show F13.fP F28.f _ = _
  unfold F13.fP
  by_cases hm : 0 ≤ many
  · have hu : up = false := h.resolve_right (by omega)
    subst hu
    have c0 : decide (many ≥ 0) = true := by simpa using hm
    rcases he with rfl | rfl <;> simp [c0, hm]
  · have c0 : decide (many ≥ 0) = false := by simpa using hm
    rcases he with rfl | rfl <;> simp [c0, hm]
set_option maxHeartbeats 4000000 in
theorem f13b (t : Int) (q0 q1 : List Int) (many : Int) (h0 : q1.length ≤ 16384) (hm : 0 ≤ many) :
    F13.f (([(true, t, q0, q1)], true), 0, 1, many) = some ((q1.take many.toNat, 0), [(true, t, q0, q1.drop many.toNat)], true) := by
  show F13.fP F28.f _ = _
  unfold F13.fP
  have hb : Nat.beq 1 0 = false := rfl
  have hb1 : Nat.beq 1 1 = true := rfl
  have c0 : decide (many ≥ 0) = true := by simpa using hm
  have e0 : ((1 : Int) != 0) = true := rfl
  have e2 : ((1 : Int) != 1) = false := rfl
  have e3 : ((0 : Int) != 0) = false := rfl
  have e1 : decide ((0 : Int) < 0) = false := rfl
  have c3 : decide ((0 : Int) ≥ 1) = false := rfl
  have tn : (1 : Int).toNat = 1 := rfl
  simp only [Bool.not_true, cond_false, cond_true, e0, e2, e3, e1, c0, List.length_cons, List.length_nil, Nat.zero_add, c3, Int.toNat_zero, tn, Nat.add_zero, List.getD_cons_zero, List.set_cons_zero, Nat.le_refl, decide_true, Bool.and_self, List.take_length, List.drop_zero, hb, hb1]
  generalize hmm : (if (q1.length : Int) < many then (q1.length : Int) else many) = m
  have m0 : 0 ≤ m ∧ m ≤ q1.length := by rw [← hmm]; split <;> omega
  have ht : q1.take many.toNat = q1.take m.toNat := by
    rw [← hmm]
    split
    · rw [List.take_of_length_le (by omega), List.take_of_length_le (by omega)]
    · rfl
  have hd : q1.drop many.toNat = q1.drop m.toNat := by
    rw [← hmm]
    split
    · rw [List.drop_of_length_le (by omega), List.drop_of_length_le (by omega)]
    · rfl
  rw [ht, hd]
  have n1 : m.toNat ≤ q1.length := by omega
  have n2 : m.toNat + ((q1.length : Int) - m).toNat = q1.length := by omega
  have k1 : List.take ((q1.length : Int) - m).toNat (List.drop m.toNat q1) = List.drop m.toNat q1 := List.take_of_length_le (by rw [List.length_drop]; omega)
  have cl := clone (List.drop m.toNat q1) (by rw [List.length_drop]; omega)
  have cn := clone [] (by simp)
  have hle : decide (m ≤ (q1.length : Int)) = true := by simpa using m0.2
  have hge : decide ((0 : Int) ≤ m) = true := by simpa using m0.1
  by_cases hm1 : m = (q1.length : Int)
  · have hdr : List.drop m.toNat q1 = [] := List.drop_of_length_le (by omega)
    rw [hdr]
    simp [hm1, cn]
  · simp [hm1, m0.1, m0.2, n1, n2, k1, cl]
end Go.Proofs.Yteoiaihjapddoaa.PE
