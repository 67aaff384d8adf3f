/- Chapter 29: what is delivered at end 0. -/
import Derived.Test.YteoiaihjapddoaaPA
import Derived.Test.YteoiaihjapddoaaF13
namespace Go.Proofs.Yteoiaihjapddoaa.PB
open Go Go.Proofs Go.Proofs.Yteoiaihjapddoaa.PA
set_option linter.unusedSimpArgs false
set_option linter.unusedVariables false
set_option maxHeartbeats 4000000 in
theorem f13 (t : Int) (q0 q1 : List Int) (many : Int) (h0 : q0.length ≤ 16384) (hm : 0 ≤ many) :
    F13.f (([(true, t, q0, q1)], true), 0, 0, many) = some ((q0.take many.toNat, 0), [(true, t, q0.drop many.toNat, q1)], true) := by
  show F13.fP F28.f _ = _
  unfold F13.fP
  have hb : Nat.beq 0 0 = true := rfl
  have c0 : decide (many ≥ 0) = true := by simpa using hm
  have d0 : decide ((0 : Int) ≥ 0) = true := rfl
  have e0 : ((0 : Int) != 0) = false := rfl
  have e1 : decide ((0 : Int) < 0) = false := rfl
  have c3 : decide ((0 : Int) ≥ 1) = false := rfl
  simp only [Bool.not_true, cond_false, cond_true, e0, e1, c0, List.length_cons, List.length_nil, Nat.zero_add, c3, Int.toNat_zero, Nat.add_zero, List.getD_cons_zero, List.set_cons_zero, Nat.le_refl, decide_true, Bool.and_self, List.take_length, List.drop_zero, hb]
  generalize hmm : (if (q0.length : Int) < many then (q0.length : Int) else many) = m
  have m0 : 0 ≤ m ∧ m ≤ q0.length := by rw [← hmm]; split <;> omega
  have ht : q0.take many.toNat = q0.take m.toNat := by
    rw [← hmm]
    split
    · rw [List.take_of_length_le (by omega), List.take_of_length_le (by omega)]
    · rfl
  have hd : q0.drop many.toNat = q0.drop m.toNat := by
    rw [← hmm]
    split
    · rw [List.drop_of_length_le (by omega), List.drop_of_length_le (by omega)]
    · rfl
  rw [ht, hd]
  have n1 : m.toNat ≤ q0.length := by omega
  have n2 : m.toNat + ((q0.length : Int) - m).toNat = q0.length := by omega
  have k1 : List.take ((q0.length : Int) - m).toNat (List.drop m.toNat q0) = List.drop m.toNat q0 := List.take_of_length_le (by rw [List.length_drop]; omega)
  have cl := clone (List.drop m.toNat q0) (by rw [List.length_drop]; omega)
  have cn := clone [] (by simp)
  have hle : decide (m ≤ (q0.length : Int)) = true := by simpa using m0.2
  have hge : decide ((0 : Int) ≤ m) = true := by simpa using m0.1
  by_cases hm1 : m = (q0.length : Int)
  · have hdr : List.drop m.toNat q0 = [] := List.drop_of_length_le (by omega)
    rw [hdr]
    simp [hm1, cn]
  · simp [hm1, m0.1, m0.2, n1, n2, k1, cl]
end Go.Proofs.Yteoiaihjapddoaa.PB
