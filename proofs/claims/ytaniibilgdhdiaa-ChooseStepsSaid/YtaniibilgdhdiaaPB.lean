/- Chapter 21: step by step: a greater Pref wins, and so on. -/
import Derived.Test.YtaniibilgdhdiaaPA
import Derived.Test.YtaniibilgdhdiaaF3
import Derived.Test.YtaniibilgdhdiaaZK
import Derived.IntWalk
namespace Go.Proofs.Ytaniibilgdhdiaa.PB
open Go Go.Proofs Go.Proofs.Ytaniibilgdhdiaa.PA Go.Proofs.Ytaniibilgdhdiaa.Sx
set_option linter.unusedSimpArgs false
set_option linter.unusedVariables false
theorem n1 : decide ((-1 : Int) < 0) = true := rfl
theorem n2 : decide ((1 : Int) < 0) = false := rfl
theorem one0 : ¬ (1 : Int) = 0 := by decide
theorem mone0 : ¬ (-1 : Int) = 0 := by decide
section
variable (p q : Int) (h : q < p) (x1 x2 x3 x4 x5 x6 x7 x8 y1 y2 y3 y4 y5 y6 y7 y8 : Int)
include h
theorem a0f : decide ((cmp false (q, x1, x2, x3, x4, x5, x6, x7, x8) (p, y1, y2, y3, y4, y5, y6, y7, y8)).fst < 0) = false := by
  simp only [cmp, parts, fst, c3_gt h, one0, if_false, n2]
theorem a0t : decide ((cmp false (p, y1, y2, y3, y4, y5, y6, y7, y8) (q, x1, x2, x3, x4, x5, x6, x7, x8)).fst < 0) = true := by
  simp only [cmp, parts, fst, c3_lt h, mone0, if_false, n1]
end
section
variable (z p q : Int) (h : p < q) (x2 x3 x4 x5 x6 x7 x8 y2 y3 y4 y5 y6 y7 y8 : Int)
include h
theorem a1f : decide ((cmp false (z, q, x2, x3, x4, x5, x6, x7, x8) (z, p, y2, y3, y4, y5, y6, y7, y8)).fst < 0) = false := by
  simp only [cmp, parts, fst, c3_eq, c3_gt h, one0, if_false, if_true, n2]
theorem a1t : decide ((cmp false (z, p, y2, y3, y4, y5, y6, y7, y8) (z, q, x2, x3, x4, x5, x6, x7, x8)).fst < 0) = true := by
  simp only [cmp, parts, fst, c3_eq, c3_lt h, mone0, if_false, if_true, n1]
end
section
variable (z w p q : Int) (h : p < q) (x3 x4 x5 x6 x7 x8 y3 y4 y5 y6 y7 y8 : Int)
include h
theorem a2f : decide ((cmp false (z, w, q, x3, x4, x5, x6, x7, x8) (z, w, p, y3, y4, y5, y6, y7, y8)).fst < 0) = false := by
  simp only [cmp, parts, fst, c3_eq, c3_gt h, one0, if_false, if_true, n2]
theorem a2t : decide ((cmp false (z, w, p, y3, y4, y5, y6, y7, y8) (z, w, q, x3, x4, x5, x6, x7, x8)).fst < 0) = true := by
  simp only [cmp, parts, fst, c3_eq, c3_lt h, mone0, if_false, if_true, n1]
end
section
variable (z w v p q : Int) (h : cls p < cls q) (x3 x4 x6 x7 x8 y3 y4 y6 y7 y8 : Int)
include h
theorem a5f : decide ((cmp false (z, w, v, x3, x4, q, x6, x7, x8) (z, w, v, y3, y4, p, y6, y7, y8)).fst < 0) = false := by
  simp only [cmp, parts, fst, c3_eq, c3_gt h, one0, if_false, if_true, n2, Bool.false_eq_true, false_and]
theorem a5t : decide ((cmp false (z, w, v, y3, y4, p, y6, y7, y8) (z, w, v, x3, x4, q, x6, x7, x8)).fst < 0) = true := by
  simp only [cmp, parts, fst, c3_eq, c3_lt h, mone0, if_false, if_true, n1, Bool.false_eq_true, false_and]
end
section
variable (z w v s t p q : Int) (hs : cls s = cls t) (h : p < q) (x3 x4 x7 x8 y3 y4 y7 y8 : Int)
include hs h
theorem a6f : decide ((cmp false (z, w, v, x3, x4, s, q, x7, x8) (z, w, v, y3, y4, t, p, y7, y8)).fst < 0) = false := by
  simp only [cmp, parts, fst, c3_eq, hs, c3_gt h, one0, if_false, if_true, n2, Bool.false_eq_true, false_and]
theorem a6t : decide ((cmp false (z, w, v, y3, y4, t, p, y7, y8) (z, w, v, x3, x4, s, q, x7, x8)).fst < 0) = true := by
  simp only [cmp, parts, fst, c3_eq, hs, c3_lt h, mone0, if_false, if_true, n1, Bool.false_eq_true, false_and]
end
theorem half (a : Int) (h : -9223372036854775808 ≤ a ∧ a ≤ 9223372036854775807) : -4611686018427387904 ≤ a.tdiv 2 ∧ a.tdiv 2 ≤ 4611686018427387903 := by
  by_cases h0 : 0 ≤ a
  · rw [Int.tdiv_eq_ediv_of_nonneg h0]; omega
  · have e : a.tdiv 2 = -((-a) / 2) := by
      have e1 : a = -(-a) := by omega
      rw [e1, Int.neg_tdiv, Int.neg_neg, Int.tdiv_eq_ediv_of_nonneg (by omega)]
    rw [e]; omega
theorem steps1 (a0 a1 a2 a3 a4 a5 a6 a7 a8 b0 b1 b2 b3 b4 b5 b6 b7 b8 : Int) (r0 : 0 ≤ a0 ∧ a0 ≤ 4294967295) (r2 : 0 ≤ a2 ∧ a2 ≤ 255) (r6 : -9223372036854775808 ≤ a6 ∧ a6 ≤ 9223372036854775807) :
    F3.f ((a0, a1, a2, a3, a4, a5, a6, a7, a8), (b0, b1, b2, b3, b4, b5, b6, b7, b8)) = some (true, ()) := by
  show F3.fP _ _ = _
  unfold F3.fP
  have hp : IntKind.u32.wrap (IntKind.u32.wrap (a0.tdiv 2) + 1) = a0 / 2 + 1 := by
    rw [Int.tdiv_eq_ediv_of_nonneg r0.1, IntWalk.u32_in (a0 / 2) (by omega), IntWalk.u32_in _ (by omega)]
  have hq : IntKind.u32.wrap (a0 / 2 + 1 - 1) = a0 / 2 := by rw [show a0 / 2 + 1 - 1 = a0 / 2 by omega, IntWalk.u32_in _ (by omega)]
  have hu : 0 ≤ IntKind.u64.wrap a1 := by simp only [IntKind.wrap, IntKind.signed, Bool.false_eq_true, if_false]; exact Int.emod_nonneg _ (by decide)
  have hl : ∃ L : Int, IntKind.i64.wrap ((IntKind.u64.wrap a1).tmod 1000) = L ∧ IntKind.i64.wrap (L + 1) = L + 1 := by
    refine ⟨_, rfl, ?_⟩
    rw [Int.tmod_eq_emod_of_nonneg hu]
    have : 0 ≤ IntKind.u64.wrap a1 % 1000 ∧ IntKind.u64.wrap a1 % 1000 < 1000 := ⟨Int.emod_nonneg _ (by decide), Int.emod_lt_of_pos _ (by decide)⟩
    rw [IntWalk.i64_in (IntKind.u64.wrap a1 % 1000) (by omega), IntWalk.i64_in _ (by omega)]
  obtain ⟨L, hL, hL1⟩ := hl
  have ho : ∃ o : Int, a2.tmod 2 = o ∧ IntKind.u8.wrap (o + 1) = o + 1 := by
    refine ⟨_, rfl, ?_⟩
    rw [Int.tmod_eq_emod_of_nonneg r2.1]
    rw [IntWalk.u8_in _ (by omega)]
  obtain ⟨o, hO, hO1⟩ := ho
  have hc : ∃ c : Int, IntKind.i64.wrap (IntKind.i64.wrap (a6.tdiv 2) - 1) = c ∧ IntKind.i64.wrap (c + 1) = c + 1 := by
    refine ⟨_, rfl, ?_⟩
    have : -4611686018427387904 ≤ a6.tdiv 2 ∧ a6.tdiv 2 ≤ 4611686018427387903 := half a6 r6
    rw [IntWalk.i64_in (a6.tdiv 2) (by omega), IntWalk.i64_in (a6.tdiv 2 - 1) (by omega), IntWalk.i64_in _ (by omega)]
  obtain ⟨c, hC, hC1⟩ := hc
  simp only [hp, hq, hL, hL1, hO, hO1, hC, hC1, PA.compare, Option.bind_some]
  simp only [a0f (a0 / 2 + 1) (a0 / 2) (by omega), a0t (a0 / 2 + 1) (a0 / 2) (by omega), a1f (a0 / 2 + 1) L (L + 1) (by omega), a1t (a0 / 2 + 1) L (L + 1) (by omega),
    a2f (a0 / 2 + 1) L o (o + 1) (by omega), a2t (a0 / 2 + 1) L o (o + 1) (by omega),
    a5f (a0 / 2 + 1) L o 0 3 (by decide), a5t (a0 / 2 + 1) L o 0 3 (by decide), a5f (a0 / 2 + 1) L o 0 1 (by decide), a5t (a0 / 2 + 1) L o 0 1 (by decide),
    a5f (a0 / 2 + 1) L o 3 2 (by decide), a5t (a0 / 2 + 1) L o 3 2 (by decide), a5f (a0 / 2 + 1) L o 3 1 (by decide), a5t (a0 / 2 + 1) L o 3 1 (by decide),
    a5f (a0 / 2 + 1) L o 1 9 (by decide), a5t (a0 / 2 + 1) L o 1 9 (by decide),
    a6f (a0 / 2 + 1) L o 1 2 c (c + 1) (by decide) (by omega), a6t (a0 / 2 + 1) L o 1 2 c (c + 1) (by decide) (by omega), cond_true, cond_false]
theorem steps (d : Den F3.i) (hd : wfD F3.i d) : ∃ q, F3.f d = some (true, q) := by
  obtain ⟨⟨a0, a1, a2, a3, a4, a5, a6, a7, a8⟩, ⟨b0, b1, b2, b3, b4, b5, b6, b7, b8⟩⟩ := d
  exact ⟨(), steps1 a0 a1 a2 a3 a4 a5 a6 a7 a8 b0 b1 b2 b3 b4 b5 b6 b7 b8 hd.1.1 hd.1.2.2.1 hd.1.2.2.2.2.2.2.1⟩
end Go.Proofs.Ytaniibilgdhdiaa.PB
