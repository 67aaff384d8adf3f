/- Chapter 13: what is agreed on. -/
import Derived.Test.YtemggodhikpmdaaKA
import Derived.Test.YtemggodhikpmdaaV5
import Derived.Test.YtemggodhikpmdaaV6
namespace Go.Proofs.Ytemggodhikpmdaa.KO
open Go Go.Proofs Go.RowKit Go.Proofs.Ytemggodhikpmdaa.Sx Go.Proofs.Ytemggodhikpmdaa.KA
theorem w3 (x : Int) (h0 : 0 ≤ x) (h1 : x ≤ 9223372036854775807) : IntKind.i64.wrap (x.tdiv 3) = x / 3 := by
  rw [Int.tdiv_eq_ediv_of_nonneg h0, IntKind.wrap_i64]
  omega
theorem wr (x : Int) (h0 : -9223372036854775808 ≤ x) (h1 : x ≤ 9223372036854775807) : IntKind.i64.wrap x = x := by
  rw [IntKind.wrap_i64]
  omega
theorem bounds {a : Int} (h : (Lit.int .i64 a).wf = true) : -9223372036854775808 ≤ a ∧ a ≤ 9223372036854775807 := by
  simp only [Lit.wf, Bool.and_eq_true, decide_eq_true_eq] at h
  have e1 : IntKind.i64.min = -9223372036854775808 := by decide
  have e2 : IntKind.i64.max = 9223372036854775807 := by decide
  omega
def mn (a b : Int) : Int := if b < a then b else a
def hd (a b : Int) : Int := if 0 > mn a b then 0 else mn a b
def kp (a b : Int) : Int := if 1 > IntKind.i64.wrap ((hd a b).tdiv 3) then 1 else IntKind.i64.wrap ((hd a b).tdiv 3)
theorem hd_ge (a b : Int) : 0 ≤ hd a b ∧ (hd a b = 0 → (a ≤ 0 ∨ b ≤ 0)) ∧ (0 < hd a b → hd a b ≤ a ∧ hd a b ≤ b ∧ (hd a b = a ∨ hd a b = b)) ∧ hd a b = hd b a := by
  unfold hd mn
  repeat' split
  all_goals omega
theorem kp_eq (a b : Int) (ha : a ≤ 9223372036854775807) : kp a b = if hd a b < 3 then 1 else hd a b / 3 := by
  unfold kp
  have h0 := hd_ge a b
  have : hd a b ≤ 9223372036854775807 := by
    by_cases h : 0 < hd a b
    · have := (h0.2.2.1 h).1; omega
    · omega
  rw [w3 _ h0.1 this]
  split <;> split <;> omega
theorem p5 (a b : Int) (ha : (Lit.int .i64 a).wf = true) (hb : (Lit.int .i64 b).wf = true) : V5.P a b := by
  have ha := bounds ha
  have hb := bounds hb
  unfold V5.P
  simp only [Bool.cond_eq_ite, beq_iff_eq, decide_eq_true_eq]
  show _
  by_cases h1 : b < a
  · simp only [if_pos h1]
    by_cases h2 : b ≤ 0
    · simp only [if_pos h2]
      have : ¬ (0 < b) := by omega
      have e : (if 0 > b then 0 else b) = 0 := by split <;> omega
      simp [e]
    · have e : (if 0 > b then 0 else b) = b := if_neg (by omega)
      simp only [e, if_neg h2, w3 b (by omega) hb.2]
      have : ¬ b = 0 := by omega
      by_cases h3 : b < 3
      · have e2 : (if 1 > b / 3 then 1 else b / 3) = 1 := if_pos (by omega)
        simp [this, h3, e2]
      · have e2 : (if 1 > b / 3 then 1 else b / 3) = b / 3 := if_neg (by omega)
        simp [this, h3, e2]
  · simp only [if_neg h1]
    by_cases h2 : a ≤ 0
    · simp only [if_pos h2]
      have e : (if 0 > a then 0 else a) = 0 := by split <;> omega
      simp [e]
    · have e : (if 0 > a then 0 else a) = a := if_neg (by omega)
      simp only [e, if_neg h2, w3 a (by omega) ha.2]
      have : ¬ a = 0 := by omega
      by_cases h3 : a < 3
      · have e2 : (if 1 > a / 3 then 1 else a / 3) = 1 := if_pos (by omega)
        simp [this, h3, e2]
      · have e2 : (if 1 > a / 3 then 1 else a / 3) = a / 3 := if_neg (by omega)
        simp [this, h3, e2]
theorem law5 (a : Int) (ha : (Lit.int .i64 a).wf = true) (b : Int) (hb : (Lit.int .i64 b).wf = true) (W : World) : Calls Try.prog 5 #[.int .i64 a, .int .i64 b] W (Law.Told W) :=
  law_of_vc (C := C1 Try.prog) (L := unr False 100) C1_ok mixed rfl (unr_ok (A := PA) 100) (f := 5) (args := [.int .i64 a, .int .i64 b]) (by rw [V5.e]; exact p5 a b ha hb) W
theorem p6 (a b : Int) (ha : (Lit.int .i64 a).wf = true) (hb : (Lit.int .i64 b).wf = true) : V6.P a b := by
  have ha := bounds ha
  have hb := bounds hb
  unfold V6.P
  have e1 : ∀ a b : Int, (if b < a then b else a) = mn a b := fun _ _ => rfl
  have e2 : ∀ a b : Int, (if 0 > mn a b then 0 else mn a b) = hd a b := fun _ _ => rfl
  have e3 : ∀ a b : Int, (if 1 > IntKind.i64.wrap ((hd a b).tdiv 3) then 1 else IntKind.i64.wrap ((hd a b).tdiv 3)) = kp a b := fun _ _ => rfl
  simp only [e1, e2, e3]
  have h0 := hd_ge a b
  have hk : kp b a = kp a b := by unfold kp; rw [h0.2.2.2]
  rw [kp_eq a b ha.2] at hk
  rw [kp_eq a b ha.2, hk, ← h0.2.2.2]
  have hh : hd a b ≤ 9223372036854775807 := by
    by_cases h : 0 < hd a b
    · have := (h0.2.2.1 h).1; omega
    · omega
  rw [w3 _ h0.1 hh]
  generalize hd a b = h at *
  obtain ⟨g1, g2, g3, _⟩ := h0
  have hw : IntKind.i64.wrap ((if h < 3 then 1 else h / 3) + 1) = (if h < 3 then 1 else h / 3) + 1 := by
    apply wr <;> split <;> omega
  rw [hw]
  by_cases z : h = 0
  · subst z
    simp
    have := g2 rfl
    omega
  · have g3 := g3 (by omega)
    obtain ⟨g4, g5, g6⟩ := g3
    by_cases h3 : h < 3
    · simp [z, h3, g4, g5]
      refine ⟨by omega, ?_⟩; split <;> omega
    · have : ¬ (h / 3 = 0) := by omega
      simp [z, h3, g4, g5, this]
      refine ⟨by omega, by omega, by rw [beq_eq_false_iff_ne.2 z, beq_eq_false_iff_ne.2 this], ?_⟩; split <;> omega
theorem law6 (a : Int) (ha : (Lit.int .i64 a).wf = true) (b : Int) (hb : (Lit.int .i64 b).wf = true) (W : World) : Calls Try.prog 6 #[.int .i64 a, .int .i64 b] W (Law.Told W) :=
  law_of_vc (C := C1 Try.prog) (L := unr False 100) C1_ok mixed rfl (unr_ok (A := PA) 100) (f := 6) (args := [.int .i64 a, .int .i64 b]) (by rw [V6.e]; exact p6 a b ha hb) W
end Go.Proofs.Ytemggodhikpmdaa.KO
