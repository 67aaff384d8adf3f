/- Chapter 16: an order. -/
import Derived.Test.YtldfpoacjcjnjaaKB
import Derived.Test.YtldfpoacjcjnjaaV5
namespace Go.Proofs.Ytldfpoacjcjnjaa.KO
open Go Go.Proofs Go.RowKit Go.Proofs.Ytldfpoacjcjnjaa.Sx Go.Proofs.Ytldfpoacjcjnjaa.KA Go.Proofs.Ytldfpoacjcjnjaa.KB
theorem sgn (x : Int) (h : x = -1 ∨ x = 0 ∨ x = 1) : (if (if 1 < x then 1 else x) > -1 then (if 1 < x then 1 else x) else -1) = x := by
  rcases h with rfl | rfl | rfl <;> decide
theorem cmp3 (a b : Int) : (cmp a b = -1 ∧ a < b) ∨ (cmp a b = 0 ∧ a = b) ∨ (cmp a b = 1 ∧ b < a) := by
  unfold cmp
  split
  · exact .inl ⟨rfl, by assumption⟩
  · split
    · exact .inr (.inr ⟨rfl, by omega⟩)
    · exact .inr (.inl ⟨rfl, by omega⟩)
theorem cmpS3 (a b c d : Int) : (cmpS a b c d = -1 ∧ (a < c ∨ a = c ∧ b < d)) ∨ (cmpS a b c d = 0 ∧ a = c ∧ b = d) ∨ (cmpS a b c d = 1 ∧ (c < a ∨ a = c ∧ d < b)) := by
  unfold cmpS
  rcases cmp3 a c with ⟨h1, h2⟩ | ⟨h1, h2⟩ | ⟨h1, h2⟩ <;> rw [h1]
  · exact .inl ⟨rfl, .inl h2⟩
  · rcases cmp3 b d with ⟨h3, h4⟩ | ⟨h3, h4⟩ | ⟨h3, h4⟩ <;> rw [if_pos rfl, h3] <;> simp [h2, h4]
  · exact .inr (.inr ⟨rfl, .inl h2⟩)
theorem tri {a b c d : Int} : cmpS a b c d = -1 ∨ cmpS a b c d = 0 ∨ cmpS a b c d = 1 := by
  rcases cmpS3 a b c d with h | h | h <;> simp [h.1]
theorem p5 (a b c d e f : Int) : V5.P a b c d e f := by
  unfold V5.P
  simp only [sgn _ tri]
  have w : ∀ x : Int, (x = -1 ∨ x = 0 ∨ x = 1) → IntKind.i64.wrap (0 - x) = 0 - x := by
    intro x h
    rcases h with rfl | rfl | rfl <;> decide
  rw [w _ tri]
  rcases cmpS3 a b c d with ⟨h1, h2⟩ | ⟨h1, h2⟩ | ⟨h1, h2⟩ <;> rcases cmpS3 c d e f with ⟨h3, h4⟩ | ⟨h3, h4⟩ | ⟨h3, h4⟩ <;> rcases cmpS3 a b e f with ⟨h5, h6⟩ | ⟨h5, h6⟩ | ⟨h5, h6⟩ <;> rcases cmpS3 c d a b with ⟨h7, h8⟩ | ⟨h7, h8⟩ | ⟨h7, h8⟩ <;>
    first
    | (exfalso; omega)
    | (rw [h1, h3, h5, h7]; simp; try omega)
theorem law (a b c d e f : Int) (W : World) : Calls Try.prog 5 #[.agg #[.int .u32 a, .int .u32 b], .agg #[.int .u32 c, .int .u32 d], .agg #[.int .u32 e, .int .u32 f]] W (Law.Told W) :=
  law_of_vc (C := C2 Try.prog) (L := unr False 100) C2_ok mixed rfl (unr_ok (A := PA) 100) (f := 5) (args := [.agg #[.int .u32 a, .int .u32 b], .agg #[.int .u32 c, .int .u32 d], .agg #[.int .u32 e, .int .u32 f]]) (by rw [V5.e]; exact p5 a b c d e f) W
end Go.Proofs.Ytldfpoacjcjnjaa.KO
