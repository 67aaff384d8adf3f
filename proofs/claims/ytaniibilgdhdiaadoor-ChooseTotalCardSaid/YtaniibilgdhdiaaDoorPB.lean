/- Chapter 21: an order: better goes on from one to the next. -/
import Derived.Test.YtaniibilgdhdiaaDoorPA
namespace Go.Proofs.YtaniibilgdhdiaaDoor.PB
open Go Go.Proofs Go.Proofs.YtaniibilgdhdiaaDoor.PA
set_option linter.unusedSimpArgs false
set_option linter.unusedVariables false
theorem c3_cases (x y : Int) : (x < y ∧ c3 x y = -1) ∨ (x = y ∧ c3 x y = 0) ∨ (y < x ∧ c3 x y = 1) := by
  unfold c3
  by_cases h : x < y
  · exact .inl ⟨h, if_pos h⟩
  · by_cases h2 : y < x
    · exact .inr (.inr ⟨h2, by rw [if_neg h, if_pos h2]⟩)
    · exact .inr (.inl ⟨by omega, by rw [if_neg h, if_neg h2]⟩)
def lex : List Int → List Int → Int
  | x :: a, y :: b => if c3 x y = 0 then lex a b else c3 x y
  | _, _ => 0
theorem lex_le : ∀ (a b c : List Int), a.length = b.length → b.length = c.length → lex a b ≤ 0 → lex b c ≤ 0 → lex a c ≤ 0
  | [], _, _, _, _, _, _ => by simp [lex]
  | x :: a, [], _, h, _, _, _ => by simp at h
  | x :: a, y :: b, [], _, h, _, _ => by simp at h
  | x :: a, y :: b, z :: c, h1, h2, h3, h4 => by
    simp only [lex] at h3 h4 ⊢
    have ih := lex_le a b c (by simpa using h1) (by simpa using h2)
    rcases c3_cases x y with ⟨g, e⟩ | ⟨g, e⟩ | ⟨g, e⟩ <;> rcases c3_cases y z with ⟨g', e'⟩ | ⟨g', e'⟩ | ⟨g', e'⟩ <;> rcases c3_cases x z with ⟨g'', e''⟩ | ⟨g'', e''⟩ | ⟨g'', e''⟩ <;> simp [e, e', e''] at h3 h4 ⊢ <;> first | omega | exact ih h3 h4
theorem lex_eq : ∀ (a b c : List Int), a.length = b.length → b.length = c.length → lex a b = 0 → lex b c = 0 → lex a c = 0
  | [], _, _, _, _, _, _ => by simp [lex]
  | x :: a, [], _, h, _, _, _ => by simp at h
  | x :: a, y :: b, [], _, h, _, _ => by simp at h
  | x :: a, y :: b, z :: c, h1, h2, h3, h4 => by
    simp only [lex] at h3 h4 ⊢
    have ih := lex_eq a b c (by simpa using h1) (by simpa using h2)
    rcases c3_cases x y with ⟨g, e⟩ | ⟨g, e⟩ | ⟨g, e⟩ <;> rcases c3_cases y z with ⟨g', e'⟩ | ⟨g', e'⟩ | ⟨g', e'⟩ <;> rcases c3_cases x z with ⟨g'', e''⟩ | ⟨g'', e''⟩ | ⟨g'', e''⟩ <;> simp [e, e', e''] at h3 h4 ⊢ <;> first | omega | exact ih h3 h4
/-- What is compared of a candidate. -/
def K (med : Bool) (a : Cand) : List Int := [-a.1, a.2.1, a.2.2.1, if med = true then a.2.2.2.1 else 0, cls a.2.2.2.2.2.1, a.2.2.2.2.2.2.1, a.2.2.2.2.2.2.2.1, a.2.2.2.2.2.2.2.2]
theorem c3_flip (x y : Int) : c3 (-x) (-y) = c3 y x := by
  unfold c3
  by_cases h : y < x
  · rw [if_pos h, if_pos (by omega)]
  · by_cases h2 : x < y
    · rw [if_neg (by omega), if_pos (by omega), if_neg h, if_pos h2]
    · rw [if_neg (by omega), if_neg (by omega), if_neg h, if_neg h2]
theorem cmp_lex (med : Bool) (a b : Cand) (h : med = true → a.2.2.2.2.1 = b.2.2.2.2.1) : (cmp med a b).1 = lex (K med a) (K med b) := by
  unfold cmp parts K
  simp only [fst, lex, c3_flip]
  cases med with
  | false => simp only [Bool.false_eq_true, false_and, if_false, c3_eq, if_true]; repeat' split
             all_goals rfl
  | true => simp only [true_and, h rfl, if_true]; repeat' split
            all_goals rfl
theorem fst_neg : ∀ (l : List (Int × Int)), fst (l.map fun x => (-x.1, x.2)) = (-(fst l).1, (fst l).2)
  | [] => rfl
  | (o, k) :: l => by
    simp only [List.map_cons, fst]
    by_cases h : o = 0
    · subst h; simp [fst_neg l]
    · have h' : ¬ -o = 0 := by omega
      simp [h, h']
theorem turned (med : Bool) (a b : Cand) : cmp med b a = (-(cmp med a b).1, (cmp med a b).2) := by
  have e : parts med b a = (parts med a b).map fun x => (-x.1, x.2) := by
    unfold parts
    simp only [List.map_cons, List.map_nil]
    rw [c3_neg b.1 a.1, c3_neg a.2.1 b.2.1, c3_neg a.2.2.1 b.2.2.1, c3_neg (cls a.2.2.2.2.2.1), c3_neg a.2.2.2.2.2.2.1, c3_neg a.2.2.2.2.2.2.2.1, c3_neg a.2.2.2.2.2.2.2.2]
    by_cases h : med = true ∧ a.2.2.2.2.1 = b.2.2.2.2.1
    · have h' : med = true ∧ b.2.2.2.2.1 = a.2.2.2.2.1 := ⟨h.1, h.2.symm⟩
      rw [if_pos h, if_pos h', c3_neg a.2.2.2.1]
    · have h' : ¬ (med = true ∧ b.2.2.2.2.1 = a.2.2.2.2.1) := fun g => h ⟨g.1, g.2.symm⟩
      rw [if_neg h, if_neg h']
      rfl
  unfold cmp
  rw [e, fst_neg]
theorem same (med : Bool) (a : Cand) : cmp med a a = (0, 0) := by
  unfold cmp parts
  simp only [fst, c3_eq, if_true, ite_self]
theorem zero : ∀ (l : List (Int × Int)), (∀ x ∈ l, 1 ≤ x.2 ∧ x.2 ≤ 8) → ((fst l).1 = 0 ↔ (fst l).2 = 0) ∧ 0 ≤ (fst l).2 ∧ (fst l).2 ≤ 8
  | [], _ => by simp [fst]
  | (o, k) :: l, h => by
    have h1 := h (o, k) (by simp)
    have ih := zero l (fun x hx => h x (by simp [hx]))
    simp only at h1
    simp only [fst]
    by_cases h0 : o = 0
    · rw [if_pos h0]; exact ih
    · rw [if_neg h0]; simp only; omega
theorem reason (med : Bool) (a b : Cand) : ((cmp med a b).1 = 0 ↔ (cmp med a b).2 = 0) ∧ 0 ≤ (cmp med a b).2 ∧ (cmp med a b).2 ≤ 8 := by
  refine zero _ (fun x hx => ?_)
  unfold parts at hx
  simp only [List.mem_cons, List.not_mem_nil, or_false] at hx
  rcases hx with rfl | rfl | rfl | rfl | rfl | rfl | rfl | rfl <;> simp
/-- What stands ahead of the reason is alike. -/
theorem ahead (med : Bool) (a b : Cand) : (1 < (cmp med a b).2 → a.1 = b.1) ∧ (2 < (cmp med a b).2 → a.2.1 = b.2.1) ∧ (3 < (cmp med a b).2 → a.2.2.1 = b.2.2.1) ∧
    (med = true → a.2.2.2.2.1 = b.2.2.2.2.1 → 4 < (cmp med a b).2 → a.2.2.2.1 = b.2.2.2.1) ∧ (6 < (cmp med a b).2 → a.2.2.2.2.2.2.1 = b.2.2.2.2.2.2.1) := by
  unfold cmp parts
  simp only [fst]
  by_cases h1 : c3 b.1 a.1 = 0
  case neg => simp only [h1, if_false]; exact ⟨fun g => by simp at g, fun g => by simp at g, fun g => by simp at g, fun _ _ g => by simp at g, fun g => by simp at g⟩
  by_cases h2 : c3 a.2.1 b.2.1 = 0
  case neg => simp only [h1, h2, if_true, if_false]; exact ⟨fun _ => (c3_0 h1).symm, fun g => by simp at g, fun g => by simp at g, fun _ _ g => by simp at g, fun g => by simp at g⟩
  by_cases h3 : c3 a.2.2.1 b.2.2.1 = 0
  case neg => simp only [h1, h2, h3, if_true, if_false]; exact ⟨fun _ => (c3_0 h1).symm, fun _ => c3_0 h2, fun g => by simp at g, fun _ _ g => by simp at g, fun g => by simp at g⟩
  by_cases h4 : (if med = true ∧ a.2.2.2.2.1 = b.2.2.2.2.1 then c3 a.2.2.2.1 b.2.2.2.1 else 0) = 0
  case neg => simp only [h1, h2, h3, h4, if_true, if_false]; refine ⟨fun _ => (c3_0 h1).symm, fun _ => c3_0 h2, fun _ => c3_0 h3, fun _ _ g => by simp at g, fun g => by simp at g⟩
  have m4 : med = true → a.2.2.2.2.1 = b.2.2.2.2.1 → a.2.2.2.1 = b.2.2.2.1 := fun g g' => c3_0 (by rw [if_pos ⟨g, g'⟩] at h4; exact h4)
  simp only [h1, h2, h3, h4, if_true]
  refine ⟨fun _ => (c3_0 h1).symm, fun _ => c3_0 h2, fun _ => c3_0 h3, fun g g' _ => m4 g g', fun g => ?_⟩
  by_cases h5 : c3 (cls a.2.2.2.2.2.1) (cls b.2.2.2.2.2.1) = 0
  case neg => rw [if_neg h5] at g; simp at g
  rw [if_pos h5] at g
  by_cases h6 : c3 a.2.2.2.2.2.2.1 b.2.2.2.2.2.2.1 = 0
  · exact c3_0 h6
  · rw [if_neg h6] at g; simp at g
end Go.Proofs.YtaniibilgdhdiaaDoor.PB
