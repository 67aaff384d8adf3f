/- Plain law of clash, for 'ClashAgrees': both sides agree on who stays. No condition. -/
import Derived.Test.YtldfpoacjcjnjaaPClashAgreesx
import Derived.Test.YtldfpoacjcjnjaaLaw
namespace Go.Proofs.Ytldfpoacjcjnjaa.PClashAgrees
open Go.RowKit Go.Proofs.YtldfpoacjcjnjaaW.PrintWords
set_option linter.unusedSimpArgs false
set_option linter.unusedVariables false

def cmpI (a b : Int) : Int := if a < b then -1 else if a > b then 1 else 0

theorem ip16 (a b : Int) : api_IP_16.f a b = some (cmpI a b) := by
  unfold api_IP_16.f api_IP_18.f cmpI
  simp
  split
  · rfl
  · split <;> rfl
theorem as17 (a b : Int) : api_AS_17.f a b = some (cmpI a b) := by
  unfold api_AS_17.f api_AS_19.f cmpI
  simp
  split
  · rfl
  · split <;> rfl
theorem or2 (k : Nat) (x y : Int) : cmp_Or_int.f (k + 3) [x, y] = some (if x = 0 then y else x) := by
  have w1 : wrap64 1 = 1 := by unfold wrap64; omega
  have w2 : wrap64 2 = 2 := by unfold wrap64; omega
  simp [cmp_Or_int.f, cmp_Or_int.l0, rd, w1, w2]
  by_cases hx : x = 0 <;> by_cases hy : y = 0 <;> simp [hx, hy]
def cmpS (a b c d : Int) : Int := if cmpI a c = 0 then cmpI b d else cmpI a c
theorem compare_eq (k : Nat) (a b c d : Int) : clash_Compare.f (k + 3) a b c d = some (cmpS a b c d) := by
  unfold clash_Compare.f
  rw [ip16, as17]
  simp only [Option.bind_some]
  rw [or2]
  rfl
theorem cmpS_flip (a b c d : Int) : cmpS c d a b = - cmpS a b c d := by
  unfold cmpS cmpI
  repeat' split
  all_goals omega
theorem cmpS_zero (a b c d : Int) : cmpS a b c d = 0 ↔ (a = c ∧ b = d) := by
  unfold cmpS cmpI
  repeat' split
  all_goals omega
def judgeS (a b c d : Int) (o : Bool) (s : Int) (f : Bool) : Int :=
  if s < 4 ∨ s > 6 then 0 else if s = 6 ∨ o = f then 1 else if cmpS a b c d = 0 then 3 else if o = decide (cmpS a b c d > 0) then 1 else 2
theorem judge_eq (k : Nat) (a b c d : Int) (o : Bool) (s : Int) (f : Bool) (s' : Int) : clash_Judge.f (k + 5) a b c d o s f s' = some (judgeS a b c d o s f) := by
  unfold clash_Judge.f
  have H1 : ∀ x18, clash_Judge.j1 (k + 4) x18 a b c d o s = some (if x18 = true then 1 else if cmpS a b c d = 0 then 3 else if o = decide (cmpS a b c d > 0) then 1 else 2) := by
    intro x
    simp only [clash_Judge.j1, compare_eq, Option.bind_some]
    have hz := cmpS_zero a b c d
    by_cases hx : x = true
    · simp [hx]
    · rw [if_neg hx, if_neg hx]
      by_cases he : a = c ∧ b = d
      · have : (a == c && b == d) = true := by simp [he]
        rw [if_pos this, if_pos (hz.2 he)]
      · have : ¬ (a == c && b == d) = true := by simpa using he
        rw [if_neg this, if_neg (fun h => he (hz.1 h))]
        by_cases h : o = decide (cmpS a b c d > 0)
        · simp [← h]
        · rw [if_neg (by simpa using h), if_neg h]
  have H0 : ∀ x9, clash_Judge.j0 (k + 5) x9 a b c d o s f s' = some (if x9 = true then 0 else if s = 6 ∨ o = f then 1 else if cmpS a b c d = 0 then 3 else if o = decide (cmpS a b c d > 0) then 1 else 2) := by
    intro x
    simp only [clash_Judge.j0, H1]
    by_cases hx : x = true
    · simp [hx]
    · rw [if_neg hx, if_neg hx]
      by_cases h6 : s = 6
      · simp [h6]
      · rw [if_neg h6]
        by_cases hf : o = f
        · simp [hf]
        · have h1 : ¬ (o == f) = true := by simpa using hf
          have h2 : ¬ (s = 6 ∨ o = f) := by simp [h6, hf]
          rw [if_neg h1, if_neg h2]
  unfold judgeS
  by_cases h4 : s < 4
  · simp [h4, H0]
  · by_cases h7 : s > 6
    · simp [h4, h7, H0]
    · rw [if_neg h4, H0]
      have : ¬ (decide (s > 6)) = true := by simpa using h7
      rw [if_neg this, if_neg (by omega : ¬ (s < 4 ∨ s > 6))]
theorem tells_eq (k : Nat) : consulatelaw16_tells.f (k + 5) = some true := by
  unfold consulatelaw16_tells.f
  simp only [judge_eq, Option.bind_some]
  decide

theorem tmod_nn (x y : Int) (h : 0 ≤ x) : Int.tmod x y = x % y := Int.tmod_eq_emod_of_nonneg h
theorem stays_eq (k : Nat) (a b c d : Int) (o : Bool) (s : Int) : consulatelaw16_stays.f (k + 5) a b c d o s = some (if s < 4 ∨ s > 6 then 0 else if s = 6 then (if o = true then 1 else 2) else if cmpS a b c d = 0 then 3 else if cmpS a b c d > 0 then 1 else 2) := by
  unfold consulatelaw16_stays.f
  rw [judge_eq]
  unfold judgeS
  by_cases h4 : s < 4 ∨ s > 6
  · simp [h4]
  · by_cases h6 : s = 6
    · subst h6; cases o <;> simp
    · by_cases hz : cmpS a b c d = 0
      · cases o <;> simp [h4, h6, hz]
      · by_cases hp : cmpS a b c d > 0 <;> cases o <;> simp [h4, h6, hz, hp]
theorem agrees_pure (a b c d : Int) (f s : Bool) (t : Int) (h0 : 0 ≤ t) (h1 : t ≤ 255) : consulatelaw16_ClashAgrees.f 6 a b c d f s t = some true := by
  have hk : wrap64 (4 + (wrap64 (Int.tmod t 2))) = 4 ∨ wrap64 (4 + (wrap64 (Int.tmod t 2))) = 5 := by
    rw [tmod_nn t 2 h0]; unfold wrap64; omega
  have hm : wrap64 (1 + (wrap64 (Int.tmod t 3))) < 4 := by
    rw [tmod_nn t 3 h0]; unfold wrap64; omega
  generalize hkk : wrap64 (4 + (wrap64 (Int.tmod t 2))) = k at hk
  generalize hmm : wrap64 (1 + (wrap64 (Int.tmod t 3))) = m at hm
  have hfl := cmpS_flip a b c d
  have hz := cmpS_zero a b c d
  have w1 : wrap64 2 = 2 := by unfold wrap64; omega
  have w2 : wrap64 1 = 1 := by unfold wrap64; omega
  have h46 : ¬ (k < 4 ∨ k > 6) := by omega
  have h6 : ¬ k = 6 := by omega
  have hm4 : (m < 4 ∨ m > 6) := by omega
  unfold consulatelaw16_ClashAgrees.f
  rw [stays_eq 1, stays_eq 1, compare_eq 3]
  simp only [hkk, Option.bind_some, if_neg h46, if_neg h6, hfl, consulatelaw16_ClashAgrees.j0, stays_eq 0, hmm, hkk, if_pos hm4, tells_eq 0]
  rcases (by omega : cmpS a b c d = 0 ∨ cmpS a b c d > 0 ∨ cmpS a b c d < 0) with h | h | h
  · have e := hz.1 h
    obtain ⟨rfl, rfl⟩ := e
    cases f <;> simp [h, consulatelaw16_turned.f]
  · have h' : ¬ cmpS a b c d = 0 := by omega
    have e : (a == c && b == d) = false := by
      rw [Bool.and_eq_false_iff]
      by_cases ha : a = c
      · right; rw [beq_eq_false_iff_ne]; intro hb; exact h' (hz.2 ⟨ha, hb⟩)
      · left; rw [beq_eq_false_iff_ne]; exact ha
    have h3 : ¬ cmpS a b c d < 0 := by omega
    have h5 : 0 ≤ cmpS a b c d := by omega
    cases f <;> simp [h, h', e, h3, h5, consulatelaw16_turned.f, w1, w2]
  · have h' : ¬ cmpS a b c d = 0 := by omega
    have e : (a == c && b == d) = false := by
      rw [Bool.and_eq_false_iff]
      by_cases ha : a = c
      · right; rw [beq_eq_false_iff_ne]; intro hb; exact h' (hz.2 ⟨ha, hb⟩)
      · left; rw [beq_eq_false_iff_ne]; exact ha
    have h3 : ¬ 0 ≤ cmpS a b c d := by omega
    have h5 : ¬ 0 < cmpS a b c d := by omega
    cases f <;> simp [h, h', e, h3, h5, consulatelaw16_turned.f, w1, w2]
open Go.ChangeShapes Go.WideShapes in
theorem walk (a0 : Int) (_ : (Lit.int .u32 a0).wf = true) (a1 : Int) (_ : (Lit.int .u32 a1).wf = true) (a2 : Int) (_ : (Lit.int .u32 a2).wf = true) (a3 : Int) (_ : (Lit.int .u32 a3).wf = true) (f s : Bool) (t : Int) (ht : (Lit.int .u8 t).wf = true) (W : World) :
    Calls Try.prog 4 #[.agg #[.int .u32 a0, .int .u32 a1], .agg #[.int .u32 a2, .int .u32 a3], .bool f, .bool s, .int .u8 t] W (Law.Told W) := by
  have hb := bounds_u8 ht
  exact (consulatelaw16_ClashAgrees.calls 6 a0 a1 a2 a3 f s t true W (agrees_pure a0 a1 a2 a3 f s t hb.1 hb.2)).mono fun e W' h => h
end Go.Proofs.Ytldfpoacjcjnjaa.PClashAgrees
