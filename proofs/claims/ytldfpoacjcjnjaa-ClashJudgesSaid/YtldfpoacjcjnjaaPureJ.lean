/- Plain law of clash: what is compared and judged, in numbers; from it 'ClashJudges' and 'ClashAgrees' return true. No condition. -/
import Derived.Test.YtldfpoacjcjnjaaPClashJudgesx
namespace Go.Proofs.Ytldfpoacjcjnjaa.PClashJudges
open Go.RowKit Go.Proofs.YtldfpoacjcjnjaaW.PrintWords

def cmpI (a b : Int) : Int := if a < b then -1 else if a > b then 1 else 0

theorem ip16 (a b : Int) : api_IP_16.f a b = some (cmpI a b) := by
  unfold api_IP_16.f api_IP_18.f cmpI
  simp
  split
  · rfl
  · split <;> rfl
theorem as17 (a b : Int) : api_AS_17.f a b = some (cmpI a b) := by
  unfold api_AS_17.f api_AS_19.f cmpI
  simp
  split
  · rfl
  · split <;> rfl
theorem or2 (k : Nat) (x y : Int) : cmp_Or_int.f (k + 3) [x, y] = some (if x = 0 then y else x) := by
  have w1 : wrap64 1 = 1 := by unfold wrap64; omega
  have w2 : wrap64 2 = 2 := by unfold wrap64; omega
  simp [cmp_Or_int.f, cmp_Or_int.l0, rd, w1, w2]
  by_cases hx : x = 0 <;> by_cases hy : y = 0 <;> simp [hx, hy]
def cmpS (a b c d : Int) : Int := if cmpI a c = 0 then cmpI b d else cmpI a c
theorem compare_eq (k : Nat) (a b c d : Int) : clash_Compare.f (k + 3) a b c d = some (cmpS a b c d) := by
  unfold clash_Compare.f
  rw [ip16, as17]
  simp only [Option.bind_some]
  rw [or2]
  rfl
theorem higher_eq (a b c d : Int) : consulateref16_Higher.f a b c d = some (decide (cmpS a b c d > 0)) := by
  unfold consulateref16_Higher.f cmpS cmpI
  by_cases h1 : a < c
  · have h2 : ¬ a > c := by omega
    have h3 : ¬ a = c := by omega
    simp [h1, h2, h3]
  · by_cases h2 : a > c
    · simp [h1, h2]
    · have h3 : a = c := by omega
      subst h3
      simp
      by_cases h4 : d < b
      · have h5 : ¬ b < d := by omega
        simp [h4, h5]
      · by_cases h5 : b < d <;> simp [h4, h5]
theorem cmpS_flip (a b c d : Int) : cmpS c d a b = - cmpS a b c d := by
  unfold cmpS cmpI
  repeat' split
  all_goals omega
theorem cmpS_zero (a b c d : Int) : cmpS a b c d = 0 ↔ (a = c ∧ b = d) := by
  unfold cmpS cmpI
  repeat' split
  all_goals omega
def judgeS (a b c d : Int) (o : Bool) (s : Int) (f : Bool) : Int :=
  if s < 4 ∨ s > 6 then 0 else if s = 6 ∨ o = f then 1 else if cmpS a b c d = 0 then 3 else if o = decide (cmpS a b c d > 0) then 1 else 2
theorem judge_eq (k : Nat) (a b c d : Int) (o : Bool) (s : Int) (f : Bool) (s' : Int) : clash_Judge.f (k + 5) a b c d o s f s' = some (judgeS a b c d o s f) := by
  unfold clash_Judge.f
  have H1 : ∀ x18, clash_Judge.j1 (k + 4) x18 a b c d o s = some (if x18 = true then 1 else if cmpS a b c d = 0 then 3 else if o = decide (cmpS a b c d > 0) then 1 else 2) := by
    intro x
    simp only [clash_Judge.j1, compare_eq, Option.bind_some]
    have hz := cmpS_zero a b c d
    by_cases hx : x = true
    · simp [hx]
    · rw [if_neg hx, if_neg hx]
      by_cases he : a = c ∧ b = d
      · have : (a == c && b == d) = true := by simp [he]
        rw [if_pos this, if_pos (hz.2 he)]
      · have : ¬ (a == c && b == d) = true := by simpa using he
        rw [if_neg this, if_neg (fun h => he (hz.1 h))]
        by_cases h : o = decide (cmpS a b c d > 0)
        · simp [← h]
        · rw [if_neg (by simpa using h), if_neg h]
  have H0 : ∀ x9, clash_Judge.j0 (k + 5) x9 a b c d o s f s' = some (if x9 = true then 0 else if s = 6 ∨ o = f then 1 else if cmpS a b c d = 0 then 3 else if o = decide (cmpS a b c d > 0) then 1 else 2) := by
    intro x
    simp only [clash_Judge.j0, H1]
    by_cases hx : x = true
    · simp [hx]
    · rw [if_neg hx, if_neg hx]
      by_cases h6 : s = 6
      · simp [h6]
      · rw [if_neg h6]
        by_cases hf : o = f
        · simp [hf]
        · have h1 : ¬ (o == f) = true := by simpa using hf
          have h2 : ¬ (s = 6 ∨ o = f) := by simp [h6, hf]
          rw [if_neg h1, if_neg h2]
  unfold judgeS
  by_cases h4 : s < 4
  · simp [h4, H0]
  · by_cases h7 : s > 6
    · simp [h4, h7, H0]
    · rw [if_neg h4, H0]
      have : ¬ (decide (s > 6)) = true := by simpa using h7
      rw [if_neg this, if_neg (by omega : ¬ (s < 4 ∨ s > 6))]
theorem tells_eq (k : Nat) : consulatelaw16_tells.f (k + 5) = some true := by
  unfold consulatelaw16_tells.f
  simp only [judge_eq, Option.bind_some]
  decide
theorem rjudge_eq (k : Nat) (a b c d : Int) (o : Bool) (s : Int) (f : Bool) (s' : Int) : consulateref16_Judge.f (k + 5) a b c d o s f s' = some (judgeS a b c d o s f) := by
  unfold consulateref16_Judge.f judgeS
  have hfl := cmpS_flip a b c d
  by_cases h4 : s < 4 ∨ s > 6
  · rw [if_pos h4, if_neg (by omega), if_neg (by omega)]
    have : (s != 6) = true := by simp; omega
    simp [consulateref16_Judge.j0, this]
  · rw [if_neg h4]
    by_cases h6 : s = 6
    · subst h6
      simp [consulateref16_Judge.j0]
    · have h45 : s = 4 ∨ s = 5 := by omega
      have H : consulateref16_Judge.j0 (k + 5) false a b c d o s f s' = some (if s = 6 ∨ o = f then 1 else if cmpS a b c d = 0 then 3 else if o = decide (cmpS a b c d > 0) then 1 else 2) := by
        simp only [consulateref16_Judge.j0, consulateref16_Judge.j1, higher_eq, Option.bind_some, hfl]
        rcases (by omega : cmpS a b c d = 0 ∨ cmpS a b c d > 0 ∨ cmpS a b c d < 0) with h | h | h
        · simp [h]
          cases o <;> cases f <;> simp [h6]
        · have h' : ¬ cmpS a b c d = 0 := by omega
          cases o <;> cases f <;> simp [h6, h, h']
        · have h' : ¬ cmpS a b c d = 0 := by omega
          have h'' : ¬ cmpS a b c d > 0 := by omega
          cases o <;> cases f <;> simp [h6, h, h', h'']
      rcases h45 with h | h
      · rw [if_pos h, H]
      · rw [if_neg (by omega), if_pos h, H]
theorem judges_pure (a b c d : Int) (o : Bool) (s : Int) (f : Bool) (s' : Int) : consulatelaw16_ClashJudges.f 5 a b c d o s f s' = some true := by
  unfold consulatelaw16_ClashJudges.f
  have h1 := compare_eq 2 a b c d
  have h2 := judge_eq 0 a b c d o s f s'
  have h3 := rjudge_eq 0 a b c d o s f s'
  have h4 := tells_eq 0
  have hfl := cmpS_flip a b c d
  simp only [Nat.zero_add, Nat.reduceAdd] at h1 h2 h3 h4
  rw [h1, h2, h3, h4]
  simp [higher_eq, hfl]
end Go.Proofs.Ytldfpoacjcjnjaa.PClashJudges
