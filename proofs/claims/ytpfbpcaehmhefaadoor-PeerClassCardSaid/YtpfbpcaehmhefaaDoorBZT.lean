/- The engine, part T: slots as a tree. Plain definitions and theorems; no program in sight. -/
import Derived.Test.YtpfbpcaehmhefaaDoorBZ0
namespace Go.Proofs.YtpfbpcaehmhefaaDoorB.Sx
set_option linter.unusedSimpArgs false
set_option linter.unusedVariables false

/-- A tree: 0 at its root, odd places on the left, even ones on the right. -/
inductive Tr where
  | nil
  | node (l : Tr) (v : AV) (r : Tr)
def Tr.get (dv : AV) : Tr → Nat → AV
  | .nil, _ => dv
  | .node l v r, i => bif Nat.beq i 0 then v else bif Nat.beq (Nat.mod i 2) 1 then Tr.get dv l (Nat.div (Nat.sub i 1) 2) else Tr.get dv r (Nat.div (Nat.sub i 2) 2)
def Tr.set (dv : AV) : Nat → Tr → Nat → AV → Tr
  | 0, t, _, _ => t
  | d + 1, .nil, i, x => bif Nat.beq i 0 then .node .nil x .nil else bif Nat.beq (Nat.mod i 2) 1 then .node (Tr.set dv d .nil (Nat.div (Nat.sub i 1) 2) x) dv .nil else .node .nil dv (Tr.set dv d .nil (Nat.div (Nat.sub i 2) 2) x)
  | d + 1, .node l v r, i, x => bif Nat.beq i 0 then .node l x r else bif Nat.beq (Nat.mod i 2) 1 then .node (Tr.set dv d l (Nat.div (Nat.sub i 1) 2) x) v r else .node l v (Tr.set dv d r (Nat.div (Nat.sub i 2) 2) x)
/-- The same, handed on. -/
def fTr {β : Type} (dv : AV) : Nat → Tr → Nat → AV → (Tr → β) → β
  | 0, t, _, _, K => K t
  | d + 1, .nil, i, x, K => bif Nat.beq i 0 then K (.node .nil x .nil) else bif Nat.beq (Nat.mod i 2) 1 then fTr dv d .nil (Nat.div (Nat.sub i 1) 2) x fun l => K (.node l dv .nil) else fTr dv d .nil (Nat.div (Nat.sub i 2) 2) x fun r => K (.node .nil dv r)
  | d + 1, .node l v r, i, x, K => bif Nat.beq i 0 then K (.node l x r) else bif Nat.beq (Nat.mod i 2) 1 then fTr dv d l (Nat.div (Nat.sub i 1) 2) x fun l => K (.node l v r) else fTr dv d r (Nat.div (Nat.sub i 2) 2) x fun r => K (.node l v r)
theorem fTr_eq {β : Type} (dv : AV) : ∀ (d : Nat) (t : Tr) (i : Nat) (x : AV) (K : Tr → β), fTr dv d t i x K = K (Tr.set dv d t i x)
  | 0, t, i, x, K => rfl
  | d + 1, .nil, i, x, K => by
    unfold fTr Tr.set
    cases Nat.beq i 0 <;> cases Nat.beq (Nat.mod i 2) 1 <;> simp [fTr_eq dv d]
  | d + 1, .node l v r, i, x, K => by
    unfold fTr Tr.set
    cases Nat.beq i 0 <;> cases Nat.beq (Nat.mod i 2) 1 <;> simp [fTr_eq dv d]
theorem beq_dec (a b : Nat) : Nat.beq a b = decide (a = b) := by
  cases h : Nat.beq a b with
  | true => simp [Nat.eq_of_beq_eq_true h]
  | false =>
    have : a ≠ b := by intro e; subst e; simp at h
    simp [this]
theorem get_setTr (dv : AV) : ∀ (d : Nat) (t : Tr) (i j : Nat) (x : AV), i + 1 < 2 ^ d → Tr.get dv (Tr.set dv d t i x) j = (if j = i then x else Tr.get dv t j) := by
  intro d
  induction d with
  | zero => intro t i j x h; simp at h
  | succ d ih =>
    intro t i j x h
    have hm : ∀ i, Nat.mod i 2 = i % 2 := fun _ => rfl
    have hd : ∀ i, Nat.div i 2 = i / 2 := fun _ => rfl
    have hs : ∀ i k, Nat.sub i k = i - k := fun _ _ => rfl
    have hp : 2 ^ (d + 1) = 2 ^ d * 2 := Nat.pow_succ ..
    cases t with
    | nil =>
      simp only [Tr.set, beq_dec, hm, hd, hs]
      by_cases h0 : i = 0
      · subst h0
        by_cases hj : j = 0
        · simp [Tr.get, hj]
        · simp [Tr.get, hj, beq_dec]
      · by_cases h1 : i % 2 = 1
        · simp only [h0, h1, decide_false, decide_true, cond_false, cond_true]
          simp only [Tr.get, beq_dec, hm, hd, hs]
          by_cases hj : j = 0
          · have : ¬ j = i := by omega
            simp [hj, this, Ne.symm h0]
          · by_cases hj1 : j % 2 = 1
            · simp only [hj, hj1, decide_false, decide_true, cond_false, cond_true]
              rw [ih _ _ _ _ (by omega)]
              have : ((j - 1) / 2 = (i - 1) / 2) ↔ j = i := by omega
              simp [this, Tr.get]
            · have : ¬ j = i := by intro e; subst e; exact hj1 h1
              simp [hj, hj1, this, Tr.get]
        · simp only [h0, h1, decide_false, cond_false]
          simp only [Tr.get, beq_dec, hm, hd, hs]
          by_cases hj : j = 0
          · have : ¬ j = i := by omega
            simp [hj, this, Ne.symm h0]
          · by_cases hj1 : j % 2 = 1
            · have : ¬ j = i := by intro e; subst e; exact h1 hj1
              simp [hj, hj1, this, Tr.get]
            · simp only [hj, hj1, decide_false, cond_false]
              rw [ih _ _ _ _ (by omega)]
              have : ((j - 2) / 2 = (i - 2) / 2) ↔ j = i := by omega
              simp [this, Tr.get]
    | node l v r =>
      simp only [Tr.set, beq_dec, hm, hd, hs]
      by_cases h0 : i = 0
      · subst h0
        by_cases hj : j = 0
        · simp [Tr.get, hj]
        · simp [Tr.get, hj, beq_dec]
      · by_cases h1 : i % 2 = 1
        · simp only [h0, h1, decide_false, decide_true, cond_false, cond_true]
          simp only [Tr.get, beq_dec, hm, hd, hs]
          by_cases hj : j = 0
          · have : ¬ j = i := by omega
            simp [hj, this, Ne.symm h0]
          · by_cases hj1 : j % 2 = 1
            · simp only [hj, hj1, decide_false, decide_true, cond_false, cond_true]
              rw [ih _ _ _ _ (by omega)]
              have : ((j - 1) / 2 = (i - 1) / 2) ↔ j = i := by omega
              simp [this]
            · have : ¬ j = i := by intro e; subst e; exact hj1 h1
              simp [hj, hj1, this]
        · simp only [h0, h1, decide_false, cond_false]
          simp only [Tr.get, beq_dec, hm, hd, hs]
          by_cases hj : j = 0
          · have : ¬ j = i := by omega
            simp [hj, this, Ne.symm h0]
          · by_cases hj1 : j % 2 = 1
            · have : ¬ j = i := by intro e; subst e; exact h1 hj1
              simp [hj, hj1, this]
            · simp only [hj, hj1, decide_false, cond_false]
              rw [ih _ _ _ _ (by omega)]
              have : ((j - 2) / 2 = (i - 2) / 2) ↔ j = i := by omega
              simp [this]

/-- Slots: how many, what stands where nothing was put, what was put. -/
structure Tm where
  n : Nat
  dv : AV
  tr : Tr
  small : n ≤ 1000000
def Tm.get (t : Tm) (i : Nat) : AV := bif Nat.blt i t.n then Tr.get t.dv t.tr i else .v undef
def Tm.set (t : Tm) (d : Nat) (v : AV) : Tm := bif Nat.blt d t.n then ⟨t.n, t.dv, Tr.set t.dv 24 t.tr d v, t.small⟩ else t
def fTm {β : Type} (t : Tm) (d : Nat) (v : AV) (K : Tm → β) : β := bif Nat.blt d t.n then fTr t.dv 24 t.tr d v fun r => K ⟨t.n, t.dv, r, t.small⟩ else K t
theorem fTm_eq {β : Type} (t : Tm) (d : Nat) (v : AV) (K : Tm → β) : fTm t d v K = K (t.set d v) := by
  unfold fTm Tm.set
  cases Nat.blt d t.n with
  | true => simp only [cond_true, fTr_eq]
  | false => rfl
theorem Tm.set_n (t : Tm) (d : Nat) (v : AV) : (t.set d v).n = t.n := by
  unfold Tm.set
  cases Nat.blt d t.n <;> rfl
theorem Tm.get_set (t : Tm) (d : Nat) (v : AV) (i : Nat) : (t.set d v).get i = if i = d ∧ d < t.n then v else t.get i := by
  have hs := t.small
  have blt : ∀ a b, Nat.blt a b = decide (a < b) := fun a b => by
    cases h : Nat.blt a b with
    | true =>
      have := Nat.le_of_ble_eq_true h
      simp only [true_eq_decide_iff]
      omega
    | false =>
      have : ¬ a < b := fun e => by
        have := Nat.ble_eq_true_of_le (show a + 1 ≤ b from e)
        unfold Nat.blt at h
        rw [this] at h
        cases h
      simp [this]
  by_cases hd : d < t.n
  · have e : t.set d v = ⟨t.n, t.dv, Tr.set t.dv 24 t.tr d v, t.small⟩ := by unfold Tm.set; rw [blt, decide_eq_true hd]; rfl
    rw [e]
    unfold Tm.get
    simp only [blt, hd, and_true]
    by_cases hi : i < t.n
    · have hp : (2 : Nat) ^ 24 = 16777216 := by decide
      have := get_setTr t.dv 24 t.tr d i v (by omega)
      simp only [hi, decide_true, cond_true]
      exact this
    · have : ¬ i = d := by omega
      simp [hi, this]
  · have e : t.set d v = t := by unfold Tm.set; rw [blt, decide_eq_false hd]; rfl
    rw [e, if_neg (fun h => hd h.2)]
end Go.Proofs.YtpfbpcaehmhefaaDoorB.Sx
