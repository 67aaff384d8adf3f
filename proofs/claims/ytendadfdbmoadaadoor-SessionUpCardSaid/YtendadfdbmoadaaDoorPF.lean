/- Chapter 14: up only so: what a machine's actions make of what is known. -/
import Derived.Test.YtendadfdbmoadaaDoorPE
namespace Go.Proofs.YtendadfdbmoadaaDoor.PF
open Go Go.Proofs Go.Proofs.YtendadfdbmoadaaDoor.Sx Go.Proofs.YtendadfdbmoadaaDoor.PA Go.Proofs.YtendadfdbmoadaaDoor.PB Go.Proofs.YtendadfdbmoadaaDoor.PC Go.Proofs.YtendadfdbmoadaaDoor.PD Go.Proofs.YtendadfdbmoadaaDoor.PE
set_option linter.unusedSimpArgs false
set_option linter.unusedVariables false
theorem nx {bad : Bool} {w w1 w2 : W} {a : Ev} {r : List Ev} (h1 : F14.f (w, a) = some (true, w1)) (hne : a.1 ≠ 2) (h : Chain bad w1 r w2) : Chain bad w (a :: r) w2 := .cons h1 (fun h => (hne h).elim) h
theorem tl {w w1 w2 : W} {a b : Ev} {r : List Ev} (h1 : F14.f (w, a) = some (true, w1)) (hb : b.1 = 5) (h : Chain false w1 (b :: r) w2) : Chain false w (a :: b :: r) w2 := .cons h1 (fun _ => ⟨rfl, b, r, rfl, hb⟩) h
theorem chain_ends (bad : Bool) (s k c d : Int) (data : List Int) (ln se he ke up t0 t1 t2 t3 : Bool) (hb : ¬ (c = 0 ∧ d = 0) → ln = true ∧ bad = false) (hu : up = decide (s = 6)) :
    Chain bad (ln, se, he, ke, up, t0, t1, t2, t3) (ends s k c d data).2 (false, false, false, false, false, t0, !decide (k = 2), false, false) := by
  have tail : ∀ (ln se he ke : Bool), Chain bad (ln, se, he, ke, up, t0, t1, t2, t3) ([(5, 0, 0, 0, 0, []), (4, 1, 0, 0, 0, []), (4, 2, 0, 0, 0, []), (4, 3, 0, 0, 0, [])] ++ ((if s = 6 then [(8, 0, 0, 0, 0, [])] else []) ++ (if k = 2 then [] else [(3, 1, 120, 0, 0, [])]))) (false, false, false, false, false, t0, !decide (k = 2), false, false) := by
    intro ln se he ke
    by_cases h6 : s = 6 <;> by_cases h2 : k = 2
    · simp only [h6, h2, if_true, decide_true] at hu ⊢
      subst hu
      exact nx rfl (by decide) (nx rfl (by decide) (nx rfl (by decide) (nx rfl (by decide) (nx rfl (by decide) (.nil _)))))
    · simp only [h6, h2, if_true, if_false, decide_true, decide_false] at hu ⊢
      subst hu
      exact nx rfl (by decide) (nx rfl (by decide) (nx rfl (by decide) (nx rfl (by decide) (nx rfl (by decide) (nx rfl (by decide) (.nil _))))))
    · simp only [h6, h2, if_true, if_false, decide_true, decide_false] at hu ⊢
      subst hu
      exact nx rfl (by decide) (nx rfl (by decide) (nx rfl (by decide) (nx rfl (by decide) (.nil _))))
    · simp only [h6, h2, if_false, decide_false] at hu ⊢
      subst hu
      exact nx rfl (by decide) (nx rfl (by decide) (nx rfl (by decide) (nx rfl (by decide) (nx rfl (by decide) (.nil _)))))
  unfold ends
  by_cases h0 : c = 0 ∧ d = 0
  · simp only [h0, and_self, if_true, List.nil_append]
    exact tail ln se he ke
  · obtain ⟨rfl, rfl⟩ := hb h0
    simp only [h0, if_false]
    cases se
    · exact tl rfl rfl (tail true false he ke)
    · exact tl rfl rfl (tail true true he ke)
def UpInv (m : PA.M) (w : W) : Prop :=
  (1 ≤ m.1 ∧ m.1 ≤ 6) ∧ (m.2 = 0 ∨ 3 ≤ m.2 ∧ m.2 ≤ 65535) ∧ (m.1 < 5 → m.2 = 0) ∧ w.1 = decide (4 ≤ m.1) ∧ (4 ≤ m.1 → w.2.1 = true) ∧ (5 ≤ m.1 → w.2.2.1 = true) ∧ (m.1 = 6 → w.2.2.2.1 = true) ∧ w.2.2.2.2.1 = decide (m.1 = 6)
theorem inv_low (s : Int) (se he ke t0 t1 t2 t3 : Bool) (hs : 1 ≤ s ∧ s ≤ 3) : UpInv (s, 0) (false, se, he, ke, false, t0, t1, t2, t3) := by
  have e1 : decide (4 ≤ s) = false := by rw [decide_eq_false_iff_not]; omega
  have e2 : decide (s = 6) = false := by rw [decide_eq_false_iff_not]; omega
  unfold UpInv
  simp only [e1, e2]
  refine ⟨by omega, by simp, fun _ => trivial, trivial, fun h => ?_, fun h => ?_, fun h => ?_, trivial⟩ <;> omega
theorem inv4 (he ke t0 t1 t2 t3 : Bool) : UpInv (4, 0) (true, true, he, ke, false, t0, t1, t2, t3) := by unfold UpInv; simp
theorem inv5 (h : Int) (ke t0 t1 t2 t3 : Bool) (hh : h = 0 ∨ 3 ≤ h ∧ h ≤ 65535) : UpInv (5, h) (true, true, true, ke, false, t0, t1, t2, t3) := by unfold UpInv; simp; exact hh
theorem inv6 (h : Int) (t0 t1 t2 t3 : Bool) (hh : h = 0 ∨ 3 ≤ h ∧ h ≤ 65535) : UpInv (6, h) (true, true, true, true, true, t0, t1, t2, t3) := by unfold UpInv; simp; exact hh
theorem inv_ends (t0 t1 : Bool) : UpInv (1, 0) (false, false, false, false, false, t0, t1, false, false) := inv_low 1 _ _ _ _ _ _ _ (by omega)
theorem ne3 : (3 : Int) ≠ 2 := by decide
/-- A timer of so many ticks. -/
theorem setT (v0 v1 v2 v3 v4 v5 v6 v7 v8 : Bool) (n : Int) (hn : 1 ≤ n) : F14.f ((v0, v1, v2, v3, v4, v5, v6, v7, v8), (3, 2, n, 0, 0, [])) = some (true, (v0, v1, v2, v3, v4, v5, v6, true, v8)) := by
  show F14.fP _ = _
  unfold F14.fP
  have e : decide (n < 1) = false := by rw [decide_eq_false_iff_not]; omega
  simp [e]
  rfl
theorem setK (v0 v1 v2 v3 v4 v5 v6 v7 v8 : Bool) (n : Int) (hn : 1 ≤ n) : F14.f ((v0, v1, v2, v3, v4, v5, v6, v7, v8), (3, 3, n, 0, 0, [])) = some (true, (v0, v1, v2, v3, v4, v5, v6, v7, true)) := by
  show F14.fP _ = _
  unfold F14.fP
  have e : decide (n < 1) = false := by rw [decide_eq_false_iff_not]; omega
  simp [e]
  rfl
theorem third (n : Int) (h : 3 ≤ n) (h2 : n ≤ 65535) : 1 ≤ IntKind.i64.wrap (n.tdiv 3) := by
  rw [Int.tdiv_eq_ediv_of_nonneg (by omega), IntWalk.i64_in _ (by omega)]; omega
theorem ends_one (s k c d : Int) (data : List Int) : (ends s k c d data).1 = (1, 0) := rfl
set_option maxHeartbeats 40000000 in
theorem step (bad : Bool) (s h k w hh c d : Int) (data : List Int) (ln se he ke up t0 t1 t2 t3 : Bool) (hs : 1 ≤ s ∧ s ≤ 6) (hh0 : h = 0 ∨ 3 ≤ h ∧ h ≤ 65535) (h0 : s < 5 → h = 0) (hw : k = 5 → 1 ≤ w ∧ w ≤ 5) (hv : k = 5 → w = 1 → hh = 0 ∨ 3 ≤ hh ∧ hh ≤ 65535)
    (hb : ¬ (k = 5 ∧ w = 3) → bad = false) (hln : ln = decide (4 ≤ s ∨ (k = 3 ∧ (s = 2 ∨ s = 3)))) (hse : 4 ≤ s → se = true) (hhe : (5 ≤ s ∨ (k = 5 ∧ w = 1 ∧ s = 4)) → he = true) (hke : (s = 6 ∨ (k = 5 ∧ w = 4 ∧ s = 5)) → ke = true) (hup : up = decide (s = 6)) :
    ∃ w3, Chain bad (ln, se, he, ke, up, t0, t1, t2, t3) (run (s, h) (k, w, hh, c, d, data)).2 w3 ∧ UpInv (run (s, h) (k, w, hh, c, d, data)).1 w3 := by
  have fin : ∀ (k' c d : Int) (data : List Int), (¬ (c = 0 ∧ d = 0) → ln = true ∧ bad = false) → ∃ w3, Chain bad (ln, se, he, ke, up, t0, t1, t2, t3) (ends s k' c d data).2 w3 ∧ UpInv (ends s k' c d data).1 w3 :=
    fun k' c d data hc => ⟨_, chain_ends bad s k' c d data ln se he ke up t0 t1 t2 t3 hc hup, inv_ends _ _⟩
  have ln4 : 4 ≤ s → ln = true := fun h4 => by rw [hln, decide_eq_true_eq]; exact .inl h4
  unfold run dial
  simp only
  by_cases s4 : s < 4
  · have hz : h = 0 := h0 (by omega)
    subst hz
    rw [if_pos s4]
    have hu : up = false := by rw [hup, decide_eq_false_iff_not]; omega
    by_cases s1 : s = 1
    · subst s1
      have hl : ln = false := by rw [hln, decide_eq_false_iff_not]; omega
      subst hl hu
      rw [if_pos rfl]
      split
      · exact ⟨_, nx rfl (by decide) (nx rfl (by decide) (.nil _)), inv_low _ _ _ _ _ _ _ _ (by omega)⟩
      · split
        · exact ⟨_, nx rfl (by decide) (.nil _), inv_low _ _ _ _ _ _ _ _ (by omega)⟩
        · exact ⟨_, .nil _, inv_low _ _ _ _ _ _ _ _ (by omega)⟩
    · rw [if_neg s1]
      have s23 : s = 2 ∨ s = 3 := by omega
      by_cases k2 : k = 2
      · rw [if_pos k2]; exact fin 2 0 0 [] (fun h => (h ⟨rfl, rfl⟩).elim)
      rw [if_neg k2]
      by_cases k3 : k = 3
      · rw [if_pos k3]
        have hl : ln = true := by rw [hln, decide_eq_true_eq]; exact .inr ⟨k3, s23⟩
        subst hl hu
        cases se
        · exact ⟨_, nx rfl (by decide) (nx rfl (by decide) (nx rfl (by decide) (.nil _))), inv4 _ _ _ _ _ _⟩
        · exact ⟨_, nx rfl (by decide) (nx rfl (by decide) (nx rfl (by decide) (.nil _))), inv4 _ _ _ _ _ _⟩
      rw [if_neg k3]
      have hl : ln = false := by rw [hln, decide_eq_false_iff_not]; omega
      subst hl hu
      by_cases k4 : k = 4
      · rw [if_pos k4]
        exact ⟨_, nx rfl (by decide) (.nil _), inv_low _ _ _ _ _ _ _ _ (by omega)⟩
      rw [if_neg k4]
      split
      · exact ⟨_, nx rfl (by decide) (nx rfl (by decide) (.nil _)), inv_low _ _ _ _ _ _ _ _ (by omega)⟩
      · exact ⟨_, .nil _, inv_low _ _ _ _ _ _ _ _ (by omega)⟩
  · have s4' : 4 ≤ s := by omega
    have hl := ln4 s4'
    subst hl
    have hse := hse s4'
    subst hse
    rw [if_neg s4]
    by_cases k2 : k = 2
    · rw [if_pos k2]; exact fin 2 6 2 [] (fun _ => ⟨rfl, hb (by omega)⟩)
    rw [if_neg k2]
    have stay : (5 ≤ s → he = true) → (s = 6 → ke = true) → UpInv (s, h) (true, true, he, ke, up, t0, t1, t2, t3) := fun g1 g2 => ⟨hs, hh0, h0, by rw [eq_comm, decide_eq_true_eq]; exact s4', fun _ => rfl, g1, g2, hup⟩
    have ghe : 5 ≤ s → he = true := fun g => hhe (.inl g)
    have gke : s = 6 → ke = true := fun g => hke (.inl g)
    by_cases k4 : k = 4
    · rw [if_pos k4]
      split
      · rename_i e4
        have hu : up = false := by rw [hup, decide_eq_false_iff_not]; omega
        subst hu
        exact ⟨_, nx rfl (by decide) (nx rfl (by decide) (nx rfl (by decide) (.nil _))), inv_low _ _ _ _ _ _ _ _ (by omega)⟩
      · exact fin 4 0 0 [] (fun h => (h ⟨rfl, rfl⟩).elim)
    rw [if_neg k4]
    by_cases k5 : k = 5
    · rw [if_pos k5]
      by_cases w3 : w = 3
      · rw [if_pos w3]; exact fin 5 0 0 [] (fun h => (h ⟨rfl, rfl⟩).elim)
      rw [if_neg w3]
      have hbf : bad = false := hb (fun g => w3 g.2)
      unfold message hold2
      by_cases m1 : s = 4 ∧ w = 1
      · rw [if_pos m1]
        obtain ⟨rfl, rfl⟩ := m1
        have hhe' : he = true := hhe (.inr ⟨k5, rfl, rfl⟩)
        have hu : up = false := hup
        subst hhe' hu
        rcases hv k5 rfl with g | g
        · subst g
          exact ⟨_, nx rfl (by decide) (nx rfl (by decide) (.nil _)), inv5 _ _ _ _ _ _ (.inl rfl)⟩
        · rw [if_neg (by omega)]
          exact ⟨_, nx rfl (by decide) (nx (setT _ _ _ _ _ _ _ _ _ _ (by omega)) ne3 (nx (setK _ _ _ _ _ _ _ _ _ _ (third _ g.1 g.2)) ne3 (.nil _))), inv5 _ _ _ _ _ _ (.inr g)⟩
      rw [if_neg m1]
      by_cases m2 : s = 5 ∧ w = 4
      · rw [if_pos m2]
        obtain ⟨rfl, rfl⟩ := m2
        have e1 := ghe (by omega)
        have e2 := hke (.inr ⟨k5, rfl, rfl⟩)
        have hu : up = false := hup
        subst e1 e2 hu
        rcases hh0 with g | g
        · subst g
          exact ⟨_, nx rfl (by decide) (.nil _), inv6 _ _ _ _ _ (.inl rfl)⟩
        · rw [if_neg (by omega)]
          exact ⟨_, nx (setT _ _ _ _ _ _ _ _ _ _ (by omega)) ne3 (nx rfl (by decide) (.nil _)), inv6 _ _ _ _ _ (.inr g)⟩
      rw [if_neg m2]
      by_cases s6 : s = 6
      · subst s6
        have e1 := ghe (by omega)
        have e2 := gke rfl
        have hu : up = true := hup
        subst e1 e2 hu
        by_cases m3 : w = 4
        · rw [if_pos ⟨rfl, m3⟩]
          rcases hh0 with g | g
          · subst g
            exact ⟨_, .nil _, inv6 _ _ _ _ _ (.inl rfl)⟩
          · rw [if_neg (by omega)]
            exact ⟨_, nx (setT _ _ _ _ _ _ _ _ _ _ (by omega)) ne3 (.nil _), inv6 _ _ _ _ _ (.inr g)⟩
        rw [if_neg (by omega)]
        by_cases m4 : w = 2
        · rw [if_pos ⟨rfl, m4⟩]
          rcases hh0 with g | g
          · subst g
            exact ⟨_, nx rfl (by decide) (.nil _), inv6 _ _ _ _ _ (.inl rfl)⟩
          · rw [if_neg (by omega)]
            exact ⟨_, nx (setT _ _ _ _ _ _ _ _ _ _ (by omega)) ne3 (nx rfl (by decide) (.nil _)), inv6 _ _ _ _ _ (.inr g)⟩
        rw [if_neg (by omega)]
        by_cases m5 : w = 5
        · rw [if_pos ⟨rfl, m5⟩]
          exact ⟨_, nx rfl (by decide) (.nil _), inv6 _ _ _ _ _ hh0⟩
        rw [if_neg (by omega)]
        exact fin _ _ _ _ (fun _ => ⟨rfl, hbf⟩)
      · rw [if_neg (by omega), if_neg (by omega), if_neg (by omega)]
        exact fin _ _ _ _ (fun _ => ⟨rfl, hbf⟩)
    rw [if_neg k5]
    have hbf : bad = false := hb (fun g => k5 g.1)
    split
    · exact fin _ _ _ _ (fun _ => ⟨rfl, hbf⟩)
    · split
      · rename_i g
        exact ⟨_, nx rfl (by decide) (nx (setK _ _ _ _ _ _ _ _ _ _ (third _ (by omega) (by omega))) ne3 (.nil _)), stay ghe gke⟩
      · split
        · exact fin _ _ _ _ (fun _ => ⟨rfl, hbf⟩)
        · exact ⟨_, .nil _, stay ghe gke⟩
theorem f4l1 (k w hh c d : Int) (data : List Int) (wt ln se he ke up t0 t1 t2 t3 : Bool) : F4.l1 ((k, w, hh, c, d, data), wt) (ln, se, he, ke, up, t0, t1, t2, t3) = some ((), (ln || (decide (k = 3) && wt), se, he, ke, up, t0, t1, t2, t3)) := by
  unfold F4.l1 F4.r1 F4.r1P
  by_cases h : k = 3 <;> cases ln <;> cases wt <;> simp [h, Bool.cond_eq_ite]
theorem f4l2 (k w hh c d : Int) (data : List Int) (was : Int) (ln se he ke up t0 t1 t2 t3 : Bool) : F4.l2 ((k, w, hh, c, d, data), was) (ln, se, he, ke, up, t0, t1, t2, t3) =
    some ((), (ln, se, he || (ln && decide (k = 5 ∧ w = 1 ∧ was = 4)), ke || (ln && decide (k = 5 ∧ w = 4 ∧ was = 5)), up, t0, t1, t2, t3)) := by
  unfold F4.l2 F4.r2 F4.r2P
  by_cases h : k = 5
  · by_cases h1 : w = 1
    · by_cases h2 : was = 4 <;> cases ln <;> cases he <;> cases ke <;> simp [h, h1, h2, Bool.cond_eq_ite]
    · by_cases h4 : w = 4
      · by_cases h2 : was = 5 <;> cases ln <;> cases he <;> cases ke <;> simp [h, h1, h4, h2, Bool.cond_eq_ite]
      · cases ln <;> cases he <;> cases ke <;> simp [h, h1, h4, Bool.cond_eq_ite]
  · simp [h, Bool.cond_eq_ite]
theorem clean_id (s h : Int) (hs : 1 ≤ s ∧ s ≤ 6) (h0 : s < 5 → h = 0) : cleanM (s, h) = (s, h) := by
  have hn : ¬ (s < 1 ∨ 6 < s) := by omega
  unfold cleanM
  simp only [hn, if_false]
  by_cases h5 : s < 5
  · simp only [h5, if_true, h0 h5]
  · simp only [h5, if_false]
abbrev S4 := PA.M × W × Int
def Inv4 (n : Nat) (s : S4) : Prop := UpInv s.1 s.2.1 ∧ 0 ≤ s.2.2 ∧ s.2.2 ≤ 80 ∧ s.2.2 ≤ n
set_option maxHeartbeats 4000000 in
theorem round4 (l : List Ev) (hl : ∀ e ∈ l, Wf e) (st : S4) (hi : Inv4 l.length st) :
    (∃ s', F4.r4 (l, (l.length : Int)) st = some (.inl s') ∧ Inv4 l.length s' ∧ 81 - s'.2.2.toNat < 81 - st.2.2.toNat) ∨ (∃ b, F4.r4 (l, (l.length : Int)) st = some (.inr b) ∧ b.1.1 = 0) := by
  obtain ⟨⟨s, h⟩, ⟨ln, se, he, ke, up, t0, t1, t2, t3⟩, i⟩ := st
  obtain ⟨⟨u1, u2, u3, u4, u5, u6, u7, u8⟩, i1, i2, i3⟩ := hi
  simp only at u1 u2 u3 u4 u5 u6 u7 u8 i1 i2 i3
  unfold F4.r4 F4.r4P
  simp only
  by_cases c0 : i < (l.length : Int)
  · rw [decide_eq_true c0, cond_true]
    have d1 : decide (0 ≤ i ∧ i < (l.length : Int) ∧ 0 < l.length) = true := by rw [decide_eq_true_eq]; omega
    have hlt : 0 + i.toNat < l.length := by omega
    rw [d1, decide_eq_true hlt, cond_true, cond_true]
    by_cases c8 : i = 80
    · right
      subst c8
      exact ⟨_, rfl, rfl⟩
    · left
      rw [show (i == 80) = false from by simpa using c8, cond_false]
      have hm : l.getD (0 + i.toNat) (0, 0, 0, 0, 0, []) ∈ l := by
        rw [List.getD_eq_getElem?_getD, List.getElem?_eq_getElem hlt]
        exact List.getElem_mem _
      have hx := hl _ hm
      generalize l.getD (0 + i.toNat) (0, 0, 0, 0, 0, []) = x at *
      obtain ⟨k, w, hh, c, d, data⟩ := x
      obtain ⟨g1, g2, g3⟩ := hx
      simp only at g1 g2 g3
      have hwi : IntKind.i64.wrap (i + 1) = i + 1 := IntWalk.i64_in _ (by omega)
      -- what the event, brought to such as may be, is
      rcases hc : cleanE (k, w, hh, c, d, data) with ⟨k1, w1, hh1, c1, d1', data1⟩
      have hcE : (k1 = 5 → 1 ≤ w1 ∧ w1 ≤ 5) ∧ (k1 = 5 → w1 = 1 → hh1 = 0 ∨ 3 ≤ hh1 ∧ hh1 ≤ 65535) ∧ (k1 = 5 → k = 5 ∧ w = w1) ∧ (k = 5 ∧ w = 3 → k1 = 5 ∧ w1 = 3) ∧ (k1 = 3 → k = 3) ∧ (k = 3 → k1 = 3) := by
        unfold cleanE at hc
        simp only at hc
        split at hc
        · split at hc
          · simp only [Prod.mk.injEq] at hc; omega
          · split at hc <;> simp only [Prod.mk.injEq] at hc <;> omega
        · simp only [Prod.mk.injEq] at hc; omega
      obtain ⟨q1, q2, q3, q4, q5, q6⟩ := hcE
      have hF9 : F9.f ((s, h), (k, w, hh, c, d, data)) = some (run (s, h) (k1, w1, hh1, c1, d1', data1), ()) :=
        f9s _ _ s h k1 w1 hh1 c1 d1' data1 u1 u3 q1 (by rw [f16, clean_id s h u1 u3, hc])
      have hlen := len_run s h k1 w1 hh1 c1 d1' data1
      -- the watch
      have key : ∀ wt : Bool, wt = decide (s = 2 ∨ s = 3) → ∃ w3, Chain (decide (k = 5 ∧ w = 3)) (ln || (decide (k = 3) && wt), se, he || ((ln || (decide (k = 3) && wt)) && decide (k = 5 ∧ w = 1 ∧ s = 4)), ke || ((ln || (decide (k = 3) && wt)) && decide (k = 5 ∧ w = 4 ∧ s = 5)), up, t0, t1, t2, t3) (run (s, h) (k1, w1, hh1, c1, d1', data1)).2 w3 ∧ UpInv (run (s, h) (k1, w1, hh1, c1, d1', data1)).1 w3 := by
        intro wt hwt
        have hl4 : 4 ≤ s → ln = true := fun g => by rw [u4, decide_eq_true_eq]; exact g
        refine step _ s h k1 w1 hh1 c1 d1' data1 _ _ _ _ _ t0 t1 t2 t3 u1 u2 u3 q1 q2 (fun g => by rw [decide_eq_false_iff_not]; exact fun g' => g (q4 g')) ?_ u5 ?_ ?_ u8
        · rw [u4, hwt, Bool.eq_iff_iff]
          simp only [Bool.or_eq_true, Bool.and_eq_true, decide_eq_true_eq]
          constructor
          · rintro (g | ⟨g, g'⟩)
            · exact .inl g
            · exact .inr ⟨q6 g, g'⟩
          · rintro (g | ⟨g, g'⟩)
            · exact .inl g
            · exact .inr ⟨q5 g, g'⟩
        · rintro (g | ⟨g, g', g''⟩)
          · rw [u6 g]; rfl
          · rw [hl4 (by omega)]
            simp [q3 g, g', g'']
        · rintro (g | ⟨g, g', g''⟩)
          · rw [u7 g]; rfl
          · rw [hl4 (by omega)]
            simp [q3 g, g', g'']
      rcases hr : run (s, h) (k1, w1, hh1, c1, d1', data1) with ⟨⟨p0, p1⟩, acts⟩
      rw [hr] at hF9 hlen key
      simp only at hlen key
      have lc : (decide (0 + acts.length ≤ acts.length) && true) = true := by simp
      have both2 : ∀ wt : Bool, wt = decide (s = 2 ∨ s = 3) → ∃ w3, F4.l3 ((k, w, hh, c, d, data), acts, acts, (acts.length : Int)) ((ln || (decide (k = 3) && wt), se, he || ((ln || (decide (k = 3) && wt)) && decide (k = 5 ∧ w = 1 ∧ s = 4)), ke || ((ln || (decide (k = 3) && wt)) && decide (k = 5 ∧ w = 4 ∧ s = 5)), up, t0, t1, t2, t3), 0) = some ((0, false), w3) ∧ UpInv (p0, p1) w3 := by
        intro wt hwt
        obtain ⟨w3, h1, h2⟩ := key wt hwt
        exact ⟨w3, loop (k, w, hh, c, d, data) acts hlen rfl h1 [] rfl, h2⟩
      have done : ∀ w3 : W, UpInv (p0, p1) w3 → ((!(w3.2.2.2.2.1 == (p0 == 6))) = false) ∧ ((!(w3.1 == decide (p0 ≥ 4))) = false) ∧ decide (p0 < 1) = false ∧ decide (p0 > 6) = false := by
        intro w3 ⟨v1, v2, v3, v4, v5, v6, v7, v8⟩
        simp only at v1 v4 v8
        refine ⟨by rw [v8]; by_cases g : p0 = 6 <;> simp [g], by rw [v4]; simp, by rw [decide_eq_false_iff_not]; omega, by rw [decide_eq_false_iff_not]; omega⟩
      have fin : ∀ w3 : W, UpInv (p0, p1) w3 → Inv4 l.length ((p0, p1), w3, i + 1) ∧ 81 - (i + 1).toNat < 81 - i.toNat := fun w3 hw3 => ⟨⟨hw3, by show 0 ≤ i + 1; omega, by show i + 1 ≤ 80; omega, by show i + 1 ≤ (l.length : Int); omega⟩, by omega⟩
      by_cases s2 : s = 2
      · obtain ⟨w3, k1', k2'⟩ := both2 true (by rw [eq_comm, decide_eq_true_eq]; exact .inl s2)
        obtain ⟨x1, x2, x3, x4⟩ := done w3 k2'
        refine ⟨((p0, p1), w3, i + 1), ?_, fin w3 k2'⟩
        rw [show (s == 2) = true from by simpa using s2]
        simp only [cond_true, lb, List.take_length, List.drop_zero, f4l1, f4l2, Option.bind_some, hF9, lc, k1', decide_true, x1, x2, x3, x4, cond_false, hwi]
      · rw [show (s == 2) = false from by simpa using s2]
        obtain ⟨w3, k1', k2'⟩ := both2 (s == 3) (by rw [Bool.eq_iff_iff]; simp only [beq_iff_eq, decide_eq_true_eq]; omega)
        obtain ⟨x1, x2, x3, x4⟩ := done w3 k2'
        refine ⟨((p0, p1), w3, i + 1), ?_, fin w3 k2'⟩
        simp only [cond_true, cond_false, lb, List.take_length, List.drop_zero, f4l1, f4l2, Option.bind_some, hF9, lc, k1', decide_true, x1, x2, x3, x4, hwi]
  · right
    rw [decide_eq_false c0]
    exact ⟨_, rfl, rfl⟩
theorem up (l : List Ev) (hl : ∀ e ∈ l, Wf e) : ∃ q, F4.f l = some (true, q) := by
  obtain ⟨r, e, h⟩ := iterO_inv (f := F4.r4 (l, (l.length : Int))) (Inv4 l.length) (fun s => 81 - s.2.2.toNat) (fun b => b.1.1 = 0) (fun s h => round4 l hl s h)
    ((1, 0), (false, false, false, false, false, false, false, false, false), 0) ⟨inv_low 1 _ _ _ _ _ _ _ (by omega), by simp, by simp, by simp⟩
  have e' : F4.l4 (l, (l.length : Int)) ((1, 0), (false, false, false, false, false, false, false, false, false), 0) = some r := e
  refine ⟨(), ?_⟩
  show F4.fP _ _ _ _ = _
  unfold F4.fP
  have lc : (decide (0 + l.length ≤ l.length) && true) = true := by simp
  simp only [lc, cond_true, List.take_length, e', Option.bind_some, h, decide_true]
end Go.Proofs.YtendadfdbmoadaaDoor.PF
