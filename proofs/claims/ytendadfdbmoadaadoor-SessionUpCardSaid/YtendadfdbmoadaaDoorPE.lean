/- Chapter 14: what is known of a session by its actions: rows of actions. -/
import Derived.Test.YtendadfdbmoadaaDoorPD
import Derived.Test.YtendadfdbmoadaaDoorF4
namespace Go.Proofs.YtendadfdbmoadaaDoor.PE
open Go Go.Proofs Go.Proofs.YtendadfdbmoadaaDoor.Sx Go.Proofs.YtendadfdbmoadaaDoor.PA Go.Proofs.YtendadfdbmoadaaDoor.PB Go.Proofs.YtendadfdbmoadaaDoor.PC Go.Proofs.YtendadfdbmoadaaDoor.PD
set_option linter.unusedSimpArgs false
set_option linter.unusedVariables false
abbrev W := Bool × Bool × Bool × Bool × Bool × Bool × Bool × Bool × Bool
/-- Actions that may be, one behind the other. -/
inductive Chain (bad : Bool) : W → List Ev → W → Prop
  | nil (w : W) : Chain bad w [] w
  | cons {w w1 w2 : W} {a : Ev} {r : List Ev} : F14.f (w, a) = some (true, w1) → (a.1 = 2 → bad = false ∧ ∃ b r', r = b :: r' ∧ b.1 = 5) → Chain bad w1 r w2 → Chain bad w (a :: r) w2
theorem loop (ev : Ev) (acts : List Ev) (hl : acts.length ≤ 100) {bad : Bool} (hbad : bad = decide (ev.1 = 5 ∧ ev.2.1 = 3)) : ∀ {w w2 : W} {rest : List Ev}, Chain bad w rest w2 → ∀ pre, acts = pre ++ rest →
    F4.l3 (ev, acts, acts, (acts.length : Int)) (w, (pre.length : Int)) = some ((0, false), w2) := by
  intro w w2 rest h
  induction h with
  | nil w =>
    intro pre hp
    obtain ⟨w0, w1, w2, w3, w4, w5, w6, w7, w8⟩ := w
    have : acts.length = pre.length := by rw [hp]; simp
    show iterO (F4.r3 _) _ = _
    rw [iterO_eq]
    obtain ⟨e0, e1, e2, e3, e4, e5⟩ := ev
    unfold F4.r3 F4.r3P
    have hd : decide ((pre.length : Int) < (acts.length : Int)) = false := by rw [decide_eq_false_iff_not]; omega
    simp only [hd, cond_false]
  | @cons w w1 w2 a r h1 h2 h3 ih =>
    intro pre hp
    have hi := ih (pre ++ [a]) (by rw [hp]; simp)
    have hlen : acts.length = pre.length + (r.length + 1) := by rw [hp]; simp
    show iterO (F4.r3 _) _ = _
    rw [iterO_eq]
    have hstep : F4.r3 (ev, acts, acts, (acts.length : Int)) (w, (pre.length : Int)) = some (.inl (w1, ((pre ++ [a]).length : Int))) := by
      obtain ⟨e0, e1, e2, e3, e4, e5⟩ := ev
      obtain ⟨v0, v1, v2, v3, v4, v5, v6, v7, v8⟩ := w
      unfold F4.r3 F4.r3P
      have c1 : decide ((pre.length : Int) < (acts.length : Int)) = true := by rw [decide_eq_true_eq]; omega
      have c2 : decide ((0 : Int) ≤ (pre.length : Int) ∧ (pre.length : Int) < (acts.length : Int) ∧ 0 < acts.length) = true := by rw [decide_eq_true_eq]; omega
      have c3 : decide (0 + (pre.length : Int).toNat < acts.length) = true := by rw [decide_eq_true_eq]; omega
      have hg : acts.getD (0 + (pre.length : Int).toNat) (0, 0, 0, 0, 0, []) = a := by
        rw [hp, List.getD_eq_getElem?_getD, Nat.zero_add, Int.toNat_natCast, List.getElem?_append_right (Nat.le_refl _), Nat.sub_self]
        rfl
      have hw : IntKind.i64.wrap ((pre.length : Int) + 1) = (pre.length : Int) + 1 := IntWalk.i64_in _ (by omega)
      have hpl : (((pre ++ [a]).length : Nat) : Int) = (pre.length : Int) + 1 := by simp
      obtain ⟨a0, a1, a2, a3, a4, a5⟩ := a
      simp only [c1, c2, c3, cond_true, hg, lb, List.take_length, List.drop_zero, h1, Option.bind_some, Bool.not_true, cond_false, hw, hpl]
      by_cases hb : a0 = 2
      · obtain ⟨hb1, b, r', hr, hb5⟩ := h2 hb
        have hrl : r.length = r'.length + 1 := by rw [hr]; simp
        have d1 : decide ((pre.length : Int) + 1 ≥ (acts.length : Int)) = false := by rw [decide_eq_false_iff_not]; omega
        have d2 : decide ((0 : Int) ≤ (pre.length : Int) + 1 ∧ (pre.length : Int) + 1 < (acts.length : Int) ∧ 0 < acts.length) = true := by rw [decide_eq_true_eq]; omega
        have d3 : decide (0 + ((pre.length : Int) + 1).toNat < acts.length) = true := by rw [decide_eq_true_eq]; omega
        have d4 : acts.getD (0 + ((pre.length : Int) + 1).toNat) (0, 0, 0, 0, 0, []) = b := by
          rw [hp, hr, List.getD_eq_getElem?_getD, Nat.zero_add, show ((pre.length : Int) + 1).toNat = pre.length + 1 by omega, List.getElem?_append_right (by omega), show pre.length + 1 - pre.length = 1 by omega]
          rfl
        rw [hb1] at hbad
        have hbad := (decide_eq_false_iff_not.1 hbad.symm)
        simp only at hbad
        subst hb
        simp only [d1, d2, d3, d4, hb5, show ((2 : Int) == 2) = true from rfl, show ((5 : Int) != 5) = false from rfl, cond_true, cond_false]
        by_cases h5 : e0 = 5
        · have h3' : ¬ e1 = 3 := fun h => hbad ⟨h5, h⟩
          simp [h5, h3', Bool.cond_eq_ite]
        · simp [h5, Bool.cond_eq_ite]
      · simp [hb, Bool.cond_eq_ite]
    rw [hstep]
    exact hi
end Go.Proofs.YtendadfdbmoadaaDoor.PE
