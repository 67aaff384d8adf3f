/- Chapter 14: a row of events: both do the same. -/
import Derived.Test.YtendadfdbmoadaaDoorPB
import Derived.Test.YtendadfdbmoadaaDoorF3
import Derived.Test.YtendadfdbmoadaaDoorF12
import Derived.Test.YtendadfdbmoadaaDoorZK
import Derived.Test.YtendadfdbmoadaaDoorZP
namespace Go.Proofs.YtendadfdbmoadaaDoor.PC
open Go Go.Proofs Go.Proofs.YtendadfdbmoadaaDoor.Sx Go.Proofs.YtendadfdbmoadaaDoor.PA Go.Proofs.YtendadfdbmoadaaDoor.PB
set_option linter.unusedSimpArgs false
set_option linter.unusedVariables false
theorem run_same (m : PA.M) (e : Ev) : run m (cleanE e) = run m (E4 (E3 e)) := by
  obtain ⟨s, h⟩ := m
  obtain ⟨k, w, hh, c, d, data⟩ := e
  unfold cleanE E3
  by_cases h5 : k = 5
  · subst h5
    by_cases h1 : w < 1 ∨ 5 < w
    · simp [h1, E4, run]
    · by_cases h2 : w = 1 ∧ (hh < 0 ∨ hh = 1 ∨ hh = 2 ∨ 65535 < hh)
      · simp [h1, h2, E4, run]
      · simp [h1, h2, E4]
  · simp [h5, E4]
def fitB (a : Ev) : Bool := (IntKind.i64.wrap a.2.1 == a.2.1) && ((IntKind.i64.wrap a.2.2.2.1 == a.2.2.2.1) && (IntKind.i64.wrap a.2.2.2.2.1 == a.2.2.2.2.1))
theorem w0 : IntKind.i64.wrap 0 = 0 := by decide
theorem w1 : IntKind.i64.wrap 1 = 1 := by decide
theorem w2 : IntKind.i64.wrap 2 = 2 := by decide
theorem w3 : IntKind.i64.wrap 3 = 3 := by decide
theorem w4 : IntKind.i64.wrap 4 = 4 := by decide
theorem w5 : IntKind.i64.wrap 5 = 5 := by decide
theorem w6 : IntKind.i64.wrap 6 = 6 := by decide
theorem fit_ends (s k c d : Int) (data : List Int) (hc : IntKind.i64.wrap c = c) (hd : IntKind.i64.wrap d = d) : (ends s k c d data).2.all fitB = true := by
  unfold ends
  by_cases h1 : c = 0 ∧ d = 0 <;> by_cases h2 : s = 6 <;> by_cases h3 : k = 2 <;> simp [h1, h2, h3, fitB, w0, w1, w2, w3, w4, hc, hd]
theorem fit_message (s h k w hh : Int) (hs : 4 ≤ s ∧ s ≤ 6) : (message s h k w hh).2.all fitB = true := by
  have hz : IntKind.i64.wrap (s - 3) = s - 3 := IntWalk.i64_in _ (by omega)
  unfold message hold2
  repeat' split
  all_goals first | exact fit_ends _ _ _ _ _ w5 hz | simp [fitB, w0, w1, w2, w3, w4]
theorem fit_run (s h k w hh c d : Int) (data : List Int) (hs : 1 ≤ s ∧ s ≤ 6) (hc : IntKind.i64.wrap c = c) (hd : IntKind.i64.wrap d = d) : (run (s, h) (k, w, hh, c, d, data)).2.all fitB = true := by
  unfold run dial
  simp only
  repeat' split
  all_goals first
    | exact fit_ends _ _ _ _ _ w0 w0
    | exact fit_ends _ _ _ _ _ w6 w2
    | exact fit_ends _ _ _ _ _ w4 w0
    | exact fit_ends _ _ _ _ _ hc hd
    | exact fit_message _ _ _ _ _ (by omega)
    | simp [fitB, w0, w1, w2, w3, w4]
theorem like (l : List Ev) (hl : l.length ≤ 100) (hf : l.all fitB = true) : F12.f (l, l) = some (true, ()) := by
  have hs : ∀ i : Int, 0 ≤ i ∧ i ≤ (l.length : Int) → (∃ i', F12.r1 (l, l) i = some (.inl i') ∧ (0 ≤ i' ∧ i' ≤ (l.length : Int)) ∧ l.length - i'.toNat < l.length - i.toNat) ∨ (∃ b, F12.r1 (l, l) i = some (.inr b) ∧ b.1.1 = 0) := by
    intro i hi
    unfold F12.r1 F12.r1P
    simp only
    by_cases c0 : i < (l.length : Int)
    · left
      have d1 : decide (0 ≤ i ∧ i < (l.length : Int) ∧ 0 < l.length) = true := by rw [decide_eq_true_eq]; omega
      have hlt : 0 + i.toNat < l.length := by omega
      have hm : l.getD (0 + i.toNat) (0, 0, 0, 0, 0, []) ∈ l := by
        rw [List.getD_eq_getElem?_getD, List.getElem?_eq_getElem hlt]
        exact List.getElem_mem _
      have hfx := List.all_eq_true.1 hf _ hm
      generalize l.getD (0 + i.toNat) (0, 0, 0, 0, 0, []) = x at *
      unfold fitB at hfx
      simp only [Bool.and_eq_true, beq_iff_eq] at hfx
      have hw : IntKind.i64.wrap (i + 1) = i + 1 := IntWalk.i64_in _ (by omega)
      refine ⟨i + 1, ?_, ⟨by omega, by omega⟩, by omega⟩
      have hp : 0 < l.length := by omega
      simp [c0, hlt, hfx, hw, hi.1, hp]
    · right
      exact ⟨((0, false), ()), by simp [c0], rfl⟩
  obtain ⟨r, e, h⟩ := iterO_inv (f := F12.r1 (l, l)) (fun i => 0 ≤ i ∧ i ≤ (l.length : Int)) (fun i => l.length - i.toNat) (fun r => r.1.1 = 0) hs 0 ⟨Int.le_refl 0, by omega⟩
  have e' : F12.l1 (l, l) (OfNat.ofNat 0) = some r := e
  show F12.fP _ _ = _
  unfold F12.fP
  have lc : (decide (0 + l.length ≤ l.length) && true) = true := by simp
  simp only [bne_self_eq_false, cond_false, lc, cond_true, List.take_length, e', Option.bind_some, h, decide_true]
theorem len_run (s h k w hh c d : Int) (data : List Int) : (run (s, h) (k, w, hh, c, d, data)).2.length ≤ 100 := by
  have he : ∀ s k c d data, (ends s k c d data).2.length ≤ 100 := by
    intro s k c d data
    unfold ends
    by_cases h1 : c = 0 ∧ d = 0 <;> by_cases h2 : s = 6 <;> by_cases h3 : k = 2 <;> simp [h1, h2, h3]
  have hm : ∀ s h k w hh, (message s h k w hh).2.length ≤ 100 := by
    intro s h k w hh
    unfold message hold2
    repeat' split
    all_goals first | exact he _ _ _ _ _ | simp
  unfold run dial
  simp only
  repeat' split
  all_goals first | exact he _ _ _ _ _ | exact hm _ _ _ _ _ | simp
/-- Both do the same of any machine and any event. -/
theorem both (m : PA.M) (k w hh c d : Int) (data : List Int) (hc : 0 ≤ c ∧ c ≤ 255) (hd : 0 ≤ d ∧ d ≤ 255) :
    ∃ o : Out, F9.f (m, (k, w, hh, c, d, data)) = some (o, ()) ∧ F10.f (m, (k, w, hh, c, d, data)) = some (o, ()) ∧ F12.f (o.2, o.2) = some (true, ()) := by
  rcases hm : cleanM m with ⟨s, h⟩
  rcases he : cleanE (k, w, hh, c, d, data) with ⟨k1, w1, hh1, c1, d1, data1⟩
  rcases he2 : E4 (E3 (k, w, hh, c, d, data)) with ⟨k2, w2, hh2, c2, d2, data2⟩
  obtain ⟨m0, m1⟩ := m
  have hs : (1 ≤ s ∧ s ≤ 6) ∧ (s < 5 → h = 0) := by
    unfold cleanM at hm
    simp only [Prod.mk.injEq] at hm
    obtain ⟨h1, h2⟩ := hm
    constructor
    · split at h1 <;> omega
    · intro h3
      rw [h1, if_pos h3] at h2
      exact h2.symm
  have f1 : (k1 = 5 → 1 ≤ w1 ∧ w1 ≤ 5) ∧ 0 ≤ c1 ∧ c1 ≤ 255 ∧ 0 ≤ d1 ∧ d1 ≤ 255 := by
    unfold cleanE at he
    simp only at he
    split at he
    · split at he
      · simp only [Prod.mk.injEq] at he; omega
      · split at he <;> simp only [Prod.mk.injEq] at he <;> omega
    · simp only [Prod.mk.injEq] at he; omega
  have f2 : k2 = 5 → 1 ≤ w2 ∧ w2 ≤ 5 := by
    unfold E3 at he2
    simp only at he2
    split at he2
    · unfold E4 at he2
      simp at he2
      omega
    · unfold E4 at he2
      simp only at he2
      split at he2 <;> simp only [Prod.mk.injEq] at he2 <;> omega
  have hr : run (s, h) (k1, w1, hh1, c1, d1, data1) = run (s, h) (k2, w2, hh2, c2, d2, data2) := by rw [← he, ← he2]; exact run_same _ _
  refine ⟨run (s, h) (k1, w1, hh1, c1, d1, data1), f9s _ _ s h k1 w1 hh1 c1 d1 data1 hs.1 hs.2 f1.1 (by rw [f16, hm, he]), by rw [hr]; exact f10s _ _ s h k2 w2 hh2 c2 d2 data2 hs.1 hs.2 f2 hm he2, ?_⟩
  exact like _ (len_run _ _ _ _ _ _ _ _) (fit_run _ _ _ _ _ _ _ _ hs.1 (IntWalk.i64_in _ (by omega)) (IntWalk.i64_in _ (by omega)))
end Go.Proofs.YtendadfdbmoadaaDoor.PC
