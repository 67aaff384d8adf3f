/- Chapter 14: the reference does what the document says. -/
import Derived.Test.YtendadfdbmoadaaDoorPA
namespace Go.Proofs.YtendadfdbmoadaaDoor.PB
open Go Go.Proofs Go.Proofs.YtendadfdbmoadaaDoor.Sx Go.Proofs.YtendadfdbmoadaaDoor.PA
set_option linter.unusedSimpArgs false
set_option linter.unusedVariables false
theorem f19 (s k c d : Int) (data : List Int) : F19.f (s, k, c, d, data) = some (ends s k c d data, ()) := by
  show F19.fP _ = _
  unfold F19.fP ends
  simp only [lb, cond_true, List.take_length]
  by_cases h1 : c = 0 <;> by_cases h2 : d = 0 <;> by_cases h3 : s = 6 <;> by_cases h4 : k = 2 <;> simp [h1, h2, h3, h4, Bool.cond_eq_ite]
def E3 : Ev → Ev
  | (k, w, hh, c, d, data) => if k = 5 ∧ (w < 1 ∨ 5 < w) then (7, 0, 0, 1, 3, []) else (k, w, hh, c, d, data)
def E4 : Ev → Ev
  | (k, w, hh, c, d, data) => if k = 5 ∧ w = 1 ∧ (hh < 0 ∨ hh = 1 ∨ hh = 2 ∨ 65535 < hh) then (7, 0, 0, 2, 6, []) else (k, w, hh, c, d, data)
theorem l1 (s h : Int) : F10.l1 () (s, h) = some ((), (if s < 1 ∨ 6 < s then 1 else s), h) := by
  unfold F10.l1 F10.r1 F10.r1P
  by_cases h1 : s < 1 <;> by_cases h2 : 6 < s <;> simp [h1, h2]
theorem l2 (s h : Int) : F10.l2 () (s, h) = some ((), s, if s < 5 then 0 else h) := by
  unfold F10.l2 F10.r2 F10.r2P
  by_cases h1 : s < 5 <;> simp [h1]
theorem l3 (e : Ev) : F10.l3 () e = some ((), E3 e) := by
  obtain ⟨k, w, hh, c, d, data⟩ := e
  unfold F10.l3 F10.r3 F10.r3P E3
  by_cases h1 : k = 5 <;> by_cases h2 : w < 1 <;> by_cases h3 : 5 < w <;> simp [h1, h2, h3, Bool.cond_eq_ite]
theorem l4 (e : Ev) : F10.l4 () e = some ((), E4 e) := by
  obtain ⟨k, w, hh, c, d, data⟩ := e
  unfold F10.l4 F10.r4 F10.r4P E4
  by_cases h1 : k = 5 <;> by_cases h2 : w = 1 <;> by_cases h3 : hh < 0 <;> by_cases h4 : hh = 1 <;> by_cases h5 : hh = 2 <;> by_cases h6 : 65535 < hh <;> simp [h1, h2, h3, h4, h5, h6, Bool.cond_eq_ite]
set_option maxHeartbeats 40000000 in
theorem f18 (s k w hh c d : Int) (data : List Int) (hs : s = 1 ∨ s = 2 ∨ s = 3) : F18.f ((s, 0), (k, w, hh, c, d, data)) = some (run (s, 0) (k, w, hh, c, d, data), ()) := by
  show F18.fP _ _ = _
  unfold F18.fP
  simp only [lb, cond_true, List.take_length, List.drop_zero, f19, Option.bind_some]
  have hk : k = 1 ∨ k = 2 ∨ k = 3 ∨ k = 4 ∨ (k = 6 ∧ w = 1) ∨ (k = 6 ∧ w ≠ 1) ∨ (k ≠ 1 ∧ k ≠ 2 ∧ k ≠ 3 ∧ k ≠ 4 ∧ k ≠ 6) := by omega
  rcases hs with rfl | rfl | rfl <;> rcases hk with rfl | rfl | rfl | rfl | ⟨rfl, rfl⟩ | ⟨rfl, g⟩ | ⟨g1, g2, g3, g4, g5⟩ <;> simp [run, ends, dial, Bool.cond_eq_ite, *]
set_option maxHeartbeats 40000000 in
theorem f20 (s h w hh c d : Int) (data : List Int) (hs : s = 4 ∨ s = 5 ∨ s = 6) (hw : 1 ≤ w ∧ w ≤ 5) (h3 : w ≠ 3) : F20.f ((s, h), (5, w, hh, c, d, data)) = some (run (s, h) (5, w, hh, c, d, data), ()) := by
  show F20.fP _ _ = _
  unfold F20.fP
  simp only [lb, cond_true, List.take_length, List.drop_zero, f19, Option.bind_some]
  have z1 : IntKind.i64.wrap 1 = 1 := by decide
  have z2 : IntKind.i64.wrap 2 = 2 := by decide
  have z3 : IntKind.i64.wrap 3 = 3 := by decide
  have hk : w = 1 ∨ w = 2 ∨ w = 4 ∨ w = 5 := by omega
  rcases hs with rfl | rfl | rfl <;> rcases hk with rfl | rfl | rfl | rfl <;> by_cases h1 : h = 0 <;> by_cases h2 : hh = 0 <;> simp [run, ends, message, hold2, Bool.cond_eq_ite, *]
set_option maxHeartbeats 40000000 in
theorem f10s (m : PA.M) (e : Ev) (s h k w hh c d : Int) (data : List Int) (hs : 1 ≤ s ∧ s ≤ 6) (h0 : s < 5 → h = 0) (hw : k = 5 → 1 ≤ w ∧ w ≤ 5) (hm : cleanM m = (s, h)) (he : E4 (E3 e) = (k, w, hh, c, d, data)) :
    F10.f (m, e) = some (run (s, h) (k, w, hh, c, d, data), ()) := by
  obtain ⟨m0, m1⟩ := m
  obtain ⟨e0, e1, e2, e3, e4, e5⟩ := e
  show F10.fP _ _ _ _ _ _ _ _ = _
  unfold F10.fP
  have hm' : (if m0 < 1 ∨ 6 < m0 then 1 else m0) = s ∧ (if s < 5 then 0 else m1) = h := by
    unfold cleanM at hm
    simp only [Prod.mk.injEq] at hm
    obtain ⟨h1, h2⟩ := hm
    rw [h1] at h2
    exact ⟨h1, h2⟩
  simp only [lb, cond_true, List.take_length, List.drop_zero, l1, l2, l3, l4, hm'.1, hm'.2, he, f19, Option.bind_some]
  clear hm he hm'
  rcases sCases s hs with rfl | rfl | rfl | rfl | rfl | rfl
  all_goals (try (have hz := h0 (by decide); subst hz))
  · rw [f18 _ _ _ _ _ _ _ (by decide)]; simp
  · rw [f18 _ _ _ _ _ _ _ (by decide)]; simp
  · rw [f18 _ _ _ _ _ _ _ (by decide)]; simp
  all_goals
    by_cases h5 : k = 5
    · subst h5
      by_cases g0 : w = 3
      · subst g0; simp [run, ends, Bool.cond_eq_ite]
      · rw [f20 _ _ _ _ _ _ _ (by decide) (hw rfl) g0]; simp [g0, Bool.cond_eq_ite]
    · have hw' : k = 1 ∨ k = 2 ∨ k = 3 ∨ k = 4 ∨ (k = 6 ∧ (w = 1 ∨ w = 2 ∨ w = 3 ∨ (w ≠ 1 ∧ w ≠ 2 ∧ w ≠ 3))) ∨ k = 7 ∨ k = 8 ∨ (k ≠ 1 ∧ k ≠ 2 ∧ k ≠ 3 ∧ k ≠ 4 ∧ k ≠ 6 ∧ k ≠ 7 ∧ k ≠ 8) := by omega
      clear hw
      rcases hw' with rfl | rfl | rfl | rfl | ⟨rfl, rfl | rfl | rfl | ⟨g1, g2, g3⟩⟩ | rfl | rfl | ⟨g1, g2, g3, g4, g6, g7, g8⟩
      all_goals first
        | (simp [run, ends, Bool.cond_eq_ite, *]; done)
        | (by_cases h2 : 0 < h <;> simp [run, ends, Bool.cond_eq_ite, *]; done)
end Go.Proofs.YtendadfdbmoadaaDoor.PB
