/- Chapter 14: what a session does, as the document has it. -/
import Derived.Test.YtendadfdbmoadaaDoorF9
import Derived.Test.YtendadfdbmoadaaDoorF10
import Derived.IntWalk
namespace Go.Proofs.YtendadfdbmoadaaDoor.PA
open Go Go.Proofs Go.Proofs.YtendadfdbmoadaaDoor.Sx
set_option linter.unusedSimpArgs false
set_option linter.unusedVariables false
abbrev M := Int × Int
abbrev Ev := Int × Int × Int × Int × Int × List Int
abbrev Out := M × List Ev
def ends (st kind code sub : Int) (data : List Int) : Out :=
  ((1, 0), (if code = 0 ∧ sub = 0 then [] else [(2, 0, 0, code, sub, data)]) ++ ([(5, 0, 0, 0, 0, []), (4, 1, 0, 0, 0, []), (4, 2, 0, 0, 0, []), (4, 3, 0, 0, 0, [])] ++ ((if st = 6 then [(8, 0, 0, 0, 0, [])] else []) ++ (if kind = 2 then [] else [(3, 1, 120, 0, 0, [])]))))
def dial : Out := ((2, 0), [(3, 1, 120, 0, 0, []), (6, 0, 0, 0, 0, [])])
def hold2 (h : Int) : List Ev := if h = 0 then [] else [(3, 2, h, 0, 0, [])]
def message (s h k w hh : Int) : Out :=
  if s = 4 ∧ w = 1 then ((5, hh), (1, 4, 0, 0, 0, []) :: (if hh = 0 then [(4, 2, 0, 0, 0, [])] else [(3, 2, hh, 0, 0, []), (3, 3, IntKind.i64.wrap (hh.tdiv 3), 0, 0, [])]))
  else if s = 5 ∧ w = 4 then ((6, h), hold2 h ++ [(7, 0, 0, 0, 0, [])])
  else if s = 6 ∧ w = 4 then ((6, h), hold2 h)
  else if s = 6 ∧ w = 2 then ((6, h), hold2 h ++ [(9, 0, 0, 0, 0, [])])
  else if s = 6 ∧ w = 5 then ((6, h), [(9, 0, 0, 0, 0, [])])
  else ends s k 5 (s - 3) []
/-- What a machine that may be does of an event that may be. -/
def run : M → Ev → Out
  | (s, h), (k, w, hh, c, d, data) =>
    if s < 4 then
      if s = 1 then
        if k = 1 ∨ k = 6 ∧ w = 1 then dial else if k = 2 then ((1, h), [(4, 1, 0, 0, 0, [])]) else ((1, h), [])
      else if k = 2 then ends s 2 0 0 []
      else if k = 3 then ((4, 0), [(4, 1, 0, 0, 0, []), (1, 1, 0, 0, 0, []), (3, 2, 240, 0, 0, [])])
      else if k = 4 then ((3, 0), [(3, 1, 120, 0, 0, [])])
      else if k = 6 ∧ w = 1 then dial else ((s, h), [])
    else if k = 2 then ends s 2 6 2 []
    else if k = 4 then (if s = 4 then ((3, 0), [(5, 0, 0, 0, 0, []), (4, 2, 0, 0, 0, []), (3, 1, 120, 0, 0, [])]) else ends s 4 0 0 [])
    else if k = 5 then (if w = 3 then ends s 5 0 0 [] else message s h k w hh)
    else if k = 6 ∧ w = 2 then ends s 6 4 0 []
    else if k = 6 ∧ w = 3 ∧ 4 < s ∧ 0 < h then ((s, h), [(1, 4, 0, 0, 0, []), (3, 3, IntKind.i64.wrap (h.tdiv 3), 0, 0, [])])
    else if k = 7 ∨ k = 8 then ends s k c d data
    else ((s, h), [])
def cleanM : M → M
  | (s, h) => let s' := if s < 1 ∨ 6 < s then 1 else s; (s', if s' < 5 then 0 else h)
def cleanE : Ev → Ev
  | (k, w, hh, c, d, data) => if k = 5 then (if w < 1 ∨ 5 < w then (7, w, hh, 1, 3, []) else if w = 1 ∧ (hh < 0 ∨ hh = 1 ∨ hh = 2 ∨ 65535 < hh) then (7, w, hh, 2, 6, []) else (k, w, hh, c, d, data)) else (k, w, hh, c, d, data)
theorem mCases (s : Int) : s < 1 ∨ (¬ s < 1 ∧ s > 6) ∨ (¬ s < 1 ∧ ¬ s > 6 ∧ s < 5) ∨ (¬ s < 1 ∧ ¬ s > 6 ∧ ¬ s < 5) := by omega
theorem eCases (k w hh : Int) : k ≠ 5 ∨ (k = 5 ∧ w < 1) ∨ (k = 5 ∧ ¬ w < 1 ∧ w > 5) ∨ (k = 5 ∧ w = 1 ∧ hh < 0) ∨ (k = 5 ∧ w = 1 ∧ hh = 1) ∨ (k = 5 ∧ w = 1 ∧ hh = 2) ∨ (k = 5 ∧ w = 1 ∧ hh > 65535) ∨ (k = 5 ∧ w = 1 ∧ ¬ hh < 0 ∧ hh ≠ 1 ∧ hh ≠ 2 ∧ ¬ hh > 65535) ∨ (k = 5 ∧ ¬ w < 1 ∧ ¬ w > 5 ∧ w ≠ 1) := by omega
theorem lb (l : List Int) : (decide (0 + l.length ≤ l.length) && true) = true := by simp
set_option maxHeartbeats 4000000 in
theorem f16 (m : M) (e : Ev) : F16.f (m, e) = some ((cleanM m, cleanE e), ()) := by
  obtain ⟨m0, m1⟩ := m
  obtain ⟨e0, e1, e2, e3, e4, e5⟩ := e
  show F16.fP _ = _
  unfold F16.fP cleanM cleanE
  simp only [lb, cond_true, List.take_length]
  rcases eCases e0 e1 e2 with h | ⟨h, h1⟩ | ⟨h, h1, h2⟩ | ⟨h, rfl, h2⟩ | ⟨h, rfl, rfl⟩ | ⟨h, rfl, rfl⟩ | ⟨h, rfl, h2⟩ | ⟨h, rfl, h2, h3, h4, h5⟩ | ⟨h, h1, h2, h3⟩ <;>
  rcases mCases m0 with g | ⟨g, g1⟩ | ⟨g, g1, g2⟩ | ⟨g, g1, g2⟩
  all_goals simp [*, Bool.cond_eq_ite]
theorem f22 (s h k w hh c d : Int) (data : List Int) : F22.f ((s, h), (k, w, hh, c, d, data)) = some (ends s k c d data, ()) := by
  show F22.fP _ = _
  unfold F22.fP ends
  simp only [lb, cond_true, List.take_length]
  by_cases h1 : c = 0 <;> by_cases h2 : d = 0 <;> by_cases h3 : s = 6 <;> by_cases h4 : k = 2 <;> simp [h1, h2, h3, h4, Bool.cond_eq_ite]
def allR (s h k w c d : Int) (data : List Int) : M × List Ev × Bool :=
  if s < 4 then ((s, h), [], false)
  else if k = 5 ∧ w = 3 then ((ends s k 0 0 []).1, (ends s k 0 0 []).2, true)
  else if k = 2 then ((ends s k 6 2 []).1, (ends s k 6 2 []).2, true)
  else if k = 6 ∧ w = 2 then ((ends s k 4 0 []).1, (ends s k 4 0 []).2, true)
  else if k = 7 ∨ k = 8 then ((ends s k c d data).1, (ends s k c d data).2, true)
  else ((s, h), [], false)
theorem f17 (s h k w hh c d : Int) (data : List Int) : F17.f ((s, h), (k, w, hh, c, d, data)) = some (allR s h k w c d data, ()) := by
  show F17.fP _ _ = _
  unfold F17.fP allR
  simp only [lb, cond_true, List.take_length, List.drop_zero, f22, Option.bind_some]
  by_cases h0 : s < 4
  · simp [h0]
  by_cases h5 : k = 5
  · by_cases h3 : w = 3 <;> simp [h0, h5, h3, Bool.cond_eq_ite]
  by_cases h2 : k = 2
  · simp [h0, h2, Bool.cond_eq_ite]
  by_cases h6 : k = 6
  · by_cases h3 : w = 2 <;> simp [h0, h6, h3, Bool.cond_eq_ite]
  by_cases h7 : k = 7
  · simp [h0, h7, Bool.cond_eq_ite]
  by_cases h8 : k = 8
  · simp [h0, h8, Bool.cond_eq_ite]
  simp [h0, h2, h5, h6, h7, h8, Bool.cond_eq_ite]
theorem sCases (s : Int) (h : 1 ≤ s ∧ s ≤ 6) : s = 1 ∨ s = 2 ∨ s = 3 ∨ s = 4 ∨ s = 5 ∨ s = 6 := by omega
theorem wCases (k w : Int) (h : k = 5 → 1 ≤ w ∧ w ≤ 5) : k = 1 ∨ k = 2 ∨ k = 3 ∨ k = 4 ∨ (k = 5 ∧ (w = 1 ∨ w = 2 ∨ w = 3 ∨ w = 4 ∨ w = 5)) ∨ (k = 6 ∧ (w = 1 ∨ w = 2 ∨ w = 3 ∨ (w ≠ 1 ∧ w ≠ 2 ∧ w ≠ 3))) ∨ k = 7 ∨ k = 8 ∨ (k ≠ 1 ∧ k ≠ 2 ∧ k ≠ 3 ∧ k ≠ 4 ∧ k ≠ 5 ∧ k ≠ 6 ∧ k ≠ 7 ∧ k ≠ 8) := by omega
set_option maxHeartbeats 40000000 in
theorem f9s (m : M) (e : Ev) (s h k w hh c d : Int) (data : List Int) (hs : 1 ≤ s ∧ s ≤ 6) (h0 : s < 5 → h = 0) (hw : k = 5 → 1 ≤ w ∧ w ≤ 5) (hc : F16.f (m, e) = some (((s, h), (k, w, hh, c, d, data)), ())) :
    F9.f (m, e) = some (run (s, h) (k, w, hh, c, d, data), ()) := by
  obtain ⟨m0, m1⟩ := m
  obtain ⟨e0, e1, e2, e3, e4, e5⟩ := e
  show F9.fP _ _ _ = _
  unfold F9.fP
  simp only [lb, cond_true, List.take_length, List.drop_zero, hc, f17, Option.bind_some]
  clear hc
  rcases sCases s hs with rfl | rfl | rfl | rfl | rfl | rfl <;>
  rcases wCases k w hw with rfl | rfl | rfl | rfl | ⟨rfl, rfl | rfl | rfl | rfl | rfl⟩ | ⟨rfl, rfl | rfl | rfl | ⟨g1, g2, g3⟩⟩ | rfl | rfl | ⟨g1, g2, g3, g4, g5, g6, g7, g8⟩
  all_goals (try (have hz := h0 (by decide); subst hz))
  all_goals clear h0
  all_goals (first | (simp [allR, run, ends, message, dial, hold2, Bool.cond_eq_ite, *]; done) | (by_cases h3 : hh = 0 <;> simp [allR, run, ends, message, dial, hold2, Bool.cond_eq_ite, *]; done) | (by_cases h1 : h = 0 <;> by_cases h2 : 0 < h <;> by_cases h3 : hh = 0 <;> simp [allR, run, ends, message, dial, hold2, Bool.cond_eq_ite, *]; done) | skip)
end Go.Proofs.YtendadfdbmoadaaDoor.PA
