/- Chapter 14: which timers run. -/
import Derived.Test.YtendadfdbmoadaaDoorPD
import Derived.Test.YtendadfdbmoadaaDoorF5
namespace Go.Proofs.YtendadfdbmoadaaDoor.PG
open Go Go.Proofs Go.Proofs.YtendadfdbmoadaaDoor.Sx Go.Proofs.YtendadfdbmoadaaDoor.PA Go.Proofs.YtendadfdbmoadaaDoor.PB Go.Proofs.YtendadfdbmoadaaDoor.PC Go.Proofs.YtendadfdbmoadaaDoor.PD
set_option linter.unusedSimpArgs false
set_option linter.unusedVariables false
abbrev W := Bool × Bool × Bool × Bool × Bool × Bool × Bool × Bool × Bool
theorem setT (v0 v1 v2 v3 v4 v5 v6 v7 v8 : Bool) (n : Int) (hn : 1 ≤ n) : F14.f ((v0, v1, v2, v3, v4, v5, v6, v7, v8), (3, 2, n, 0, 0, [])) = some (true, (v0, v1, v2, v3, v4, v5, v6, true, v8)) := by
  show F14.fP _ = _
  unfold F14.fP
  have e : decide (n < 1) = false := by rw [decide_eq_false_iff_not]; omega
  simp [e]
  rfl
theorem setK (v0 v1 v2 v3 v4 v5 v6 v7 v8 : Bool) (n : Int) (hn : 1 ≤ n) : F14.f ((v0, v1, v2, v3, v4, v5, v6, v7, v8), (3, 3, n, 0, 0, [])) = some (true, (v0, v1, v2, v3, v4, v5, v6, v7, true)) := by
  show F14.fP _ = _
  unfold F14.fP
  have e : decide (n < 1) = false := by rw [decide_eq_false_iff_not]; omega
  simp [e]
  rfl
theorem third (n : Int) (h : 3 ≤ n) (h2 : n ≤ 65535) : 1 ≤ IntKind.i64.wrap (n.tdiv 3) := by
  rw [Int.tdiv_eq_ediv_of_nonneg (by omega), IntWalk.i64_in _ (by omega)]; omega
theorem clean_id (s h : Int) (hs : 1 ≤ s ∧ s ≤ 6) (h0 : s < 5 → h = 0) : cleanM (s, h) = (s, h) := by
  have hn : ¬ (s < 1 ∨ 6 < s) := by omega
  unfold cleanM
  simp only [hn, if_false]
  by_cases h5 : s < 5
  · simp only [h5, if_true, h0 h5]
  · simp only [h5, if_false]
/-- Timers set and stopped, one behind the other. -/
inductive TC : W → List Ev → W → Prop
  | nil (w : W) : TC w [] w
  | set {w w1 w2 : W} {a : Ev} {r : List Ev} : F14.f (w, a) = some (true, w1) → a.1 = 3 ∨ a.1 = 4 → TC w1 r w2 → TC w (a :: r) w2
  | skip {w w2 : W} {a : Ev} {r : List Ev} : a.1 ≠ 3 ∧ a.1 ≠ 4 → TC w r w2 → TC w (a :: r) w2
theorem loop (acts : List Ev) (hl : acts.length ≤ 100) : ∀ {w w2 : W} {rest : List Ev}, TC w rest w2 → ∀ pre, acts = pre ++ rest →
    F5.l3 (acts, (acts.length : Int)) (w, (pre.length : Int)) = some ((0, false), w2) := by
  intro w w2 rest h
  have facts : ∀ (pre : List Ev) (a : Ev) (r : List Ev), acts = pre ++ a :: r → decide ((pre.length : Int) < (acts.length : Int)) = true ∧ decide ((0 : Int) ≤ (pre.length : Int) ∧ (pre.length : Int) < (acts.length : Int) ∧ 0 < acts.length) = true ∧
      decide (0 + (pre.length : Int).toNat < acts.length) = true ∧ acts.getD (0 + (pre.length : Int).toNat) (0, 0, 0, 0, 0, []) = a ∧ IntKind.i64.wrap ((pre.length : Int) + 1) = (((pre ++ [a]).length : Nat) : Int) := by
    intro pre a r hp
    have hlen : acts.length = pre.length + (r.length + 1) := by rw [hp]; simp
    refine ⟨by rw [decide_eq_true_eq]; omega, by rw [decide_eq_true_eq]; omega, by rw [decide_eq_true_eq]; omega, ?_, ?_⟩
    · rw [hp, List.getD_eq_getElem?_getD, Nat.zero_add, Int.toNat_natCast, List.getElem?_append_right (Nat.le_refl _), Nat.sub_self]
      rfl
    · rw [IntWalk.i64_in _ (by omega)]; simp
  induction h with
  | nil w =>
    intro pre hp
    obtain ⟨w0, w1, w2, w3, w4, w5, w6, w7, w8⟩ := w
    have : acts.length = pre.length := by rw [hp]; simp
    show iterO (F5.r3 _) _ = _
    rw [iterO_eq]
    unfold F5.r3 F5.r3P
    have hd : decide ((pre.length : Int) < (acts.length : Int)) = false := by rw [decide_eq_false_iff_not]; omega
    simp only [hd, cond_false]
  | @set w w1 w2 a r h1 h2 h3 ih =>
    intro pre hp
    have hi := ih (pre ++ [a]) (by rw [hp]; simp)
    obtain ⟨c1, c2, c3, hg, hw⟩ := facts pre a r hp
    show iterO (F5.r3 _) _ = _
    rw [iterO_eq]
    have hstep : F5.r3 (acts, (acts.length : Int)) (w, (pre.length : Int)) = some (.inl (w1, ((pre ++ [a]).length : Int))) := by
      obtain ⟨v0, v1, v2, v3, v4, v5, v6, v7, v8⟩ := w
      unfold F5.r3 F5.r3P
      obtain ⟨a0, a1, a2, a3, a4, a5⟩ := a
      simp only [c1, c2, c3, cond_true, hg, lb, List.take_length, List.drop_zero, h1, Option.bind_some, Bool.not_true, cond_false, hw]
      rcases h2 with g | g
      · simp only at g; subst g; rfl
      · simp only at g; subst g; rfl
    rw [hstep]
    exact hi
  | @skip w w2 a r h2 h3 ih =>
    intro pre hp
    have hi := ih (pre ++ [a]) (by rw [hp]; simp)
    obtain ⟨c1, c2, c3, hg, hw⟩ := facts pre a r hp
    show iterO (F5.r3 _) _ = _
    rw [iterO_eq]
    have hstep : F5.r3 (acts, (acts.length : Int)) (w, (pre.length : Int)) = some (.inl (w, ((pre ++ [a]).length : Int))) := by
      obtain ⟨v0, v1, v2, v3, v4, v5, v6, v7, v8⟩ := w
      unfold F5.r3 F5.r3P
      obtain ⟨a0, a1, a2, a3, a4, a5⟩ := a
      simp only [c1, c2, c3, cond_true, hg, lb, List.take_length, List.drop_zero, Option.bind_some, Bool.not_true, cond_false, hw]
      obtain ⟨g1, g2⟩ := h2
      simp only at g1 g2
      rw [show (a0 == 3) = false from by simpa using g1, show (a0 == 4) = false from by simpa using g2]
      rfl
    rw [hstep]
    exact hi
def TI (m : PA.M) (w : W) : Prop :=
  (1 ≤ m.1 ∧ m.1 ≤ 6) ∧ (m.2 = 0 ∨ 3 ≤ m.2 ∧ m.2 ≤ 65535) ∧ (m.1 < 5 → m.2 = 0) ∧ (m.1 < 4 → w.2.2.2.2.2.2.2.1 = false ∧ w.2.2.2.2.2.2.2.2 = false) ∧ (m.1 = 2 ∨ m.1 = 3 → w.2.2.2.2.2.2.1 = true) ∧
    (4 ≤ m.1 → w.2.2.2.2.2.2.1 = false ∧ w.2.2.2.2.2.2.2.1 = decide (m.1 = 4 ∨ 0 < m.2) ∧ w.2.2.2.2.2.2.2.2 = decide (5 ≤ m.1 ∧ 0 < m.2))
theorem chk (m : PA.M) (w : W) (h : TI m w) : F5.l4 (m, w, decide (m.1 < 4)) () = some ((0, false), ()) ∧ F5.l5 (m, w, decide (m.1 < 4), decide (m.1 ≥ 5)) () = some ((0, false), ()) := by
  obtain ⟨s, h1⟩ := m
  obtain ⟨w0, w1, w2, w3, w4, w5, w6, w7, w8⟩ := w
  obtain ⟨q1, q2, q3, q4, q5, q6⟩ := h
  simp only at q1 q2 q3 q4 q5 q6 ⊢
  unfold F5.l4 F5.r4 F5.r4P F5.l5 F5.r5 F5.r5P
  rcases sCases s q1 with rfl | rfl | rfl | rfl | rfl | rfl
  · obtain ⟨rfl, rfl⟩ := q4 (by decide)
    obtain rfl := q3 (by decide)
    exact ⟨rfl, rfl⟩
  · obtain ⟨rfl, rfl⟩ := q4 (by decide)
    obtain rfl := q3 (by decide)
    obtain rfl := q5 (by decide)
    exact ⟨rfl, rfl⟩
  · obtain ⟨rfl, rfl⟩ := q4 (by decide)
    obtain rfl := q3 (by decide)
    obtain rfl := q5 (by decide)
    exact ⟨rfl, rfl⟩
  · obtain ⟨rfl, rfl, rfl⟩ := q6 (by decide)
    obtain rfl := q3 (by decide)
    exact ⟨rfl, rfl⟩
  · obtain ⟨rfl, rfl, rfl⟩ := q6 (by decide)
    rcases q2 with rfl | g
    · exact ⟨rfl, rfl⟩
    · have e : 0 < h1 := by omega
      simp [e]
  · obtain ⟨rfl, rfl, rfl⟩ := q6 (by decide)
    rcases q2 with rfl | g
    · exact ⟨rfl, rfl⟩
    · have e : 0 < h1 := by omega
      simp [e]
theorem nn2 : (2 : Int) ≠ 3 ∧ (2 : Int) ≠ 4 := by decide
theorem tc_ends (s k c d : Int) (data : List Int) (w0 w1 w2 w3 w4 w5 w6 w7 w8 : Bool) : TC (w0, w1, w2, w3, w4, w5, w6, w7, w8) (ends s k c d data).2 (w0, w1, w2, w3, w4, w5, !decide (k = 2), false, false) := by
  have tail : TC (w0, w1, w2, w3, w4, w5, w6, w7, w8) ([(5, 0, 0, 0, 0, []), (4, 1, 0, 0, 0, []), (4, 2, 0, 0, 0, []), (4, 3, 0, 0, 0, [])] ++ ((if s = 6 then [(8, 0, 0, 0, 0, [])] else []) ++ (if k = 2 then [] else [(3, 1, 120, 0, 0, [])]))) (w0, w1, w2, w3, w4, w5, !decide (k = 2), false, false) := by
    by_cases h6 : s = 6 <;> by_cases h2 : k = 2
    · simp only [h6, h2, if_true, decide_true]
      exact .skip (by decide) (.set rfl (by decide) (.set rfl (by decide) (.set rfl (by decide) (.skip (by decide) (.nil _)))))
    · simp only [h6, h2, if_true, if_false, decide_false]
      exact .skip (by decide) (.set rfl (by decide) (.set rfl (by decide) (.set rfl (by decide) (.skip (by decide) (.set rfl (by decide) (.nil _))))))
    · simp only [h6, h2, if_true, if_false, decide_true]
      exact .skip (by decide) (.set rfl (by decide) (.set rfl (by decide) (.set rfl (by decide) (.nil _))))
    · simp only [h6, h2, if_false, decide_false]
      exact .skip (by decide) (.set rfl (by decide) (.set rfl (by decide) (.set rfl (by decide) (.set rfl (by decide) (.nil _)))))
  unfold ends
  by_cases h0 : c = 0 ∧ d = 0
  · simp only [h0, and_self, if_true, List.nil_append]
    exact tail
  · simp only [h0, if_false]
    exact .skip nn2 tail
theorem ti1 (w0 w1 w2 w3 w4 w5 w6 : Bool) : TI (1, 0) (w0, w1, w2, w3, w4, w5, w6, false, false) := by unfold TI; simp
theorem ti23 (s : Int) (hs : s = 2 ∨ s = 3) (w0 w1 w2 w3 w4 w5 : Bool) : TI (s, 0) (w0, w1, w2, w3, w4, w5, true, false, false) := by
  unfold TI
  rcases hs with rfl | rfl <;> simp
theorem ti4 (w0 w1 w2 w3 w4 w5 : Bool) : TI (4, 0) (w0, w1, w2, w3, w4, w5, false, true, false) := by unfold TI; simp
theorem ti56 (s h : Int) (hs : s = 5 ∨ s = 6) (hh : h = 0 ∨ 3 ≤ h ∧ h ≤ 65535) (w0 w1 w2 w3 w4 w5 : Bool) : TI (s, h) (w0, w1, w2, w3, w4, w5, false, decide (0 < h), decide (0 < h)) := by
  unfold TI
  rcases hs with rfl | rfl <;> simp [hh]
set_option maxHeartbeats 40000000 in
theorem step (s h k w hh c d : Int) (data : List Int) (w0 w1 w2 w3 w4 w5 r0 h0' k0 w6 w7 w8 : Bool) (hi : TI (s, h) (w0, w1, w2, w3, w4, w5, r0, h0', k0)) (hv : k = 5 → w = 1 → hh = 0 ∨ 3 ≤ hh ∧ hh ≤ 65535)
    (hn : k ≠ 6 → w6 = r0 ∧ w7 = h0' ∧ w8 = k0) (hf : k = 6 → (w = 1 ∧ r0 = true ∧ w6 = false ∧ w7 = h0' ∧ w8 = k0) ∨ (w = 2 ∧ h0' = true ∧ w6 = r0 ∧ w7 = false ∧ w8 = k0) ∨ (w = 3 ∧ k0 = true ∧ w6 = r0 ∧ w7 = h0' ∧ w8 = false)) :
    ∃ w3', TC (w0, w1, w2, w3, w4, w5, w6, w7, w8) (run (s, h) (k, w, hh, c, d, data)).2 w3' ∧ TI (run (s, h) (k, w, hh, c, d, data)).1 w3' := by
  have fin : ∀ (k' c d : Int) (data : List Int), ∃ w3', TC (w0, w1, w2, w3, w4, w5, w6, w7, w8) (ends s k' c d data).2 w3' ∧ TI (ends s k' c d data).1 w3' :=
    fun k' c d data => ⟨_, tc_ends s k' c d data w0 w1 w2 w3 w4 w5 w6 w7 w8, ti1 _ _ _ _ _ _ _⟩
  obtain ⟨q1, q2, q3, q4, q5, q6⟩ := hi
  simp only at q1 q2 q3 q4 q5 q6
  unfold run dial
  simp only
  by_cases s4 : s < 4
  · obtain rfl : h = 0 := q3 (by omega)
    obtain ⟨rfl, rfl⟩ := q4 s4
    rw [if_pos s4]
    have e78 : w7 = false ∧ w8 = false := by
      by_cases k6 : k = 6
      · rcases hf k6 with ⟨_, _, _, g1, g2⟩ | ⟨_, g, _⟩ | ⟨_, g, _⟩
        · exact ⟨g1, g2⟩
        · cases g
        · cases g
      · exact (hn k6).2
    obtain ⟨rfl, rfl⟩ := e78
    by_cases s1 : s = 1
    · subst s1
      rw [if_pos rfl]
      split
      · exact ⟨_, .set rfl (by decide) (.skip (by decide) (.nil _)), ti23 2 (.inl rfl) _ _ _ _ _ _⟩
      · split
        · exact ⟨_, .set rfl (by decide) (.nil _), ti1 _ _ _ _ _ _ _⟩
        · exact ⟨_, .nil _, ti1 _ _ _ _ _ _ _⟩
    · rw [if_neg s1]
      have s23 : s = 2 ∨ s = 3 := by omega
      obtain rfl := q5 s23
      by_cases k2 : k = 2
      · rw [if_pos k2]; exact fin 2 0 0 []
      rw [if_neg k2]
      by_cases k3 : k = 3
      · rw [if_pos k3]
        exact ⟨_, .set rfl (by decide) (.skip (by decide) (.set rfl (by decide) (.nil _))), ti4 _ _ _ _ _ _⟩
      rw [if_neg k3]
      by_cases k4 : k = 4
      · rw [if_pos k4]
        exact ⟨_, .set rfl (by decide) (.nil _), ti23 3 (.inr rfl) _ _ _ _ _ _⟩
      rw [if_neg k4]
      by_cases k6 : k = 6
      · rcases hf k6 with ⟨g0, _⟩ | ⟨_, g, _⟩ | ⟨_, g, _⟩
        · rw [if_pos ⟨k6, g0⟩]
          exact ⟨_, .set rfl (by decide) (.skip (by decide) (.nil _)), ti23 2 (.inl rfl) _ _ _ _ _ _⟩
        · cases g
        · cases g
      · rw [if_neg (fun g => k6 g.1)]
        obtain rfl := (hn k6).1
        exact ⟨_, .nil _, ti23 s s23 _ _ _ _ _ _⟩
  · have s4' : 4 ≤ s := by omega
    rw [if_neg s4]
    obtain ⟨rfl, rfl, rfl⟩ := q6 s4'
    by_cases k2 : k = 2
    · rw [if_pos k2]; exact fin 2 6 2 []
    rw [if_neg k2]
    by_cases k6 : k = 6
    · rw [if_neg (by omega), if_neg (by omega)]
      rcases hf k6 with ⟨_, g, _⟩ | ⟨g0, _⟩ | ⟨g0, g, rfl, rfl, rfl⟩
      · cases g
      · rw [if_pos ⟨k6, g0⟩]; exact fin _ _ _ _
      · have g := of_decide_eq_true g
        rw [if_neg (by omega), if_pos (by omega)]
        have e4 : (decide (s = 4 ∨ 0 < h)) = decide (0 < h) := by rw [decide_eq_decide]; omega
        have e5 : decide (0 < h) = true := by rw [decide_eq_true_eq]; exact g.2
        have := ti56 s h (by omega) q2 w0 w1 w2 w3 w4 w5
        rw [e4]
        refine ⟨_, .skip ⟨by decide, by decide⟩ (.set (setK _ _ _ _ _ _ _ _ _ _ (third _ (by omega) (by omega))) (.inl rfl) (.nil _)), ?_⟩
        rw [e5] at this ⊢
        exact this
    · obtain ⟨rfl, rfl, rfl⟩ := hn k6
      by_cases k4 : k = 4
      · rw [if_pos k4]
        split
        · rename_i g
          subst g
          obtain rfl : h = 0 := q3 (by decide)
          exact ⟨_, .skip (by decide) (.set rfl (by decide) (.set rfl (by decide) (.nil _))), ti23 3 (.inr rfl) _ _ _ _ _ _⟩
        · exact fin _ _ _ _
      rw [if_neg k4]
      by_cases k5 : k = 5
      · rw [if_pos k5]
        by_cases w3e : w = 3
        · rw [if_pos w3e]; exact fin _ _ _ _
        rw [if_neg w3e]
        unfold message hold2
        by_cases m1 : s = 4 ∧ w = 1
        · rw [if_pos m1]
          obtain ⟨rfl, rfl⟩ := m1
          obtain rfl : h = 0 := q3 (by decide)
          rcases hv k5 rfl with g | g
          · subst g
            exact ⟨_, .skip (by decide) (.set rfl (by decide) (.nil _)), ti56 5 0 (.inl rfl) (.inl rfl) _ _ _ _ _ _⟩
          · rw [if_neg (by omega)]
            have := ti56 5 hh (.inl rfl) (.inr g) w0 w1 w2 w3 w4 w5
            have e5 : decide (0 < hh) = true := by rw [decide_eq_true_eq]; omega
            rw [e5] at this
            exact ⟨_, .skip ⟨by decide, by decide⟩ (.set (setT _ _ _ _ _ _ _ _ _ _ (by omega)) (.inl rfl) (.set (setK _ _ _ _ _ _ _ _ _ _ (third _ g.1 g.2)) (.inl rfl) (.nil _))), this⟩
        rw [if_neg m1]
        -- behind an Open
        have late : s = 5 ∨ s = 6 → ∀ (tl : List Ev) (s' : Int), (s' = 5 ∨ s' = 6) → (∀ w : W, TC w tl w) → ∃ w3', TC (w0, w1, w2, w3, w4, w5, false, decide (s = 4 ∨ 0 < h), decide (5 ≤ s ∧ 0 < h)) ((if h = 0 then [] else [(3, 2, h, 0, 0, [])]) ++ tl) w3' ∧ TI (s', h) w3' := by
          intro hs tl s' hs' htl
          have e4 : (decide (s = 4 ∨ 0 < h)) = decide (0 < h) := by rw [decide_eq_decide]; omega
          have e6 : (decide (5 ≤ s ∧ 0 < h)) = decide (0 < h) := by rw [decide_eq_decide]; omega
          rw [e4, e6]
          rcases q2 with g | g
          · subst g
            exact ⟨_, htl _, ti56 s' 0 hs' (.inl rfl) _ _ _ _ _ _⟩
          · have e5 : decide (0 < h) = true := by rw [decide_eq_true_eq]; omega
            have := ti56 s' h hs' (.inr g) w0 w1 w2 w3 w4 w5
            rw [if_neg (by omega), e5]
            rw [e5] at this
            exact ⟨_, .set (setT _ _ _ _ _ _ _ _ _ _ (by omega)) (.inl rfl) (htl _), this⟩
        by_cases m2 : s = 5 ∧ w = 4
        · rw [if_pos m2]
          exact late (.inl m2.1) [(7, 0, 0, 0, 0, [])] 6 (.inr rfl) (fun w => .skip (by decide) (.nil _))
        rw [if_neg m2]
        by_cases s6 : s = 6
        · by_cases m3 : w = 4
          · rw [if_pos ⟨s6, m3⟩]
            have := late (.inr s6) [] 6 (.inr rfl) (fun w => .nil _)
            rw [List.append_nil] at this
            exact this
          rw [if_neg (by omega)]
          by_cases m4 : w = 2
          · rw [if_pos ⟨s6, m4⟩]
            exact late (.inr s6) [(9, 0, 0, 0, 0, [])] 6 (.inr rfl) (fun w => .skip (by decide) (.nil _))
          rw [if_neg (by omega)]
          by_cases m5 : w = 5
          · rw [if_pos ⟨s6, m5⟩]
            have e4 : (decide (s = 4 ∨ 0 < h)) = decide (0 < h) := by rw [decide_eq_decide]; omega
            have e6 : (decide (5 ≤ s ∧ 0 < h)) = decide (0 < h) := by rw [decide_eq_decide]; omega
            rw [e4, e6]
            exact ⟨_, .skip (by decide) (.nil _), ti56 6 h (.inr rfl) q2 _ _ _ _ _ _⟩
          rw [if_neg (by omega)]
          exact fin _ _ _ _
        · rw [if_neg (by omega), if_neg (by omega), if_neg (by omega)]
          exact fin _ _ _ _
      rw [if_neg k5, if_neg (fun g => k6 g.1), if_neg (fun g => k6 g.1)]
      split
      · exact fin _ _ _ _
      · refine ⟨_, .nil _, ?_⟩
        exact ⟨q1, q2, q3, fun g => by have : s < 4 := g; omega, fun g => by have : s = 2 ∨ s = 3 := g; omega, fun _ => ⟨rfl, rfl, rfl⟩⟩
end Go.Proofs.YtendadfdbmoadaaDoor.PG
