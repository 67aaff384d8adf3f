/- Chapter 14: which timers run, of any rows of events. -/
import Derived.Test.YtendadfdbmoadaaDoorPG
namespace Go.Proofs.YtendadfdbmoadaaDoor.PH
open Go Go.Proofs Go.Proofs.YtendadfdbmoadaaDoor.Sx Go.Proofs.YtendadfdbmoadaaDoor.PA Go.Proofs.YtendadfdbmoadaaDoor.PB Go.Proofs.YtendadfdbmoadaaDoor.PC Go.Proofs.YtendadfdbmoadaaDoor.PD Go.Proofs.YtendadfdbmoadaaDoor.PG
set_option linter.unusedSimpArgs false
set_option linter.unusedVariables false
section
variable (w0 w1 w2 w3 w4 w5 w6 w7 w8 : Bool) (k w hh c d : Int) (data : List Int)
theorem l1a (h : k ≠ 6) : F5.l1 ((w0, w1, w2, w3, w4, w5, w6, w7, w8), (k, w, hh, c, d, data)) () = some (0, ()) := by
  unfold F5.l1 F5.r1 F5.r1P
  simp [h, Bool.cond_eq_ite]
theorem l1b (h : w < 1 ∨ w > 3) : F5.l1 ((w0, w1, w2, w3, w4, w5, w6, w7, w8), (6, w, hh, c, d, data)) () = some (1, ()) := by
  unfold F5.l1 F5.r1 F5.r1P
  by_cases h1 : w < 1
  · simp [h1]
  · have h2 : 3 < w := by omega
    simp [h1, h2]
theorem l1c1 : F5.l1 ((w0, w1, w2, w3, w4, w5, w6, w7, w8), (6, 1, hh, c, d, data)) () = some (if w6 then 0 else 1, ()) := by cases w6 <;> rfl
theorem l1c2 : F5.l1 ((w0, w1, w2, w3, w4, w5, w6, w7, w8), (6, 2, hh, c, d, data)) () = some (if w7 then 0 else 1, ()) := by cases w7 <;> rfl
theorem l1c3 : F5.l1 ((w0, w1, w2, w3, w4, w5, w6, w7, w8), (6, 3, hh, c, d, data)) () = some (if w8 then 0 else 1, ()) := by cases w8 <;> rfl
theorem l2a (h : k ≠ 6) : F5.l2 (k, w, hh, c, d, data) (w0, w1, w2, w3, w4, w5, w6, w7, w8) = some ((), (w0, w1, w2, w3, w4, w5, w6, w7, w8)) := by
  unfold F5.l2 F5.r2 F5.r2P
  simp [h, Bool.cond_eq_ite]
theorem l2c1 : F5.l2 (6, 1, hh, c, d, data) (w0, w1, w2, w3, w4, w5, w6, w7, w8) = some ((), (w0, w1, w2, w3, w4, w5, false, w7, w8)) := rfl
theorem l2c2 : F5.l2 (6, 2, hh, c, d, data) (w0, w1, w2, w3, w4, w5, w6, w7, w8) = some ((), (w0, w1, w2, w3, w4, w5, w6, false, w8)) := rfl
theorem l2c3 : F5.l2 (6, 3, hh, c, d, data) (w0, w1, w2, w3, w4, w5, w6, w7, w8) = some ((), (w0, w1, w2, w3, w4, w5, w6, w7, false)) := rfl
end
abbrev S5 := PA.M × W × Int
def Inv5 (n : Nat) (s : S5) : Prop := TI s.1 s.2.1 ∧ 0 ≤ s.2.2 ∧ s.2.2 ≤ 80 ∧ s.2.2 ≤ n
set_option maxHeartbeats 4000000 in
theorem round5 (l : List Ev) (hl : ∀ e ∈ l, Wf e) (st : S5) (hi : Inv5 l.length st) :
    (∃ s', F5.r6 (l, (l.length : Int)) st = some (.inl s') ∧ Inv5 l.length s' ∧ 81 - s'.2.2.toNat < 81 - st.2.2.toNat) ∨ (∃ b, F5.r6 (l, (l.length : Int)) st = some (.inr b) ∧ b.1.1 = 0) := by
  obtain ⟨⟨s, h⟩, ⟨w0, w1, w2, w3, w4, w5, w6, w7, w8⟩, i⟩ := st
  obtain ⟨hT, i1, i2, i3⟩ := hi
  simp only at hT i1 i2 i3
  unfold F5.r6 F5.r6P
  simp only
  by_cases c0 : i < (l.length : Int)
  · rw [decide_eq_true c0, cond_true]
    have d1 : decide (0 ≤ i ∧ i < (l.length : Int) ∧ 0 < l.length) = true := by rw [decide_eq_true_eq]; omega
    have hlt : 0 + i.toNat < l.length := by omega
    rw [d1, decide_eq_true hlt, cond_true, cond_true]
    by_cases c8 : i = 80
    · right
      subst c8
      exact ⟨_, rfl, rfl⟩
    · left
      rw [show (i == 80) = false from by simpa using c8, cond_false]
      have hm : l.getD (0 + i.toNat) (0, 0, 0, 0, 0, []) ∈ l := by
        rw [List.getD_eq_getElem?_getD, List.getElem?_eq_getElem hlt]
        exact List.getElem_mem _
      have hx := hl _ hm
      generalize l.getD (0 + i.toNat) (0, 0, 0, 0, 0, []) = x at *
      obtain ⟨k, w, hh, c, d, data⟩ := x
      obtain ⟨g1, g2, g3⟩ := hx
      simp only at g1 g2 g3
      have hwi : IntKind.i64.wrap (i + 1) = i + 1 := IntWalk.i64_in _ (by omega)
      have nxt : ∀ (m : PA.M) (w' : W), TI m w' → Inv5 l.length (m, w', i + 1) ∧ 81 - (i + 1).toNat < 81 - i.toNat := fun m w' hw3 => ⟨⟨hw3, by show 0 ≤ i + 1; omega, by show i + 1 ≤ 80; omega, by show i + 1 ≤ (l.length : Int); omega⟩, by omega⟩
      have u1 : 1 ≤ s ∧ s ≤ 6 := hT.1
      have u3 : s < 5 → h = 0 := hT.2.2.1
      rcases hc : cleanE (k, w, hh, c, d, data) with ⟨k1, w1', hh1, c1, d1', data1⟩
      have hcE : (k1 = 5 → 1 ≤ w1' ∧ w1' ≤ 5) ∧ (k1 = 5 → w1' = 1 → hh1 = 0 ∨ 3 ≤ hh1 ∧ hh1 ≤ 65535) ∧ (k1 = 6 → k = 6 ∧ w = w1') ∧ (k = 6 → k1 = 6) := by
        unfold cleanE at hc
        simp only at hc
        split at hc
        · split at hc
          · simp only [Prod.mk.injEq] at hc; omega
          · split at hc <;> simp only [Prod.mk.injEq] at hc <;> omega
        · simp only [Prod.mk.injEq] at hc; omega
      obtain ⟨q1, q2, q3, q4⟩ := hcE
      have hF9 : F9.f ((s, h), (k, w, hh, c, d, data)) = some (run (s, h) (k1, w1', hh1, c1, d1', data1), ()) :=
        f9s _ _ s h k1 w1' hh1 c1 d1' data1 u1 u3 q1 (by rw [f16, clean_id s h u1 u3, hc])
      have hlen := len_run s h k1 w1' hh1 c1 d1' data1
      -- a round that is played
      have play : ∀ v6 v7 v8 : Bool, (k ≠ 6 → v6 = w6 ∧ v7 = w7 ∧ v8 = w8) → (k = 6 → (w = 1 ∧ w6 = true ∧ v6 = false ∧ v7 = w7 ∧ v8 = w8) ∨ (w = 2 ∧ w7 = true ∧ v6 = w6 ∧ v7 = false ∧ v8 = w8) ∨ (w = 3 ∧ w8 = true ∧ v6 = w6 ∧ v7 = w7 ∧ v8 = false)) →
          F5.l1 ((w0, w1, w2, w3, w4, w5, w6, w7, w8), (k, w, hh, c, d, data)) () = some (0, ()) → F5.l2 (k, w, hh, c, d, data) (w0, w1, w2, w3, w4, w5, w6, w7, w8) = some ((), (w0, w1, w2, w3, w4, w5, v6, v7, v8)) →
          ∃ s', (∃ rest, F5.r6P F9.f F14.f F5.l1 F5.l2 F5.l3 F5.l4 F5.l5 (l, (l.length : Int)) ((s, h), (w0, w1, w2, w3, w4, w5, w6, w7, w8), i) = rest) ∧ Inv5 l.length s' ∧ 81 - s'.2.2.toNat < 81 - i.toNat ∧
            (∃ acts p w3', F9.f ((s, h), (k, w, hh, c, d, data)) = some ((p, acts), ()) ∧ F5.l3 (acts, (acts.length : Int)) ((true, w1, w2, w3, w4, w5, v6, v7, v8), 0) = some ((0, false), w3') ∧ F5.l4 (p, w3', decide (p.1 < 4)) () = some ((0, false), ()) ∧ F5.l5 (p, w3', decide (p.1 < 4), decide (p.1 ≥ 5)) () = some ((0, false), ()) ∧ s' = (p, w3', i + 1)) := by
        intro v6 v7 v8 hn hf e1 e2
        obtain ⟨w3', h1, h2⟩ := PG.step s h k1 w1' hh1 c1 d1' data1 true w1 w2 w3 w4 w5 w6 w7 w8 v6 v7 v8 hT q2 (fun g => hn (fun g' => g (q4 g'))) (fun g => by
          obtain ⟨g1', g2'⟩ := q3 g
          have := hf g1'
          rw [g2'] at this
          exact this)
        rcases hr : run (s, h) (k1, w1', hh1, c1, d1', data1) with ⟨p, acts⟩
        rw [hr] at hF9 hlen h1 h2
        obtain ⟨k1', k2'⟩ := chk p w3' h2
        exact ⟨(p, w3', i + 1), ⟨_, rfl⟩, (nxt p w3' h2).1, (nxt p w3' h2).2, acts, p, w3', hF9, loop acts hlen h1 [] rfl, k1', k2', rfl⟩
      have main : (∃ v6 v7 v8 : Bool, (k ≠ 6 → v6 = w6 ∧ v7 = w7 ∧ v8 = w8) ∧ (k = 6 → (w = 1 ∧ w6 = true ∧ v6 = false ∧ v7 = w7 ∧ v8 = w8) ∨ (w = 2 ∧ w7 = true ∧ v6 = w6 ∧ v7 = false ∧ v8 = w8) ∨ (w = 3 ∧ w8 = true ∧ v6 = w6 ∧ v7 = w7 ∧ v8 = false)) ∧
          F5.l1 ((w0, w1, w2, w3, w4, w5, w6, w7, w8), (k, w, hh, c, d, data)) () = some (0, ()) ∧ F5.l2 (k, w, hh, c, d, data) (w0, w1, w2, w3, w4, w5, w6, w7, w8) = some ((), (w0, w1, w2, w3, w4, w5, v6, v7, v8))) ∨
          F5.l1 ((w0, w1, w2, w3, w4, w5, w6, w7, w8), (k, w, hh, c, d, data)) () = some (1, ()) := by
        clear play hF9 hlen hc q1 q2 q3 q4
        by_cases k6 : k = 6
        · subst k6
          by_cases wr : w < 1 ∨ w > 3
          · exact .inr (l1b _ _ _ _ _ _ _ _ _ _ _ _ _ _ wr)
          · have : w = 1 ∨ w = 2 ∨ w = 3 := by omega
            rcases this with rfl | rfl | rfl
            · cases hw6 : w6 with
              | false => exact .inr (l1c1 _ _ _ _ _ _ _ _ _ _ _ _ _)
              | true => exact .inl ⟨false, w7, w8, fun g => (g rfl).elim, fun _ => .inl ⟨rfl, rfl, rfl, rfl, rfl⟩, l1c1 _ _ _ _ _ _ _ _ _ _ _ _ _, l2c1 _ _ _ _ _ _ _ _ _ _ _ _ _⟩
            · cases hw7 : w7 with
              | false => exact .inr (l1c2 _ _ _ _ _ _ _ _ _ _ _ _ _)
              | true => exact .inl ⟨w6, false, w8, fun g => (g rfl).elim, fun _ => .inr (.inl ⟨rfl, rfl, rfl, rfl, rfl⟩), l1c2 _ _ _ _ _ _ _ _ _ _ _ _ _, l2c2 _ _ _ _ _ _ _ _ _ _ _ _ _⟩
            · cases hw8 : w8 with
              | false => exact .inr (l1c3 _ _ _ _ _ _ _ _ _ _ _ _ _)
              | true => exact .inl ⟨w6, w7, false, fun g => (g rfl).elim, fun _ => .inr (.inr ⟨rfl, rfl, rfl, rfl, rfl⟩), l1c3 _ _ _ _ _ _ _ _ _ _ _ _ _, l2c3 _ _ _ _ _ _ _ _ _ _ _ _ _⟩
        · exact .inl ⟨w6, w7, w8, fun _ => ⟨rfl, rfl, rfl⟩, fun g => (k6 g).elim, l1a _ _ _ _ _ _ _ _ _ _ _ _ _ _ _ k6, l2a _ _ _ _ _ _ _ _ _ _ _ _ _ _ _ k6⟩
      rcases main with ⟨v6, v7, v8, hn, hf, e1, e2⟩ | e1
      · obtain ⟨s', _, hi1, hi2, acts, p, w3', f1, f2, f3, f4, rfl⟩ := play v6 v7 v8 hn hf e1 e2
        obtain ⟨p0, p1⟩ := p
        have lc : (decide (0 + acts.length ≤ acts.length) && true) = true := by simp
        refine ⟨((p0, p1), w3', i + 1), ?_, hi1, hi2⟩
        simp only at f3 f4
        simp only [lb, cond_true, List.take_length, List.drop_zero, e1, e2, Option.bind_some, decide_true, f1, lc, f2, f3, f4, hwi]
      · refine ⟨((s, h), (w0, w1, w2, w3, w4, w5, w6, w7, w8), i + 1), ?_, nxt _ _ hT⟩
        simp only [lb, cond_true, List.take_length, List.drop_zero, e1, Option.bind_some, decide_true, show decide ((1 : Int) = 0) = false from rfl, cond_false, hwi]
  · right
    rw [decide_eq_false c0]
    exact ⟨_, rfl, rfl⟩
theorem timers (l : List Ev) (hl : ∀ e ∈ l, Wf e) : ∃ q, F5.f l = some (true, q) := by
  obtain ⟨r, e, h⟩ := iterO_inv (f := F5.r6 (l, (l.length : Int))) (Inv5 l.length) (fun s => 81 - s.2.2.toNat) (fun b => b.1.1 = 0) (fun s h => round5 l hl s h)
    ((1, 0), (false, false, false, false, false, false, false, false, false), 0) ⟨ti1 _ _ _ _ _ _ _, by simp, by simp, by simp⟩
  have e' : F5.l6 (l, (l.length : Int)) ((1, 0), (false, false, false, false, false, false, false, false, false), 0) = some r := e
  refine ⟨(), ?_⟩
  show F5.fP _ _ _ _ = _
  unfold F5.fP
  have lc : (decide (0 + l.length ≤ l.length) && true) = true := by simp
  simp only [lc, cond_true, List.take_length, e', Option.bind_some, h, decide_true]
end Go.Proofs.YtendadfdbmoadaaDoor.PH
