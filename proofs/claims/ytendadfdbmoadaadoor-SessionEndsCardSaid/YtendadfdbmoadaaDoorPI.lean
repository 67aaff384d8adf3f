/- Chapter 14: what ends a session. -/
import Derived.Test.YtendadfdbmoadaaDoorPD
import Derived.Test.YtendadfdbmoadaaDoorF6
namespace Go.Proofs.YtendadfdbmoadaaDoor.PI
open Go Go.Proofs Go.Proofs.YtendadfdbmoadaaDoor.Sx Go.Proofs.YtendadfdbmoadaaDoor.PA Go.Proofs.YtendadfdbmoadaaDoor.PB Go.Proofs.YtendadfdbmoadaaDoor.PC Go.Proofs.YtendadfdbmoadaaDoor.PD
set_option linter.unusedSimpArgs false
set_option linter.unusedVariables false
theorem clean_id (s h : Int) (hs : 1 ≤ s ∧ s ≤ 6) (h0 : s < 5 → h = 0) : cleanM (s, h) = (s, h) := by
  have hn : ¬ (s < 1 ∨ 6 < s) := by omega
  unfold cleanM
  simp only [hn, if_false]
  by_cases h5 : s < 5
  · simp only [h5, if_true, h0 h5]
  · simp only [h5, if_false]
def MI (m : PA.M) : Prop := (1 ≤ m.1 ∧ m.1 ≤ 6) ∧ (m.1 < 5 → m.2 = 0)
theorem mi_ends (s k c d : Int) (data : List Int) : MI (ends s k c d data).1 := ⟨by show 1 ≤ (1 : Int) ∧ (1 : Int) ≤ 6; omega, fun _ => rfl⟩
theorem mi_run (s h k w hh c d : Int) (data : List Int) (hm : MI (s, h)) : MI (run (s, h) (k, w, hh, c, d, data)).1 := by
  have hmsg : ∀ w, 4 ≤ s → MI (message s h k w hh).1 := by
    intro w h4
    unfold message
    obtain ⟨h1, h2⟩ := hm
    simp only at h1 h2
    repeat' split
    all_goals first | exact mi_ends _ _ _ _ _ | exact ⟨by simp only; omega, by intro g; simp only at g; omega⟩
  unfold run dial
  simp only
  repeat' split
  all_goals first
    | exact mi_ends _ _ _ _ _
    | exact hmsg _ (by omega)
    | exact hm
    | (subst_vars; exact hm)
    | exact ⟨by simp only; omega, by intro g; simp only⟩
    | (obtain ⟨h1, h2⟩ := hm; simp only at h1 h2; exact ⟨by simp only; omega, by intro g; simp only at g ⊢; first | omega | exact h2 (by omega)⟩)
theorem f9v (s h k w hh c d : Int) (data : List Int) (hm : MI (s, h)) (hE : cleanE (k, w, hh, c, d, data) = (k, w, hh, c, d, data)) (hw : k = 5 → 1 ≤ w ∧ w ≤ 5) : F9.f ((s, h), (k, w, hh, c, d, data)) = some (run (s, h) (k, w, hh, c, d, data), ()) :=
  f9s _ _ s h k w hh c d data hm.1 hm.2 hw (by rw [f16, clean_id s h hm.1 hm.2, hE])
def Inv1 (n : Nat) (s : PA.M × Int) : Prop := MI s.1 ∧ 0 ≤ s.2 ∧ s.2 ≤ 80 ∧ s.2 ≤ n
theorem round1 (l : List Ev) (st : PA.M × Int) (hi : Inv1 l.length st) :
    (∃ s', F6.r1 (l, (l.length : Int)) st = some (.inl s') ∧ Inv1 l.length s' ∧ 81 - s'.2.toNat < 81 - st.2.toNat) ∨ (∃ b, F6.r1 (l, (l.length : Int)) st = some (.inr b) ∧ MI b.2) := by
  obtain ⟨⟨s, h⟩, i⟩ := st
  obtain ⟨hm, i1, i2, i3⟩ := hi
  simp only at hm i1 i2 i3
  unfold F6.r1 F6.r1P
  simp only
  by_cases c0 : i < (l.length : Int)
  · rw [decide_eq_true c0, cond_true]
    have d1 : decide (0 ≤ i ∧ i < (l.length : Int) ∧ 0 < l.length) = true := by rw [decide_eq_true_eq]; omega
    have hlt : 0 + i.toNat < l.length := by omega
    rw [d1, decide_eq_true hlt, cond_true, cond_true]
    by_cases c8 : i = 80
    · right
      subst c8
      exact ⟨_, rfl, hm⟩
    · left
      rw [show (i == 80) = false from by simpa using c8, cond_false]
      generalize l.getD (0 + i.toNat) (0, 0, 0, 0, 0, []) = x at *
      obtain ⟨k, w, hh, c, d, data⟩ := x
      have hwi : IntKind.i64.wrap (i + 1) = i + 1 := IntWalk.i64_in _ (by omega)
      rcases hc : cleanE (k, w, hh, c, d, data) with ⟨k1, w1', hh1, c1, d1', data1⟩
      have q1 : k1 = 5 → 1 ≤ w1' ∧ w1' ≤ 5 := by
        unfold cleanE at hc
        simp only at hc
        split at hc
        · split at hc
          · simp only [Prod.mk.injEq] at hc; omega
          · split at hc <;> simp only [Prod.mk.injEq] at hc <;> omega
        · simp only [Prod.mk.injEq] at hc; omega
      have hF9 : F9.f ((s, h), (k, w, hh, c, d, data)) = some (run (s, h) (k1, w1', hh1, c1, d1', data1), ()) :=
        f9s _ _ s h k1 w1' hh1 c1 d1' data1 hm.1 hm.2 q1 (by rw [f16, clean_id s h hm.1 hm.2, hc])
      have hmr := mi_run s h k1 w1' hh1 c1 d1' data1 hm
      rcases hr : run (s, h) (k1, w1', hh1, c1, d1', data1) with ⟨⟨p0, p1⟩, acts⟩
      rw [hr] at hF9 hmr
      refine ⟨((p0, p1), i + 1), ?_, ⟨hmr, by show 0 ≤ i + 1; omega, by show i + 1 ≤ 80; omega, by show i + 1 ≤ (l.length : Int); omega⟩, by show 81 - (i + 1).toNat < 81 - i.toNat; omega⟩
      simp only [lb, cond_true, List.take_length, List.drop_zero, Option.bind_some, hF9, hwi]
  · right
    rw [decide_eq_false c0]
    exact ⟨_, rfl, hm⟩
abbrev X := (Int × Int) × Bool × Bool × Bool
def stp (x : X) (a : Ev) : X :=
  if a.1 = 2 then ((a.2.2.2.1, a.2.2.2.2.1), x.2) else if a.1 = 8 then (x.1, true, x.2.2) else if a.1 = 5 then (x.1, x.2.1, true, x.2.2.2)
  else if a.1 = 3 then (x.1, x.2.1, x.2.2.1, decide (a.2.1 = 1 ∧ a.2.2.1 = 120)) else x
theorem loop2 (acts : List Ev) (hl : acts.length ≤ 100) : ∀ (rest : List Ev) (x : X) (pre : List Ev), acts = pre ++ rest →
    F6.l2 (acts, (acts.length : Int)) (x.1, x.2.1, x.2.2.1, x.2.2.2, (pre.length : Int)) = some (let y := rest.foldl stp x; (y.2, y.1)) := by
  intro rest
  induction rest with
  | nil =>
    intro x pre hp
    obtain ⟨⟨t0, t1⟩, dn, cl, rt⟩ := x
    have : acts.length = pre.length := by rw [hp]; simp
    show iterO (F6.r2 _) _ = _
    rw [iterO_eq]
    unfold F6.r2 F6.r2P
    have hd : decide ((pre.length : Int) < (acts.length : Int)) = false := by rw [decide_eq_false_iff_not]; omega
    simp only [hd, cond_false, List.foldl_nil]
  | cons a r ih =>
    intro x pre hp
    have hi := ih (stp x a) (pre ++ [a]) (by rw [hp]; simp)
    have hlen : acts.length = pre.length + (r.length + 1) := by rw [hp]; simp
    have c1 : decide ((pre.length : Int) < (acts.length : Int)) = true := by rw [decide_eq_true_eq]; omega
    have c2 : decide ((0 : Int) ≤ (pre.length : Int) ∧ (pre.length : Int) < (acts.length : Int) ∧ 0 < acts.length) = true := by rw [decide_eq_true_eq]; omega
    have c3 : decide (0 + (pre.length : Int).toNat < acts.length) = true := by rw [decide_eq_true_eq]; omega
    have hg : acts.getD (0 + (pre.length : Int).toNat) (0, 0, 0, 0, 0, []) = a := by
      rw [hp, List.getD_eq_getElem?_getD, Nat.zero_add, Int.toNat_natCast, List.getElem?_append_right (Nat.le_refl _), Nat.sub_self]
      rfl
    have hw : IntKind.i64.wrap ((pre.length : Int) + 1) = (((pre ++ [a]).length : Nat) : Int) := by rw [IntWalk.i64_in _ (by omega)]; simp
    show iterO (F6.r2 _) _ = _
    rw [iterO_eq]
    have hstep : F6.r2 (acts, (acts.length : Int)) (x.1, x.2.1, x.2.2.1, x.2.2.2, (pre.length : Int)) = some (.inl ((stp x a).1, (stp x a).2.1, (stp x a).2.2.1, (stp x a).2.2.2, ((pre ++ [a]).length : Int))) := by
      obtain ⟨⟨t0, t1⟩, dn, cl, rt⟩ := x
      obtain ⟨a0, a1, a2, a3, a4, a5⟩ := a
      unfold F6.r2 F6.r2P stp
      simp only [c1, c2, c3, cond_true, hg, hw]
      by_cases h2 : a0 = 2
      · simp [h2]
      by_cases h8 : a0 = 8
      · simp [h8]
      by_cases h5 : a0 = 5
      · simp [h5]
      by_cases h3 : a0 = 3
      · by_cases h1 : a1 = 1 <;> simp [h3, h1, Bool.cond_eq_ite]
        by_cases h120 : a2 = 120 <;> simp [h120]
      · simp [h2, h8, h5, h3, Bool.cond_eq_ite]
    rw [hstep]
    exact hi
theorem fold_ends (s k c d : Int) (data : List Int) : (ends s k c d data).2.foldl stp ((0, 0), false, false, false) = ((c, d), decide (s = 6), true, !decide (k = 2)) := by
  unfold ends
  by_cases h0 : c = 0 ∧ d = 0
  · obtain ⟨rfl, rfl⟩ := h0
    by_cases h6 : s = 6 <;> by_cases h2 : k = 2 <;> simp [h6, h2, stp]
  · by_cases h6 : s = 6 <;> by_cases h2 : k = 2 <;> simp [h0, h6, h2, stp]
theorem ends_len (s k c d : Int) (data : List Int) : (ends s k c d data).2.length ≤ 100 := by
  unfold ends
  by_cases h1 : c = 0 ∧ d = 0 <;> by_cases h2 : s = 6 <;> by_cases h3 : k = 2 <;> simp [h1, h2, h3]
theorem l2_ends (s k c d : Int) (data : List Int) : F6.l2 ((ends s k c d data).2, ((ends s k c d data).2.length : Int)) ((0, 0), false, false, false, 0) = some ((decide (s = 6), true, !decide (k = 2)), (c, d)) := by
  have := loop2 _ (ends_len s k c d data) (ends s k c d data).2 ((0, 0), false, false, false) [] rfl
  rw [fold_ends] at this
  exact this
/-- Each of the five ends. -/
theorem five (s h f0 f1 : Int) (hm : MI (s, h)) (h4 : ¬ s < 4) :
    F9.f ((s, h), (2, 0, 0, 0, 0, [])) = some (ends s 2 6 2 [], ()) ∧ F9.f ((s, h), (6, 2, 0, 0, 0, [])) = some (ends s 6 4 0 [], ()) ∧ F9.f ((s, h), (7, 0, 0, f0, f1, [])) = some (ends s 7 f0 f1 [], ()) ∧
      F9.f ((s, h), (8, 0, 0, f0, f1, [])) = some (ends s 8 f0 f1 [], ()) ∧ F9.f ((s, h), (5, 3, 0, 0, 0, [])) = some (ends s 5 0 0 [], ()) := by
  refine ⟨?_, ?_, ?_, ?_, ?_⟩
  · rw [f9v s h 2 0 0 0 0 [] hm rfl (by decide)]; simp [run, h4]
  · rw [f9v s h 6 2 0 0 0 [] hm rfl (by decide)]; simp [run, h4]
  · rw [f9v s h 7 0 0 f0 f1 [] hm rfl (by decide)]; simp [run, h4]
  · rw [f9v s h 8 0 0 f0 f1 [] hm rfl (by decide)]; simp [run, h4]
  · rw [f9v s h 5 3 0 0 0 [] hm rfl (by decide)]; simp [run, h4]
theorem start : F9.f ((1, 0), (1, 0, 0, 0, 0, [])) = some (dial, ()) := by
  rw [f9v 1 0 1 0 0 0 0 [] ⟨by simp, by simp⟩ rfl (by decide)]; rfl
theorem conn : F9.f ((3, 0), (3, 0, 0, 0, 0, [])) = some (((4, 0), [(4, 1, 0, 0, 0, []), (1, 1, 0, 0, 0, []), (3, 2, 240, 0, 0, [])]), ()) := by
  rw [f9v 3 0 3 0 0 0 0 [] ⟨by simp, by simp⟩ rfl (by decide)]; rfl
theorem b0 : Nat.beq 0 0 = true := rfl
theorem b1 : Nat.beq 1 0 = false := rfl
theorem b2 : Nat.beq 1 1 = true := rfl
theorem b3 : Nat.beq 2 0 = false := rfl
theorem b4 : Nat.beq 2 1 = false := rfl
theorem b5 : Nat.beq 2 2 = true := rfl
theorem b6 : Nat.beq 3 0 = false := rfl
theorem b7 : Nat.beq 3 1 = false := rfl
theorem b8 : Nat.beq 3 2 = false := rfl
theorem b9 : Nat.beq 3 3 = true := rfl
theorem ba : Nat.beq 4 0 = false := rfl
theorem bb : Nat.beq 4 1 = false := rfl
theorem bc : Nat.beq 4 2 = false := rfl
theorem bd : Nat.beq 4 3 = false := rfl
theorem be : Nat.beq 4 4 = true := rfl
theorem t0 : Int.toNat 0 = 0 := rfl
theorem t1 : Int.toNat 1 = 1 := rfl
theorem t2 : Int.toNat 2 = 2 := rfl
theorem t3 : Int.toNat 3 = 3 := rfl
theorem t4 : Int.toNat 4 = 4 := rfl
theorem efst (s k c d : Int) (data : List Int) : (ends s k c d data).fst = (1, 0) := rfl
theorem dfst : dial.fst = (2, 0) := rfl
theorem lcE (l : List Ev) : (decide (0 + l.length ≤ l.length) && true) = true := by simp
theorem s6 (s : Int) : decide (s = 6) = (s == 6) := by by_cases h : s = 6 <;> simp [h]
set_option maxHeartbeats 40000000 in
theorem ended (l : List Ev) (which f0 f1 : Int) (hw : 0 ≤ which) : F6.f (l, which, (f0, f1)) = some (true, ()) := by
  obtain ⟨r, e, h⟩ := iterO_inv (f := F6.r1 (l, (l.length : Int))) (Inv1 l.length) (fun s => 81 - s.2.toNat) (fun b => MI b.2) (fun s h => round1 l s h) ((1, 0), 0) ⟨⟨by simp, by simp⟩, by simp, by simp, by simp⟩
  have e' : F6.l1 (l, (l.length : Int)) ((1, 0), 0) = some r := e
  obtain ⟨⟨⟩, ⟨s, hh⟩⟩ := r
  simp only at h
  show F6.fP _ _ _ _ = _
  unfold F6.fP
  have hj : which.tmod 5 = 0 ∨ which.tmod 5 = 1 ∨ which.tmod 5 = 2 ∨ which.tmod 5 = 3 ∨ which.tmod 5 = 4 := by
    rw [Int.tmod_eq_emod_of_nonneg hw]; omega
  simp only [lcE, cond_true, List.take_length, List.drop_zero, e', Option.bind_some]
  by_cases h4 : s < 4
  · obtain ⟨g0, g1, g2, g3, g4⟩ := five 4 0 f0 f1 ⟨by simp, by simp⟩ (by decide)
    simp only [h4, decide_true, cond_true, conn, Option.bind_some]
    rcases hj with hj | hj | hj | hj | hj <;>
    simp [hj, b0, b1, b2, b3, b4, b5, b6, b7, b8, b9, ba, bb, bc, bd, be, g0, g1, g2, g3, g4, efst, dfst, l2_ends, start]
  · obtain ⟨g0, g1, g2, g3, g4⟩ := five s hh f0 f1 h h4
    simp only [h4, decide_false, cond_false]
    rcases hj with hj | hj | hj | hj | hj <;>
    simp [hj, b0, b1, b2, b3, b4, b5, b6, b7, b8, b9, ba, bb, bc, bd, be, g0, g1, g2, g3, g4, efst, dfst, l2_ends, start, s6]
theorem law (d : Den F6.i) (hd : wfD F6.i d) : ∃ q, F6.f d = some (true, q) := by
  obtain ⟨l, which, ⟨f0, f1⟩⟩ := d
  exact ⟨(), ended l which f0 f1 hd.2.1.1⟩
end Go.Proofs.YtendadfdbmoadaaDoor.PI
