/- Chapter 29: a round of calls on one link, and the rounds. -/
import Derived.Test.YteoiaihjapddoaaPF
namespace Go.Proofs.Yteoiaihjapddoaa.PG
open Go Go.Proofs Go.Proofs.Yteoiaihjapddoaa.PA Go.Proofs.Yteoiaihjapddoaa.PB Go.Proofs.Yteoiaihjapddoaa.PD Go.Proofs.Yteoiaihjapddoaa.PE Go.Proofs.Yteoiaihjapddoaa.PF Go.Proofs.Yteoiaihjapddoaa.Sx
set_option linter.unusedSimpArgs false
set_option linter.unusedVariables false
abbrev St := (List Lk × Bool) × (List Int × List Int) × Bool × Int
def Good (up : Bool) (t : Int) (w0 w1 : List Int) (n : Int) : Prop := 0 ≤ t ∧ t ≤ n ∧ w0.length ≤ 16384 ∧ w1.length ≤ 16384
def OkOut (t : Int) (r : Option ((Int × Bool × Bool × Int) × ((List Lk × Bool) × (List Int × List Int)))) : Prop :=
  ∃ up' t' w0' w1', r = some ((0, false, up', t'), ([(up', t', w0', w1')], true), (w0', w1')) ∧ t ≤ t' ∧ t' ≤ t + 1 ∧ w0'.length ≤ 16384 ∧ w1'.length ≤ 16384
theorem takeall (b : List Int) : List.take b.length b = b := List.take_length
theorem takeall0 (b : List Int) : List.take b.length (List.drop 0 b) = b := List.take_length
set_option maxHeartbeats 4000000 in
theorem step (a0 a1 a2 m : Int) (a4 b : List Int) (e what : Int) (up : Bool) (t : Int) (w0 w1 : List Int) (he : e = 0 ∨ e = 1) (hb : b.length ≤ 300) (ht : 0 ≤ t ∧ t ≤ 100) (h0 : w0.length ≤ 16384) (h1 : w1.length ≤ 16384) :
    OkOut t (F5.l4 (0, (a0, a1, a2, m, a4), e, b, what) (([(up, t, w0, w1)], true), (w0, w1), up, t)) := by
  unfold F5.l4 F5.r4 F5.r4P
  simp only
  have hw : IntKind.i64.wrap (t + 1) = t + 1 := wrap_len (by omega)
  have lb : decide ((0 : Nat) + b.length ≤ b.length) = true := by simp
  by_cases c1 : what = 1
  · subst c1
    rw [show ((1 : Int) == 1) = true from rfl, cond_true, f10]
    exact ⟨true, t, w0, w1, rfl, by omega, by omega, h0, h1⟩
  rw [show (what == 1) = false from by simpa using c1, cond_false]
  by_cases c2 : what = 2
  · subst c2
    rw [show ((2 : Int) == 2) = true from rfl, cond_true, f15 up t w0 w1 (by omega)]
    cases up with
    | true => exact ⟨false, t + 1, [], [], by simp [hw], by omega, by omega, by simp, by simp⟩
    | false => exact ⟨false, t, w0, w1, by simp, by omega, by omega, h0, h1⟩
  rw [show (what == 2) = false from by simpa using c2, cond_false]
  have send : OkOut t (bif decide ((0 : Nat) + b.length ≤ b.length) && true then
      (F11.f (([(up, t, w0, w1)], true), 0, e, List.take b.length b)).bind fun r0 => bif decide ((0 : Nat) + b.length ≤ b.length) && true then
      (F5.l1 ((w0, w1), e, List.take b.length b) PUnit.unit).bind fun r1 => bif up then
      bif !(r0.fst == (0 : Int)) == r1.fst then
      some (((1 : Int), false, false, (0 : Int)), r0.snd, w0, w1) else bif decide ((0 : Nat) + b.length ≤ b.length) && true then
      (F5.l2 (e, List.take b.length b, r0.fst == (0 : Int)) (w0, w1)).bind fun r2 => some (((0 : Int), false, up, t), r0.snd, r2.snd) else none else bif !(r0.fst == (0 : Int)) == false then
      some (((1 : Int), false, false, (0 : Int)), r0.snd, w0, w1) else bif decide ((0 : Nat) + b.length ≤ b.length) && true then
      (F5.l2 (e, List.take b.length b, r0.fst == (0 : Int)) (w0, w1)).bind fun r2 => some (((0 : Int), false, up, t), r0.snd, r2.snd) else none else none else none) := by
    simp only [lb, Bool.and_true, cond_true, takeall]
    rw [sent up t w0 w1 b e he h0 h1 hb, l1 w0 w1 b e he h0 h1 hb]
    cases up with
    | false =>
      simp only [Option.bind_some, Bool.false_eq_true, if_false, l2 w0 w1 b e _ he h0 h1 hb]
      exact ⟨false, t, w0, w1, by simp, by omega, by omega, h0, h1⟩
    | true =>
      simp only [Option.bind_some, if_true, l2 w0 w1 b e _ he h0 h1 hb]
      by_cases hf : (if e = 0 then w1 else w0).length + b.length ≤ 16384
      · rcases he with rfl | rfl
        · have hf' : w1.length + b.length ≤ 16384 := by simpa using hf
          exact ⟨true, t, w0, w1 ++ b, by simp [hf'], by omega, by omega, h0, by simpa using hf'⟩
        · have hf' : w0.length + b.length ≤ 16384 := by simpa using hf
          exact ⟨true, t, w0 ++ b, w1, by simp [hf'], by omega, by omega, by simpa using hf', h1⟩
      · exact ⟨true, t, w0, w1, by simp [hf], by omega, by omega, h0, h1⟩
  have get : OkOut t ((F13.f (([(up, t, w0, w1)], true), 0, e, m)).bind fun r0 => bif up then
      bif !(r0.fst.snd == (0 : Int)) == decide (m ≥ (0 : Int)) then
      some (((1 : Int), false, false, (0 : Int)), r0.snd, w0, w1) else bif r0.fst.snd != (0 : Int) then
      bif decide ((↑r0.fst.fst.length : Int) > (0 : Int)) then
      some (((1 : Int), false, false, (0 : Int)), r0.snd, w0, w1) else bif decide ((0 : Nat) + r0.fst.fst.length ≤ r0.fst.fst.length) && true then
      (F5.l3 ((a0, a1, a2, m, a4), e, r0.fst.snd == (0 : Int)) ((w0, w1), List.take r0.fst.fst.length (List.drop (0 : Nat) r0.fst.fst))).bind fun r1 => bif decide (r1.fst.fst = (0 : Int)) then
      some (((0 : Int), false, up, t), r0.snd, r1.snd) else bif decide (r1.fst.fst = (1 : Int)) then
      some (((1 : Int), r1.fst.snd, false, (0 : Int)), r0.snd, r1.snd) else none else none else bif decide ((0 : Nat) + r0.fst.fst.length ≤ r0.fst.fst.length) && true then
      (F5.l3 ((a0, a1, a2, m, a4), e, r0.fst.snd == (0 : Int)) ((w0, w1), List.take r0.fst.fst.length (List.drop (0 : Nat) r0.fst.fst))).bind fun r1 => bif decide (r1.fst.fst = (0 : Int)) then
      some (((0 : Int), false, up, t), r0.snd, r1.snd) else bif decide (r1.fst.fst = (1 : Int)) then
      some (((1 : Int), r1.fst.snd, false, (0 : Int)), r0.snd, r1.snd) else none else none else bif !(r0.fst.snd == (0 : Int)) == false then
      some (((1 : Int), false, false, (0 : Int)), r0.snd, w0, w1) else bif r0.fst.snd != (0 : Int) then
      bif decide ((↑r0.fst.fst.length : Int) > (0 : Int)) then
      some (((1 : Int), false, false, (0 : Int)), r0.snd, w0, w1) else bif decide ((0 : Nat) + r0.fst.fst.length ≤ r0.fst.fst.length) && true then
      (F5.l3 ((a0, a1, a2, m, a4), e, r0.fst.snd == (0 : Int)) ((w0, w1), List.take r0.fst.fst.length (List.drop (0 : Nat) r0.fst.fst))).bind fun r1 => bif decide (r1.fst.fst = (0 : Int)) then
      some (((0 : Int), false, up, t), r0.snd, r1.snd) else bif decide (r1.fst.fst = (1 : Int)) then
      some (((1 : Int), r1.fst.snd, false, (0 : Int)), r0.snd, r1.snd) else none else none else bif decide ((0 : Nat) + r0.fst.fst.length ≤ r0.fst.fst.length) && true then
      (F5.l3 ((a0, a1, a2, m, a4), e, r0.fst.snd == (0 : Int)) ((w0, w1), List.take r0.fst.fst.length (List.drop (0 : Nat) r0.fst.fst))).bind fun r1 => bif decide (r1.fst.fst = (0 : Int)) then
      some (((0 : Int), false, up, t), r0.snd, r1.snd) else bif decide (r1.fst.fst = (1 : Int)) then
      some (((1 : Int), r1.fst.snd, false, (0 : Int)), r0.snd, r1.snd) else none else none) := by
    rw [delivered up t w0 w1 e m he h0 h1]
    by_cases hd : up = true ∧ 0 ≤ m
    · obtain ⟨rfl, hm⟩ := hd
      have hm' : decide (m ≥ 0) = true := by simpa using hm
      have z : ((0 : Int) == 0) = true := rfl
      have z' : ((0 : Int) != 0) = false := rfl
      rw [if_pos ⟨rfl, hm⟩]
      simp only [Option.bind_some, hm', z, z', cond_true, cond_false, Bool.not_true, takeall0, List.drop_zero, takeall, Nat.zero_add, Nat.le_refl, decide_true, Bool.and_true]
      rw [l3 w0 w1 (a0, a1, a2, m, a4) e he h0 h1 hm]
      rcases he with rfl | rfl
      · exact ⟨true, t, w0.drop m.toNat, w1, by simp, by omega, by omega, by rw [List.length_drop]; omega, h1⟩
      · exact ⟨true, t, w0, w1.drop m.toNat, by simp, by omega, by omega, h0, by rw [List.length_drop]; omega⟩
    · rw [if_neg hd]
      refine ⟨up, t, w0, w1, ?_, by omega, by omega, h0, h1⟩
      cases up with
      | false =>
        by_cases hm : 0 ≤ m
        · simp [hm, l3n]
        · simp [hm, l3n]
      | true =>
        have hm : ¬ 0 ≤ m := fun h => hd ⟨rfl, h⟩
        simp [hm, l3n]
  by_cases c3 : what = 3
  · subst c3; exact send
  rw [show (what == 3) = false from by simpa using c3, cond_false]
  by_cases c4 : what = 4
  · subst c4; exact send
  rw [show (what == 4) = false from by simpa using c4, cond_false]
  by_cases c5 : what = 5
  · subst c5; exact send
  rw [show (what == 5) = false from by simpa using c5, cond_false]
  by_cases c6 : what = 6
  · subst c6; exact get
  rw [show (what == 6) = false from by simpa using c6, cond_false]
  by_cases c7 : what = 7
  · subst c7; exact get
  rw [show (what == 7) = false from by simpa using c7, cond_false]
  by_cases c8 : what = 8
  · subst c8; exact get
  rw [show (what == 8) = false from by simpa using c8, cond_false]
  exact ⟨up, t, w0, w1, rfl, by omega, by omega, h0, h1⟩
abbrev Act := Int × Int × Int × Int × List Int
abbrev S5 := (List Lk × Bool) × (List Int × List Int) × Bool × Int × Int
def Inv (n : Nat) (s : S5) : Prop := ∃ up t w0 w1 i, s = (([(up, t, w0, w1)], true), (w0, w1), up, t, i) ∧ 0 ≤ t ∧ t ≤ i ∧ i ≤ 80 ∧ i ≤ n ∧ w0.length ≤ 16384 ∧ w1.length ≤ 16384
theorem endOk (x : Int) : IntKind.i64.wrap ((IntKind.u64.wrap x).tmod 2) = 0 ∨ IntKind.i64.wrap ((IntKind.u64.wrap x).tmod 2) = 1 := by
  have h : 0 ≤ IntKind.u64.wrap x := by simp only [IntKind.wrap, IntKind.signed, Bool.false_eq_true, if_false]; exact Int.emod_nonneg _ (by decide)
  rw [Int.tmod_eq_emod_of_nonneg h]
  rcases Int.emod_two_eq (IntKind.u64.wrap x) with e | e <;> rw [e]
  · exact .inl (by decide)
  · exact .inr (by decide)
theorem round (l : List Act) (s : S5) (h : Inv l.length s) :
    (∃ s', F5.r5 (0, l, (l.length : Int)) s = some (.inl s') ∧ Inv l.length s' ∧ 80 - s'.2.2.2.2.toNat < 80 - s.2.2.2.2.toNat) ∨ (∃ b, F5.r5 (0, l, (l.length : Int)) s = some (.inr b) ∧ b.1.1 = 0) := by
  obtain ⟨up, t, w0, w1, i, rfl, ht, hti, hi, hil, h0, h1⟩ := h
  unfold F5.r5 F5.r5P
  simp only
  by_cases c0 : i < (l.length : Int)
  · rw [decide_eq_true c0, cond_true]
    have d1 : decide ((0 : Int) ≤ i ∧ i < (l.length : Int) ∧ (0 : Nat) < l.length) = true := by rw [decide_eq_true_eq]; omega
    have d2 : decide ((0 : Nat) + i.toNat < l.length) = true := by rw [decide_eq_true_eq]; omega
    rw [d1, d2, cond_true, cond_true]
    by_cases c8 : i = 80
    · subst c8
      exact .inr ⟨_, rfl, rfl⟩
    · rw [show (i == 80) = false from by simpa using c8, cond_false]
      refine .inl ?_
      generalize hx : l.getD ((0 : Nat) + i.toNat) ((0 : Int), (0 : Int), (0 : Int), (0 : Int), []) = x
      obtain ⟨a0, a1, a2, m, a4⟩ := x
      simp only [Option.getD_some]
      generalize hq : (if (300 : Int) < (a4.length : Int) then (300 : Int) else (a4.length : Int)) = q
      have hqq : 0 ≤ q ∧ q ≤ a4.length ∧ q ≤ 300 := by rw [← hq]; split <;> omega
      have e1 : decide ((0 : Int) ≤ q ∧ q ≤ (a4.length : Int) ∧ 0 + a4.length ≤ a4.length) = true := by rw [decide_eq_true_eq]; omega
      have e2 : decide ((0 : Nat) + a4.length ≤ a4.length) = true := by rw [decide_eq_true_eq]; omega
      have e3 : decide ((0 : Nat) + q.toNat ≤ a4.length) = true := by rw [decide_eq_true_eq]; omega
      rw [e1, e2, e3]
      simp only [Bool.and_true, cond_true, List.drop_zero, takeall]
      obtain ⟨up', t', w0', w1', hs, b1, b2, b3, b4⟩ := step a0 a1 a2 m a4 (a4.take q.toNat) (IntKind.i64.wrap ((IntKind.u64.wrap a2).tmod 2)) a0 up t w0 w1 (endOk a2) (by rw [List.length_take]; omega) ⟨ht, by omega⟩ h0 h1
      rw [hs]
      have hwi : IntKind.i64.wrap (i + 1) = i + 1 := wrap_len (by omega)
      have hws : IntKind.i64.wrap ((w0'.length : Int) + (w1'.length : Int)) = (w0'.length : Int) + (w1'.length : Int) := wrap_len (by omega)
      have n0 : ∀ k : Nat, ((k : Int) != (k : Int)) = false := fun k => by simp
      have n1 : (t' != t') = false := by simp
      have n2 : (!up' == up') = false := by cases up' <;> rfl
      have n3 : (!decide (w0'.length + w1'.length = 0) == (((w0'.length : Int) + (w1'.length : Int)) == (0 : Int))) = false := by
        by_cases hz : w0'.length + w1'.length = 0
        · have : (w0'.length : Int) + (w1'.length : Int) = 0 := by omega
          rw [decide_eq_true hz, this]; rfl
        · have : ((w0'.length : Int) + (w1'.length : Int) == 0) = false := by rw [beq_eq_false_iff_ne]; omega
          rw [decide_eq_false hz, this]; rfl
      simp only [Option.bind_some, decide_true, cond_true, f12a, f12b, f17, f18, f20 up' t' w0' w1' (by omega) (by omega), n0, n1, n2, n3, hws, hwi, cond_false, Nat.zero_add, Nat.le_refl, Bool.and_true, takeall, List.drop_zero]
      exact ⟨_, rfl, ⟨up', t', w0', w1', i + 1, rfl, by omega, by omega, by omega, by omega, b3, b4⟩, by show 80 - (i + 1).toNat < 80 - i.toNat; omega⟩
  · rw [decide_eq_false c0, cond_false]
    exact .inr ⟨_, rfl, rfl⟩
theorem order (l : List Act) : ∃ q, F5.f l = some (true, q) := by
  obtain ⟨r, e, h⟩ := iterO_inv (f := F5.r5 (0, l, (l.length : Int))) (Inv l.length) (fun s => 80 - s.2.2.2.2.toNat) (fun b => b.1.1 = 0) (fun s h => round l s h)
    (([(true, 0, [], [])], true), ([], []), true, 0, 0) ⟨true, 0, [], [], 0, rfl, by omega, by omega, by omega, by omega, by simp, by simp⟩
  have e' : F5.l5 (0, l, (l.length : Int)) (([(true, 0, [], [])], true), ([], []), true, 0, 0) = some r := e
  refine ⟨(), ?_⟩
  unfold F5.f F5.fP
  rw [f9]
  simp only [Option.bind_some, f10]
  have z' : ((0 : Int) != 0) = false := rfl
  have c5 : (decide (0 + l.length ≤ l.length) && true) = true := by simp
  simp only [z', cond_false, c5, cond_true, List.take_length, e', Option.bind_some, h, decide_true]
end Go.Proofs.Yteoiaihjapddoaa.PG
