/- Chapter 14: rows of events. -/
import Derived.Test.YtendadfdbmoadaaDoorPC
namespace Go.Proofs.YtendadfdbmoadaaDoor.PD
open Go Go.Proofs Go.Proofs.YtendadfdbmoadaaDoor.Sx Go.Proofs.YtendadfdbmoadaaDoor.PA Go.Proofs.YtendadfdbmoadaaDoor.PB Go.Proofs.YtendadfdbmoadaaDoor.PC
set_option linter.unusedSimpArgs false
set_option linter.unusedVariables false
/-- An event's numbers within their kinds. -/
def Wf (e : Ev) : Prop := (0 ≤ e.2.1 ∧ e.2.1 ≤ 255) ∧ (0 ≤ e.2.2.2.1 ∧ e.2.2.2.1 ≤ 255) ∧ (0 ≤ e.2.2.2.2.1 ∧ e.2.2.2.2.1 ≤ 255)
abbrev S3 := PA.M × PA.M × Int
def Inv (n : Nat) (s : S3) : Prop := s.1 = s.2.1 ∧ 0 ≤ s.2.2 ∧ s.2.2 ≤ 60 ∧ s.2.2 ≤ n
theorem cut20 (l : List Int) (m : Int) (hm : 0 ≤ m) : ∃ q : Int, (if m < (l.length : Int) then m else (l.length : Int)) = q ∧ 0 ≤ q ∧ q ≤ l.length := by
  refine ⟨_, rfl, ?_⟩
  split <;> omega
theorem round (l : List Ev) (hl : ∀ e ∈ l, Wf e) (s : S3) (h : Inv l.length s) :
    (∃ s', F3.r1 l s = some (.inl s') ∧ Inv l.length s' ∧ 60 - s'.2.2.toNat < 60 - s.2.2.toNat) ∨ (∃ b, F3.r1 l s = some (.inr b) ∧ b.1.1 = 0) := by
  obtain ⟨⟨m0, m1⟩, ⟨v0, v1⟩, i⟩ := s
  obtain ⟨h1, h2, h3, h4⟩ := h
  simp only at h1 h2 h3 h4
  cases h1
  unfold F3.r1 F3.r1P
  simp only
  by_cases c0 : i < (l.length : Int)
  · by_cases c1 : i < 60
    · left
      have d1 : decide (0 ≤ i ∧ i < (l.length : Int) ∧ 0 < l.length) = true := by rw [decide_eq_true_eq]; omega
      have hlt : 0 + i.toNat < l.length := by omega
      have hm : l.getD (0 + i.toNat) (0, 0, 0, 0, 0, []) ∈ l := by
        rw [List.getD_eq_getElem?_getD, List.getElem?_eq_getElem hlt]
        exact List.getElem_mem _
      have hx := hl _ hm
      rw [decide_eq_true c0, decide_eq_true c1, d1, decide_eq_true hlt]
      simp only [cond_true]
      generalize l.getD (0 + i.toNat) (0, 0, 0, 0, 0, []) = x at *
      obtain ⟨k, w, hh, c, d, data⟩ := x
      obtain ⟨g1, g2, g3⟩ := hx
      simp only at g1 g2 g3
      simp only [Option.getD_some]
      obtain ⟨q, hq, q0, q1⟩ := cut20 data 20 (by omega)
      rw [hq]
      have e1 : decide (0 ≤ q ∧ q ≤ (data.length : Int) ∧ 0 + data.length ≤ data.length) = true := by rw [decide_eq_true_eq]; omega
      have e2 : decide (0 + q.toNat ≤ data.length) = true := by rw [decide_eq_true_eq]; omega
      rw [e1, e2]
      simp only [cond_true, Bool.and_true, List.drop_zero]
      rw [IntWalk.i64_in w (by omega), IntWalk.i64_in c (by omega), IntWalk.i64_in d (by omega), IntWalk.i64_in (i + 1) (by omega)]
      obtain ⟨o, o1, o2, o3⟩ := both (m0, m1) k w hh c d (data.take q.toNat) g2 g3
      obtain ⟨⟨p0, p1⟩, acts⟩ := o
      rw [o1, o2]
      have b0 : (!(p0 == p0 && (p1 == p1 && true))) = false := by simp
      have lc : (decide (0 + acts.length ≤ acts.length) && true) = true := by simp
      simp only at o3
      simp only [Option.bind_some, b0, cond_false, lc, cond_true, List.take_length, List.drop_zero, o3, Bool.not_true]
      simp only [Nat.zero_add, Nat.le_refl, decide_true, cond_true]
      refine ⟨((p0, p1), (p0, p1), i + 1), ?_, ⟨rfl, by show 0 ≤ i + 1; omega, by show i + 1 ≤ 60; omega, by show i + 1 ≤ (l.length : Int); omega⟩, by show 60 - (i + 1).toNat < 60 - i.toNat; omega⟩
      simp
    · right
      rw [decide_eq_true c0, decide_eq_false c1]
      exact ⟨_, rfl, rfl⟩
  · right
    rw [decide_eq_false c0]
    exact ⟨_, rfl, rfl⟩
theorem runs (l : List Ev) (hl : ∀ e ∈ l, Wf e) : ∃ q, F3.f l = some (true, q) := by
  obtain ⟨r, e, h⟩ := iterO_inv (f := F3.r1 l) (Inv l.length) (fun s => 60 - s.2.2.toNat) (fun b => b.1.1 = 0) (fun s h => round l hl s h) ((1, 0), (1, 0), 0) ⟨rfl, by simp, by simp, by simp⟩
  have e' : F3.l1 l ((1, 0), (1, 0), 0) = some r := e
  refine ⟨(), ?_⟩
  show F3.fP _ _ _ _ _ = _
  unfold F3.fP
  have lc : (decide (0 + l.length ≤ l.length) && true) = true := by simp
  simp only [lc, cond_true, List.take_length, e', Option.bind_some, h, decide_true]
theorem wf (l : List Ev) (h : wfD F3.i l) : ∀ e ∈ l, Wf e := by
  intro e he
  have := h.1.2 e he
  exact ⟨this.2.1, this.2.2.2.1, this.2.2.2.2.1⟩
end Go.Proofs.YtendadfdbmoadaaDoor.PD
