/- Chapter 13: what a clock that was started with four timers rings, asked at most ten times. -/
import Derived.Test.YtemggodhikpmdaaPD
import Derived.Test.YtemggodhikpmdaaF9
import Derived.Test.YtemggodhikpmdaaF10
import Derived.Test.YtemggodhikpmdaaZP
namespace Go.Proofs.Ytemggodhikpmdaa.PE
open Go Go.Proofs Go.Proofs.Ytemggodhikpmdaa.PA Go.Proofs.Ytemggodhikpmdaa.PB Go.Proofs.Ytemggodhikpmdaa.PD Go.Proofs.Ytemggodhikpmdaa.Sx
set_option linter.unusedSimpArgs false
set_option linter.unusedVariables false
def on (now l : Int) : Int := if l ≥ 0 then now + l else 0
def st (now l0 l1 l2 l3 : Int) : CK := (now, decide (l0 ≥ 0), on now l0, decide (l1 ≥ 0), on now l1, decide (l2 ≥ 0), on now l2, decide (l3 ≥ 0), on now l3, true)
theorem later_in {now l : Int} (h0 : 0 ≤ now) (h1 : now < 1048576) (hl : l ≤ 1048576) (hp : l ≥ 0) : later now l = now + l := by
  unfold later
  rw [wrap64_id (n := 1099511627776 - now) (by omega), if_neg (by omega), wrap64_id (by omega)]
theorem f9 {now l0 l1 l2 l3 : Int} (h0 : 0 ≤ now) (h1 : now < 1048576) (k0 : l0 ≤ 1048576) (k1 : l1 ≤ 1048576) (k2 : l2 ≤ 1048576) (k3 : l3 ≤ 1048576) : F9.f (now, l0, l1, l2, l3) = some (some (st now l0 l1 l2 l3), ()) := by
  show F9.fP F19.f _ = _
  unfold F9.fP st on
  have e0 := fun h => later_in h0 h1 k0 h
  have e1 := fun h => later_in h0 h1 k1 h
  have e2 := fun h => later_in h0 h1 k2 h
  have e3 := fun h => later_in h0 h1 k3 h
  have n0 : decide (now < 0) = false := by simp; omega
  have n1 : decide (now > 1099511627776) = false := by simp; omega
  simp only [n0, n1, cond_false]
  have hn : ∀ l : Int, l ≥ 0 → ¬ l < 0 := fun l h => by omega
  by_cases p0 : l0 ≥ 0 <;> by_cases p1 : l1 ≥ 0 <;> by_cases p2 : l2 ≥ 0 <;> by_cases p3 : l3 ≥ 0 <;>
    simp [p0, p1, p2, p3, f19, startC, hn _, e0, e1, e2, e3]
theorem f23' {c : CK} (hm : Mn c = true) (u : Int) : F23.f (c, u) = some (go c u) := by
  obtain ⟨now, r0, x0, r1, x1, r2, x2, r3, x3, m⟩ := c
  have : m = true := hm
  subst this
  exact f23 ..
theorem l1 (u : Int) : ∀ (n : Nat) (c : CK) (l : List (Int × Bool × Int)) (t : Int), Mn c = true → cnt c ≤ n → 0 ≤ t → t + n < 10 → l.length ≤ 100 - n →
    ∃ l' c', F10.l1 u (c, l, t) = some (l ++ l', c') ∧ Run u c l' c' ∧ l'.length ≤ n := by
  intro n
  induction n with
  | zero =>
    intro c l t hm hc h0 ht hl
    rcases go_cases c u with ⟨k, c1, h⟩ | h
    · have := h.less; omega
    · refine ⟨[], (lim c.1 u, c.2), ?_, .stop h, Nat.le_refl _⟩
      refine iterO_done ?_
      show F10.r1P F23.f u (c, l, t) = _
      obtain ⟨now, r0, x0, r1, x1, r2, x2, r3, x3, m⟩ := c
      unfold F10.r1P
      have ct : decide (t < 10) = true := by simp; omega
      have hm' : m = true := hm
      subst hm'
      simp only [f23, h.is, ct, cond_true, Option.bind_some, Bool.not_true, Bool.not_false, cond_false, Nat.zero_add, Nat.le_refl, decide_true, Bool.and_self, List.take_length, List.append_nil]
  | succ n ih =>
    intro c l t hm hc h0 ht hl
    have ct : decide (t < 10) = true := by simp; omega
    rcases go_cases c u with ⟨k, c1, h⟩ | h
    · have hless := h.less
      have hw : IntKind.i64.wrap (t + 1) = t + 1 := wrap64_id (by omega)
      obtain ⟨l', c', e, hr, hlen⟩ := ih c1 (l ++ [(k, true, c1.1)]) (t + 1) (h.made.trans hm) (by omega) (by omega) (by omega) (by simp; omega)
      refine ⟨(k, true, c1.1) :: l', c', ?_, .ring h hr, by simp; omega⟩
      have es : F10.r1 u (c, l, t) = some (.inl (c1, l ++ [(k, true, c1.1)], t + 1)) := by
        show F10.r1P F23.f u (c, l, t) = _
        obtain ⟨now, r0, x0, r1, x1, r2, x2, r3, x3, m⟩ := c
        unfold F10.r1P
        have hm' : m = true := hm
        subst hm'
        have h1 : c1.2.2.2.2.2.2.2.2.2 = true := h.made
        have e3 : (3 / OfNat.ofNat 3 : Nat) = 1 := rfl
        have c2 : decide (l.length + 1 ≤ 1073741824) = true := by simp; omega
        have c3 : (l ++ [(k, true, c1.1)]).length = l.length + 1 := by simp
        simp only [f23, h.is, ct, cond_true, Option.bind_some, Bool.not_true, Bool.not_false, cond_false, Nat.zero_add, Nat.le_refl, decide_true, Bool.and_self, List.take_length, h1, e3, c2, c3, List.drop_zero, hw]
        rw [← c3, List.take_length]
      show iterO (F10.r1 u) (c, l, t) = _
      rw [iterO_step es]
      have : iterO (F10.r1 u) (c1, l ++ [(k, true, c1.1)], t + 1) = some (l ++ [(k, true, c1.1)] ++ l', c') := e
      rw [this, List.append_assoc]
      rfl
    · refine ⟨[], (lim c.1 u, c.2), ?_, .stop h, Nat.zero_le _⟩
      refine iterO_done ?_
      show F10.r1P F23.f u (c, l, t) = _
      obtain ⟨now, r0, x0, r1, x1, r2, x2, r3, x3, m⟩ := c
      unfold F10.r1P
      have hm' : m = true := hm
      subst hm'
      simp only [f23, h.is, ct, cond_true, Option.bind_some, Bool.not_true, Bool.not_false, cond_false, Nat.zero_add, Nat.le_refl, decide_true, Bool.and_self, List.take_length, List.append_nil]
theorem f10 (c : CK) (hm : Mn c = true) (u : Int) : ∃ l c', F10.f (c, u) = some (l, c') ∧ Run u c l c' ∧ l.length ≤ 4 := by
  obtain ⟨l, c', e, hr, hl⟩ := l1 u 4 c [] 0 hm (cnt_le c) (Int.le_refl 0) (by decide) (by simp)
  refine ⟨l, c', ?_, hr, hl⟩
  obtain ⟨now, r0, x0, r1, x1, r2, x2, r3, x3, m⟩ := c
  show F10.fP F23.f F10.l1 _ = _
  unfold F10.fP
  simp only [e, Option.bind_some, List.nil_append, Nat.zero_add, Nat.le_refl, decide_true, Bool.and_self, cond_true, List.drop_zero, List.take_length]
theorem tmod_in {n m : Int} (h : 0 ≤ n) (hm : 0 < m) (hs : m ≤ 9223372036854775807) : IntKind.i64.wrap (n.tmod m) = n.tmod m ∧ 0 ≤ n.tmod m ∧ n.tmod m < m := by
  have h1 : 0 ≤ n.tmod m := Int.tmod_nonneg _ h
  have h2 : n.tmod m < m := Int.tmod_lt_of_pos _ hm
  exact ⟨wrap64_id (by omega), h1, h2⟩
def cap (l : Int) : Int := if 1048576 < l then 1048576 else l
theorem cap_le (l : Int) : cap l ≤ 1048576 := by unfold cap; split <;> omega
end Go.Proofs.Ytemggodhikpmdaa.PE
