/- Chapter 29: the net's calls at a net of one link, up or not, from both ends. -/
import Derived.Test.YteoiaihjapddoaaPA
import Derived.Test.YteoiaihjapddoaaF13
import Derived.Test.YteoiaihjapddoaaF15
import Derived.Test.YteoiaihjapddoaaF17
import Derived.Test.YteoiaihjapddoaaF18
import Derived.Test.YteoiaihjapddoaaF20
import Derived.Test.YteoiaihjapddoaaF16
import Derived.Test.YteoiaihjapddoaaZP
namespace Go.Proofs.Yteoiaihjapddoaa.PD
open Go Go.Proofs Go.Proofs.Yteoiaihjapddoaa.PA Go.Proofs.Yteoiaihjapddoaa.Sx
set_option linter.unusedSimpArgs false
set_option linter.unusedVariables false
abbrev Lk := Bool × Int × List Int × List Int
def net (x : Lk) : List Lk × Bool := ([x], true)
theorem f15 (up : Bool) (t : Int) (q0 q1 : List Int) (h : 0 ≤ t ∧ t ≤ 1000) : F15.f (([(up, t, q0, q1)], true), 0) = some (if up then (0, [(false, t + 1, [], [])], true) else (10, [(up, t, q0, q1)], true)) := by
  show F15.fP _ = _
  unfold F15.fP
  have hw : IntKind.i64.wrap (t + 1) = t + 1 := wrap64_id (by omega)
  cases up <;> simp [hw]
theorem f17 (up : Bool) (t : Int) (q0 q1 : List Int) : F17.f (([(up, t, q0, q1)], true), 0) = some (up, [(up, t, q0, q1)], true) := by
  show F17.fP _ = _
  unfold F17.fP
  simp
theorem f18 (up : Bool) (t : Int) (q0 q1 : List Int) : F18.f (([(up, t, q0, q1)], true), 0) = some (t, [(up, t, q0, q1)], true) := by
  show F18.fP _ = _
  unfold F18.fP
  simp
theorem f11a (t : Int) (q0 q1 b : List Int) (h0 : q1.length ≤ 1073741824) (h1 : b.length ≤ 1073741824) : F11.f (([(true, t, q0, q1)], true), 0, 0, b) =
    some (if q1.length + b.length > 16384 then (7, [(true, t, q0, q1)], true) else (0, [(true, t, q0, q1 ++ b)], true)) := by
  show F11.fP _ = _
  unfold F11.fP
  have hw : IntKind.i64.wrap ((q1.length : Int) + (b.length : Int)) = (q1.length : Int) + (b.length : Int) := wrap_len (by omega)
  have hz : IntKind.i64.wrap 1 = 1 := by decide
  have hb0 : Nat.beq 0 0 = true := rfl
  have hb : Nat.beq 1 0 = false := rfl
  have hb1 : Nat.beq 1 1 = true := rfl
  have ht : List.take (q1.length + b.length) (q1 ++ b) = q1 ++ b := List.take_of_length_le (by simp)
  by_cases h : q1.length + b.length > 16384
  · have c1 : decide (IntKind.i64.wrap ((q1.length : Int) + (b.length : Int)) > 16384) = true := by rw [hw]; simp; omega
    simp [c1, h, hz, hb, hb1, hb0, ht]
  · have c1 : decide (IntKind.i64.wrap ((q1.length : Int) + (b.length : Int)) > 16384) = false := by rw [hw]; simp; omega
    have c2 : q1.length + b.length ≤ 1073741824 := by omega
    simp [c1, h, c2, hz, hb, hb1, hb0, ht]
theorem f11n (t : Int) (q0 q1 b : List Int) (e : Int) (he : e = 0 ∨ e = 1) : F11.f (([(false, t, q0, q1)], true), 0, e, b) = some (10, [(false, t, q0, q1)], true) := by
  show F11.fP _ = _
  unfold F11.fP
  rcases he with rfl | rfl <;> simp
theorem f20 (up : Bool) (t : Int) (q0 q1 : List Int) (h0 : q0.length ≤ 100000) (h1 : q1.length ≤ 100000) : F20.f ([(up, t, q0, q1)], true) = some (decide (q0.length + q1.length = 0), [(up, t, q0, q1)], true) := by
  have hw : IntKind.i64.wrap ((q0.length : Int) + (q1.length : Int)) = (q0.length : Int) + (q1.length : Int) := wrap_len (by omega)
  have w1 : IntKind.i64.wrap (0 + 1) = 1 := by decide
  have e : F37.l1 ([(up, t, q0, q1)], (), 1) 0 = some ((if q0.length + q1.length = 0 then (0, 0) else (1, 0)), ()) := by
    show iterO (F37.r1 _) 0 = _
    rw [iterO_eq]
    have hr : F37.r1 ([(up, t, q0, q1)], (), 1) 0 = if q0.length + q1.length = 0 then some (.inl 1) else some (.inr ((1, 0), ())) := by
      show F37.r1P _ _ = _
      unfold F37.r1P
      by_cases h : q0.length + q1.length = 0
      · have a : ¬ 0 < (q0.length : Int) + (q1.length : Int) := by omega
        have w2 : IntKind.i64.wrap 1 = 1 := by decide
        simp [hw, h, w1]
        simp [a, w2]
      · have a : 0 < (q0.length : Int) + (q1.length : Int) := by omega
        simp [hw, h, w1]
        simp [a]
        intro h2 h3
        subst h2 h3
        simp at h
    rw [hr]
    by_cases h : q0.length + q1.length = 0
    · rw [if_pos h, if_pos h]
      simp only
      rw [iterO_eq]
      have : F37.r1 ([(up, t, q0, q1)], (), 1) 1 = some (.inr ((0, 0), ())) := by
        show F37.r1P _ _ = _
        unfold F37.r1P
        simp
      rw [this]
    · rw [if_neg h, if_neg h]
  show F20.fP F37.l1 _ = _
  unfold F20.fP
  have e' : F37.l1 ([(up, t, q0, q1)], PUnit.unit, 1) (OfNat.ofNat 0) = some ((if q0.length + q1.length = 0 then (0, 0) else (1, 0)), ()) := e
  simp only [List.length_cons, List.length_nil, Nat.zero_add, List.take_succ_cons, List.take_zero, Nat.le_refl, decide_true, Bool.and_self, cond_true]
  have e'' : F37.l1 ([(up, t, q0, q1)], PUnit.unit, ((1 : Nat) : Int)) (OfNat.ofNat 0) = some ((if q0.length + q1.length = 0 then (0, 0) else (1, 0)), ()) := e
  rw [e'']
  by_cases h : q0.length + q1.length = 0
  · rw [if_pos h]; simp [h]
  · rw [if_neg h]; rw [decide_eq_false h]; simp
theorem eqb (a : List Int) : F16.f (a, a) = some (true, ()) := by
  show F16.fP _ = _
  unfold F16.fP
  simp
end Go.Proofs.Yteoiaihjapddoaa.PD
