/- Chapter 29: the net's calls, at a net of one link. -/
import Derived.Test.YteoiaihjapddoaaF9
import Derived.Test.YteoiaihjapddoaaF10
import Derived.Test.YteoiaihjapddoaaF11
import Derived.Test.YteoiaihjapddoaaF12
import Derived.Test.YteoiaihjapddoaaF28
import Derived.IntWalk
namespace Go.Proofs.Yteoiaihjapddoaa.PA
open Go Go.Proofs
set_option linter.unusedSimpArgs false
set_option linter.unusedVariables false
theorem f9 : F9.f ([], true) = some ((0, 0), [(false, 0, [], [])], true) := by
  show F9.fP _ = _
  unfold F9.fP
  simp
  decide
theorem f10 (up : Bool) (t : Int) (q0 q1 : List Int) : F10.f (([(up, t, q0, q1)], true), 0) = some (0, [(true, t, q0, q1)], true) := by
  show F10.fP _ = _
  unfold F10.fP
  simp
theorem f12a (up : Bool) (t : Int) (q0 q1 : List Int) : F12.f (([(up, t, q0, q1)], true), 0, 0) = some ((q0.length : Int), [(up, t, q0, q1)], true) := by
  show F12.fP _ = _
  unfold F12.fP
  simp
theorem f12b (up : Bool) (t : Int) (q0 q1 : List Int) : F12.f (([(up, t, q0, q1)], true), 0, 1) = some ((q1.length : Int), [(up, t, q0, q1)], true) := by
  show F12.fP _ = _
  unfold F12.fP
  simp
  rfl
theorem wrap_len {n : Int} (h : 0 ≤ n ∧ n ≤ 4611686018427387904) : IntKind.i64.wrap n = n := IntWalk.i64_in n (by omega)
/-- Sending from end 1: the bytes wait for end 0, if they fit. -/
theorem f11 (t : Int) (q0 q1 b : List Int) (h0 : q0.length ≤ 1073741824) (h1 : b.length ≤ 1073741824) : F11.f (([(true, t, q0, q1)], true), 0, 1, b) =
    some (if q0.length + b.length > 16384 then (7, [(true, t, q0, q1)], true) else (0, [(true, t, q0 ++ b, q1)], true)) := by
  show F11.fP _ = _
  unfold F11.fP
  have hw : IntKind.i64.wrap ((q0.length : Int) + (b.length : Int)) = (q0.length : Int) + (b.length : Int) := wrap_len (by omega)
  have hz : IntKind.i64.wrap 0 = 0 := by decide
  have hb : Nat.beq 0 0 = true := rfl
  have ht : List.take (q0.length + b.length) (q0 ++ b) = q0 ++ b := List.take_of_length_le (by simp)
  by_cases h : q0.length + b.length > 16384
  · have c1 : decide (IntKind.i64.wrap ((q0.length : Int) + (b.length : Int)) > 16384) = true := by rw [hw]; simp; omega
    simp [c1, h, hz, hb, ht]
  · have c1 : decide (IntKind.i64.wrap ((q0.length : Int) + (b.length : Int)) > 16384) = false := by rw [hw]; simp; omega
    have c2 : q0.length + b.length ≤ 1073741824 := by omega
    simp [c1, h, c2, hz, hb, ht]
theorem clone (l : List Int) (h : l.length ≤ 1073741824) : F28.f l = some (l, ()) := by
  show (if 0 < l.length then F28.fP l else some ([], ())) = _
  by_cases h0 : 0 < l.length
  · rw [if_pos h0]
    unfold F28.fP
    simp [h0, h]
  · rw [if_neg h0]
    have : l = [] := List.eq_nil_of_length_eq_zero (by omega)
    rw [this]
end Go.Proofs.Yteoiaihjapddoaa.PA
