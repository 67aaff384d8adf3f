/- Chapter 29: a round of calls on one link: what waits is what the net says. -/
import Derived.Test.YteoiaihjapddoaaPE
import Derived.Test.YteoiaihjapddoaaF5
namespace Go.Proofs.Yteoiaihjapddoaa.PF
open Go Go.Proofs Go.Proofs.Yteoiaihjapddoaa.PA Go.Proofs.Yteoiaihjapddoaa.PB Go.Proofs.Yteoiaihjapddoaa.PD Go.Proofs.Yteoiaihjapddoaa.PE Go.Proofs.Yteoiaihjapddoaa.Sx
set_option linter.unusedSimpArgs false
set_option linter.unusedVariables false
theorem take_app {α : Type} (a b : List α) : List.take (a.length + b.length) (a ++ b) = a ++ b := List.take_of_length_le (by simp)
theorem l1 (w0 w1 b : List Int) (e : Int) (he : e = 0 ∨ e = 1) (h0 : w0.length ≤ 16384) (h1 : w1.length ≤ 16384) (hb : b.length ≤ 300) :
    F5.l1 ((w0, w1), e, b) () = some (decide ((if e = 0 then w1 else w0).length + b.length ≤ 16384), ()) := by
  unfold F5.l1 F5.r1 F5.r1P
  have hw0 : IntKind.i64.wrap ((w0.length : Int) + (b.length : Int)) = (w0.length : Int) + (b.length : Int) := wrap_len (by omega)
  have hw1 : IntKind.i64.wrap ((w1.length : Int) + (b.length : Int)) = (w1.length : Int) + (b.length : Int) := wrap_len (by omega)
  have z1 : IntKind.i64.wrap (1 - 0) = 1 := by decide
  have z0 : IntKind.i64.wrap (1 - 1) = 0 := by decide
  have t1 : (1 : Int).toNat = 1 := rfl
  have t0 : (0 : Int).toNat = 0 := rfl
  have b0 : Nat.beq 1 0 = false := rfl
  have b1 : Nat.beq 1 1 = true := rfl
  have b2 : Nat.beq 0 0 = true := rfl
  rcases he with rfl | rfl
  · have c : decide ((w1.length : Int) + (b.length : Int) ≤ 16384) = decide (w1.length + b.length ≤ 16384) := by apply decide_eq_decide.2; omega
    simp only [z1, t1, b0, b1, hw1, c, cond_false, cond_true, if_true]
    rfl
  · have c : decide ((w0.length : Int) + (b.length : Int) ≤ 16384) = decide (w0.length + b.length ≤ 16384) := by apply decide_eq_decide.2; omega
    simp only [z0, t0, b2, hw0, c, cond_false, cond_true]
    rfl
theorem l2 (w0 w1 b : List Int) (e : Int) (t : Bool) (he : e = 0 ∨ e = 1) (h0 : w0.length ≤ 16384) (h1 : w1.length ≤ 16384) (hb : b.length ≤ 300) :
    F5.l2 (e, b, t) (w0, w1) = some ((), if t then (if e = 0 then (w0, w1 ++ b) else (w0 ++ b, w1)) else (w0, w1)) := by
  unfold F5.l2 F5.r2 F5.r2P
  have z1 : IntKind.i64.wrap (1 - 0) = 1 := by decide
  have z0 : IntKind.i64.wrap (1 - 1) = 0 := by decide
  have t1 : (1 : Int).toNat = 1 := rfl
  have t0 : (0 : Int).toNat = 0 := rfl
  have b0 : Nat.beq 1 0 = false := rfl
  have b1 : Nat.beq 1 1 = true := rfl
  have b2 : Nat.beq 0 0 = true := rfl
  have y1 : IntKind.i64.wrap 1 = 1 := by decide
  have y0 : IntKind.i64.wrap 0 = 0 := by decide
  have k1 : w1.length + b.length ≤ 1073741824 := by omega
  have k0 : w0.length + b.length ≤ 1073741824 := by omega
  cases t with
  | false => rfl
  | true =>
    rcases he with rfl | rfl
    · simp [y1, t1, b0, b1, take_app, k1]
    · simp [y0, t0, b2, take_app, k0]
/-- As many as there are, at most. -/
theorem cutAt (w : List Int) (m : Int) (h : 0 ≤ m) : ∃ k : Nat, (if (w.length : Int) < m then (w.length : Int) else m) = (k : Int) ∧ k ≤ w.length ∧ w.take m.toNat = w.take k ∧ w.drop m.toNat = w.drop k := by
  by_cases hm : (w.length : Int) < m
  · refine ⟨w.length, by rw [if_pos hm], Nat.le_refl _, ?_, ?_⟩
    · rw [List.take_of_length_le (by omega), List.take_length]
    · rw [List.drop_of_length_le (by omega), List.drop_length]
  · refine ⟨m.toNat, by rw [if_neg hm]; omega, by omega, rfl, rfl⟩
set_option maxHeartbeats 4000000 in
theorem l3 (w0 w1 : List Int) (x : Int × Int × Int × Int × List Int) (e : Int) (he : e = 0 ∨ e = 1) (h0 : w0.length ≤ 16384) (h1 : w1.length ≤ 16384) (hm : 0 ≤ x.2.2.2.1) :
    F5.l3 (x, e, true) ((w0, w1), (if e = 0 then w0 else w1).take x.2.2.2.1.toNat) = some ((0, false), if e = 0 then (w0.drop x.2.2.2.1.toNat, w1) else (w0, w1.drop x.2.2.2.1.toNat)) := by
  obtain ⟨a0, a1, a2, m, a4⟩ := x
  simp only at hm ⊢
  unfold F5.l3 F5.r3 F5.r3P
  have t1 : (1 : Int).toNat = 1 := rfl
  have t0 : (0 : Int).toNat = 0 := rfl
  have b0 : Nat.beq 1 0 = false := rfl
  have b1 : Nat.beq 1 1 = true := rfl
  have b2 : Nat.beq 0 0 = true := rfl
  rcases he with rfl | rfl
  · obtain ⟨k, hk, hkl, ht, hd⟩ := cutAt w0 m hm
    have c1 : List.take ((w0.length : Int) - (k : Int)).toNat (List.drop k w0) = List.drop k w0 := List.take_of_length_le (by rw [List.length_drop]; omega)
    have c2 : k + ((w0.length : Int) - (k : Int)).toNat ≤ w0.length := by omega
    have c3 : List.take k (List.take k w0) = List.take k w0 := by rw [List.take_take, Nat.min_self]
    have c4 : List.take (w0.length - k) (List.drop k w0) = List.drop k w0 := List.take_of_length_le (by rw [List.length_drop]; omega)
    rw [if_pos rfl, if_pos rfl, ht, hd]
    simp only [hk]
    by_cases hke : (k : Int) = (w0.length : Int)
    · have hkw : k = w0.length := by omega
      subst hkw
      simp [t0, b2, eqb]
    · simp [t0, b2, eqb, hke, hkl, c1, c2, c3, c4]
  · obtain ⟨k, hk, hkl, ht, hd⟩ := cutAt w1 m hm
    have c1 : List.take ((w1.length : Int) - (k : Int)).toNat (List.drop k w1) = List.drop k w1 := List.take_of_length_le (by rw [List.length_drop]; omega)
    have c2 : k + ((w1.length : Int) - (k : Int)).toNat ≤ w1.length := by omega
    have c3 : List.take k (List.take k w1) = List.take k w1 := by rw [List.take_take, Nat.min_self]
    have c4 : List.take (w1.length - k) (List.drop k w1) = List.drop k w1 := List.take_of_length_le (by rw [List.length_drop]; omega)
    rw [if_neg (by decide), if_neg (by decide), ht, hd]
    simp only [hk]
    by_cases hke : (k : Int) = (w1.length : Int)
    · have hkw : k = w1.length := by omega
      subst hkw
      simp [t1, b0, b1, eqb]
    · simp [t1, b0, b1, eqb, hke, hkl, c1, c2, c3, c4]
theorem l3n (w0 w1 g : List Int) (x : Int × Int × Int × Int × List Int) (e : Int) : F5.l3 (x, e, false) ((w0, w1), g) = some ((0, false), (w0, w1)) := by
  unfold F5.l3 F5.r3 F5.r3P
  rfl
abbrev Lk2 := List Int × List Int
/-- What a round leaves: the net's queues are what waits. -/
def Kept (up : Bool) (turn : Int) (w : Lk2) : Prop := w.1.length ≤ 16384 ∧ w.2.length ≤ 16384 ∧ 0 ≤ turn
theorem ite_w {α : Type} (e : Int) (he : e = 0 ∨ e = 1) (a b : α) : (e = 0 ∧ (if e = 0 then a else b) = a) ∨ (e = 1 ∧ (if e = 0 then a else b) = b) := by
  rcases he with rfl | rfl
  · exact .inl ⟨rfl, rfl⟩
  · exact .inr ⟨rfl, rfl⟩
theorem sent (up : Bool) (t : Int) (w0 w1 b : List Int) (e : Int) (he : e = 0 ∨ e = 1) (h0 : w0.length ≤ 16384) (h1 : w1.length ≤ 16384) (hb : b.length ≤ 300) :
    F11.f (([(up, t, w0, w1)], true), 0, e, b) = some (if up then (if (if e = 0 then w1 else w0).length + b.length ≤ 16384 then (0, [(true, t, if e = 0 then (w0, w1 ++ b) else (w0 ++ b, w1))], true) else (7, [(true, t, w0, w1)], true)) else (10, [(false, t, w0, w1)], true)) := by
  cases up with
  | false => rw [f11n t w0 w1 b e he]; rfl
  | true =>
    rcases he with rfl | rfl
    · rw [f11a t w0 w1 b (by omega) (by omega)]
      by_cases h : w1.length + b.length > 16384
      · have h' : ¬ (w1.length + b.length ≤ 16384) := by omega
        simp [h, h']
      · have h' : w1.length + b.length ≤ 16384 := by omega
        simp [h, h']
    · rw [f11 t w0 w1 b (by omega) (by omega)]
      by_cases h : w0.length + b.length > 16384
      · have h' : ¬ (w0.length + b.length ≤ 16384) := by omega
        simp [h, h']
      · have h' : w0.length + b.length ≤ 16384 := by omega
        simp [h, h']
theorem delivered (up : Bool) (t : Int) (w0 w1 : List Int) (e m : Int) (he : e = 0 ∨ e = 1) (h0 : w0.length ≤ 16384) (h1 : w1.length ≤ 16384) :
    F13.f (([(up, t, w0, w1)], true), 0, e, m) = some (if up = true ∧ 0 ≤ m then (((if e = 0 then w0 else w1).take m.toNat, 0), [(true, t, if e = 0 then (w0.drop m.toNat, w1) else (w0, w1.drop m.toNat))], true) else (([], if 0 ≤ m then 10 else 1), [(up, t, w0, w1)], true)) := by
  by_cases h : up = true ∧ 0 ≤ m
  · obtain ⟨rfl, hm⟩ := h
    rw [if_pos ⟨rfl, hm⟩]
    rcases he with rfl | rfl
    · exact f13 t w0 w1 m h0 hm
    · exact f13b t w0 w1 m h1 hm
  · rw [if_neg h]
    refine f13n up t w0 w1 e m he ?_
    cases up with
    | false => exact .inl rfl
    | true => exact .inr (by simp at h; omega)
end Go.Proofs.Yteoiaihjapddoaa.PF
