/- Chapter 13: what each call of both clocks comes to. -/
import Derived.Test.YtemggodhikpmdaaF7
import Derived.IntWalk
namespace Go.Proofs.Ytemggodhikpmdaa.PA
open Go Go.Proofs
set_option linter.unusedSimpArgs false
set_option linter.unusedVariables false
abbrev CK := Int × Bool × Int × Bool × Int × Bool × Int × Bool × Int × Bool
abbrev WK := Int × Int × Int × Int × Int
def sel (r : Bool) (a k : Int) (x : Int × Int × Bool) : Int × Int × Bool := if (r && (!x.2.2 || decide (a < x.2.1))) = true then (k, a, true) else x
def nx (r0 r1 r2 r3 : Bool) (a0 a1 a2 a3 : Int) : Int × Int × Bool := sel r3 a3 3 (sel r2 a2 2 (sel r1 a1 1 (sel r0 a0 0 (0, 0, false))))
theorem sel_range (r : Bool) (a k : Int) (x : Int × Int × Bool) (hk : 0 ≤ k ∧ k < 4) (h : 0 ≤ x.1 ∧ x.1 < 4) : 0 ≤ (sel r a k x).1 ∧ (sel r a k x).1 < 4 := by
  unfold sel
  split
  · exact hk
  · exact h
theorem nx_range (r0 r1 r2 r3 : Bool) (a0 a1 a2 a3 : Int) : 0 ≤ (nx r0 r1 r2 r3 a0 a1 a2 a3).1 ∧ (nx r0 r1 r2 r3 a0 a1 a2 a3).1 < 4 :=
  sel_range _ _ _ _ (by omega) (sel_range _ _ _ _ (by omega) (sel_range _ _ _ _ (by omega) (sel_range _ _ _ _ (by omega) (by decide))))
theorem f26 (now : Int) (r0 : Bool) (a0 : Int) (r1 : Bool) (a1 : Int) (r2 : Bool) (a2 : Int) (r3 : Bool) (a3 : Int) : F26.f (now, r0, a0, r1, a1, r2, a2, r3, a3, true) = some (nx r0 r1 r2 r3 a0 a1 a2 a3, (now, r0, a0, r1, a1, r2, a2, r3, a3, true)) := by
  show F26.fP _ = _
  unfold F26.fP nx sel
  cases r0 <;> cases r1 <;> cases r2 <;> cases r3 <;> simp only [cond_true, cond_false, Bool.true_and, Bool.false_and, Bool.not_true, Bool.not_false, Bool.true_or, Bool.false_or, if_true, if_false, Bool.false_eq_true, Bool.cond_decide, decide_eq_true_eq] <;> (repeat' split) <;> simp_all <;> omega
theorem f27 (now a0 a1 a2 a3 : Int) : F27.f (now, a0, a1, a2, a3) = some (nx (decide (a0 ≥ 0)) (decide (a1 ≥ 0)) (decide (a2 ≥ 0)) (decide (a3 ≥ 0)) a0 a1 a2 a3, (now, a0, a1, a2, a3)) := by
  show F27.fP _ = _
  unfold F27.fP nx sel
  by_cases h0 : a0 ≥ 0 <;> by_cases h1 : a1 ≥ 0 <;> by_cases h2 : a2 ≥ 0 <;> by_cases h3 : a3 ≥ 0 <;> simp only [h0, h1, h2, h3, decide_true, decide_false, cond_true, cond_false, Bool.true_and, Bool.false_and, Bool.not_true, Bool.not_false, Bool.true_or, Bool.false_or, if_true, if_false, Bool.false_eq_true, Bool.cond_decide, decide_eq_true_eq] <;> (repeat' split) <;> simp_all <;> omega
def lim (now u : Int) : Int := if (if 1099511627776 < u then 1099511627776 else u) > now then (if 1099511627776 < u then 1099511627776 else u) else now
theorem four {k : Int} (h : 0 ≤ k ∧ k < 4) : k = 0 ∨ k = 1 ∨ k = 2 ∨ k = 3 := by omega
def go (c : CK) (u : Int) : (Int × Bool) × CK :=
  match c with
  | (now, r0, a0, r1, a1, r2, a2, r3, a3, m) =>
    let n := nx r0 r1 r2 r3 a0 a1 a2 a3
    if n.2.2 = true ∧ n.2.1 ≤ (if now > u then now else u) then
      ((n.1, true), (n.2.1, r0 && n.1 != 0, (if n.1 = 0 then 0 else a0), r1 && n.1 != 1, (if n.1 = 1 then 0 else a1), r2 && n.1 != 2, (if n.1 = 2 then 0 else a2), r3 && n.1 != 3, (if n.1 = 3 then 0 else a3), m))
    else ((0, false), (lim now u, r0, a0, r1, a1, r2, a2, r3, a3, m))
def goW (w : WK) (u : Int) : (Int × Bool) × WK :=
  match w with
  | (now, a0, a1, a2, a3) =>
    let n := nx (decide (a0 ≥ 0)) (decide (a1 ≥ 0)) (decide (a2 ≥ 0)) (decide (a3 ≥ 0)) a0 a1 a2 a3
    if n.2.2 = true ∧ (n.2.1 ≤ u ∨ n.2.1 = now) then
      ((n.1, true), (n.2.1, (if n.1 = 0 then -1 else a0), (if n.1 = 1 then -1 else a1), (if n.1 = 2 then -1 else a2), (if n.1 = 3 then -1 else a3)))
    else ((0, false), (lim now u, a0, a1, a2, a3))
theorem f23 (now : Int) (r0 : Bool) (a0 : Int) (r1 : Bool) (a1 : Int) (r2 : Bool) (a2 : Int) (r3 : Bool) (a3 u : Int) : F23.f ((now, r0, a0, r1, a1, r2, a2, r3, a3, true), u) = some (go (now, r0, a0, r1, a1, r2, a2, r3, a3, true) u) := by
  show F23.fP F26.f _ = _
  unfold F23.fP
  have hr := nx_range r0 r1 r2 r3 a0 a1 a2 a3
  simp only [f26, go, Option.bind_some]
  generalize nx r0 r1 r2 r3 a0 a1 a2 a3 = n at *
  obtain ⟨k, at_, is⟩ := n
  simp only at hr ⊢
  cases is with
  | false => simp [lim]
  | true =>
    by_cases hle : at_ ≤ (if now > u then now else u)
    · rcases four hr with rfl | rfl | rfl | rfl <;> simp [hle, Sx.beq_dec]
    · simp [hle, lim]
theorem lim_eq (now u : Int) : lim now u = if u > 1099511627776 then (if 1099511627776 > now then 1099511627776 else now) else if u > now then u else now := by
  unfold lim
  repeat' split
  all_goals omega
theorem f24 (now a0 a1 a2 a3 u : Int) : F24.f ((now, a0, a1, a2, a3), u) = some (goW (now, a0, a1, a2, a3) u) := by
  show F24.fP F27.f _ = _
  unfold F24.fP
  have hr := nx_range (decide (a0 ≥ 0)) (decide (a1 ≥ 0)) (decide (a2 ≥ 0)) (decide (a3 ≥ 0)) a0 a1 a2 a3
  simp only [f27, goW, Option.bind_some]
  generalize nx (decide (a0 ≥ 0)) (decide (a1 ≥ 0)) (decide (a2 ≥ 0)) (decide (a3 ≥ 0)) a0 a1 a2 a3 = n at *
  obtain ⟨k, at_, is⟩ := n
  simp only [lim_eq] at hr ⊢
  cases is with
  | false =>
    by_cases h1 : u > 1099511627776 <;> by_cases h2 : 1099511627776 > now <;> by_cases h3 : u > now <;> simp [h1, h2, h3]
  | true =>
    by_cases hle : at_ ≤ u
    · rcases four hr with rfl | rfl | rfl | rfl <;> simp [hle, Sx.beq_dec]
    · by_cases he : at_ = now
      · subst he
        rcases four hr with rfl | rfl | rfl | rfl <;> simp [hle, Sx.beq_dec]
      · have hb : (at_ == now) = false := by simpa using he
        by_cases h1 : u > 1099511627776 <;> by_cases h2 : 1099511627776 > now <;> by_cases h3 : u > now <;> simp [h1, h2, h3, hle, he, hb]
def at4 {α : Type} (t : Int) (x0 x1 x2 x3 : α) : α := if t = 0 then x0 else if t = 1 then x1 else if t = 2 then x2 else x3
def later (now n : Int) : Int := IntKind.i64.wrap (now + if IntKind.i64.wrap (1099511627776 - now) < n then IntKind.i64.wrap (1099511627776 - now) else n)
def laterW (now n : Int) : Int := if n > IntKind.i64.wrap (1099511627776 - now) then 1099511627776 else IntKind.i64.wrap (now + n)
def startC (c : CK) (t n : Int) : Int × CK :=
  match c with
  | (now, r0, a0, r1, a1, r2, a2, r3, a3, m) =>
    if t < 0 ∨ t ≥ 4 ∨ n < 0 then ((1 : Int), (now, r0, a0, r1, a1, r2, a2, r3, a3, m))
    else ((0 : Int), (now, (r0 || t == 0), (if t = 0 then later now n else a0), (r1 || t == 1), (if t = 1 then later now n else a1), (r2 || t == 2), (if t = 2 then later now n else a2), (r3 || t == 3), (if t = 3 then later now n else a3), m))
def startW (w : WK) (t n : Int) : Int × WK :=
  match w with
  | (now, a0, a1, a2, a3) =>
    if t < 0 ∨ t ≥ 4 ∨ n < 0 then ((1 : Int), (now, a0, a1, a2, a3))
    else ((0 : Int), (now, (if t = 0 then laterW now n else a0), (if t = 1 then laterW now n else a1), (if t = 2 then laterW now n else a2), (if t = 3 then laterW now n else a3)))
def stop (c : CK) (t : Int) : Int × CK :=
  match c with
  | (now, r0, a0, r1, a1, r2, a2, r3, a3, m) =>
    if t < 0 ∨ t ≥ 4 then ((1 : Int), (now, r0, a0, r1, a1, r2, a2, r3, a3, m))
    else ((0 : Int), (now, r0 && t != 0, (if t = 0 then 0 else a0), r1 && t != 1, (if t = 1 then 0 else a1), r2 && t != 2, (if t = 2 then 0 else a2), r3 && t != 3, (if t = 3 then 0 else a3), m))
def stopW (w : WK) (t : Int) : Int × WK :=
  match w with
  | (now, a0, a1, a2, a3) =>
    if t < 0 ∨ t ≥ 4 then ((1 : Int), (now, a0, a1, a2, a3))
    else ((0 : Int), (now, (if t = 0 then -1 else a0), (if t = 1 then -1 else a1), (if t = 2 then -1 else a2), (if t = 3 then -1 else a3)))
def left (c : CK) (t : Int) : (Int × Bool) × CK :=
  match c with
  | (now, r0, a0, r1, a1, r2, a2, r3, a3, m) =>
    if t < 0 ∨ t ≥ 4 ∨ at4 t r0 r1 r2 r3 = false then ((0, false), (now, r0, a0, r1, a1, r2, a2, r3, a3, m))
    else ((IntKind.i64.wrap (at4 t a0 a1 a2 a3 - now), true), (now, r0, a0, r1, a1, r2, a2, r3, a3, m))
def leftW (w : WK) (t : Int) : (Int × Bool) × WK :=
  match w with
  | (now, a0, a1, a2, a3) =>
    if t < 0 ∨ t ≥ 4 ∨ at4 t a0 a1 a2 a3 < 0 then ((0, false), (now, a0, a1, a2, a3))
    else ((IntKind.i64.wrap (at4 t a0 a1 a2 a3 - now), true), (now, a0, a1, a2, a3))
theorem tcases (t : Int) : t < 0 ∨ t ≥ 4 ∨ t = 0 ∨ t = 1 ∨ t = 2 ∨ t = 3 := by omega
theorem f19 (now : Int) (r0 : Bool) (a0 : Int) (r1 : Bool) (a1 : Int) (r2 : Bool) (a2 : Int) (r3 : Bool) (a3 t n : Int) : F19.f ((now, r0, a0, r1, a1, r2, a2, r3, a3, true), t, n) = some (startC (now, r0, a0, r1, a1, r2, a2, r3, a3, true) t n) := by
  show F19.fP _ = _
  unfold F19.fP startC later
  rcases tcases t with h | h | rfl | rfl | rfl | rfl
  · simp [h]
  · have : ¬ t < 0 := by omega
    simp [h, this]
  all_goals by_cases hn : n < 0 <;> simp [hn, Sx.beq_dec]
theorem f20 (now a0 a1 a2 a3 t n : Int) : F20.f ((now, a0, a1, a2, a3), t, n) = some (startW (now, a0, a1, a2, a3) t n) := by
  show F20.fP _ = _
  unfold F20.fP startW laterW
  rcases tcases t with h | h | rfl | rfl | rfl | rfl
  · simp [h]
  · have : ¬ t < 0 := by omega
    have : t > 3 := by omega
    simp [h, this]
  all_goals by_cases hn : n < 0 <;> by_cases hm : n > IntKind.i64.wrap (1099511627776 - now) <;> simp [hn, hm, Sx.beq_dec]
theorem f21 (now : Int) (r0 : Bool) (a0 : Int) (r1 : Bool) (a1 : Int) (r2 : Bool) (a2 : Int) (r3 : Bool) (a3 t : Int) : F21.f ((now, r0, a0, r1, a1, r2, a2, r3, a3, true), t) = some (stop (now, r0, a0, r1, a1, r2, a2, r3, a3, true) t) := by
  show F21.fP _ = _
  unfold F21.fP stop
  rcases tcases t with h | h | rfl | rfl | rfl | rfl
  · simp [h]
  · have : ¬ t < 0 := by omega
    simp [h, this]
  all_goals simp [Sx.beq_dec]
theorem f22 (now a0 a1 a2 a3 t : Int) : F22.f ((now, a0, a1, a2, a3), t) = some (stopW (now, a0, a1, a2, a3) t) := by
  show F22.fP _ = _
  unfold F22.fP stopW
  rcases tcases t with h | h | rfl | rfl | rfl | rfl
  · simp [h]
  · have : ¬ t < 0 := by omega
    have : t > 3 := by omega
    simp [h, this]
  all_goals simp [Sx.beq_dec]
theorem f13 (now : Int) (r0 : Bool) (a0 : Int) (r1 : Bool) (a1 : Int) (r2 : Bool) (a2 : Int) (r3 : Bool) (a3 t : Int) : F13.f ((now, r0, a0, r1, a1, r2, a2, r3, a3, true), t) = some (left (now, r0, a0, r1, a1, r2, a2, r3, a3, true) t) := by
  show F13.fP _ = _
  unfold F13.fP left at4
  rcases tcases t with h | h | rfl | rfl | rfl | rfl
  · simp [h]
  · have : ¬ t < 0 := by omega
    simp [h, this]
  · cases r0 <;> simp [Sx.beq_dec]
  · cases r1 <;> simp [Sx.beq_dec]
  · cases r2 <;> simp [Sx.beq_dec]
  · cases r3 <;> simp [Sx.beq_dec]
theorem f25 (now a0 a1 a2 a3 t : Int) : F25.f ((now, a0, a1, a2, a3), t) = some (leftW (now, a0, a1, a2, a3) t) := by
  show F25.fP _ = _
  unfold F25.fP leftW at4
  rcases tcases t with h | h | rfl | rfl | rfl | rfl
  · simp [h]
  · have : ¬ t < 0 := by omega
    have : t > 3 := by omega
    simp [h, this]
  · by_cases h : a0 < 0 <;> simp [h, Sx.beq_dec]
  · by_cases h : a1 < 0 <;> simp [h, Sx.beq_dec]
  · by_cases h : a2 < 0 <;> simp [h, Sx.beq_dec]
  · by_cases h : a3 < 0 <;> simp [h, Sx.beq_dec]
end Go.Proofs.Ytemggodhikpmdaa.PA
