/- Chapter 13: rows of calls. -/
import Derived.Test.YtemggodhikpmdaaPB
import Derived.Test.YtemggodhikpmdaaZP
import Derived.Test.YtemggodhikpmdaaZK
namespace Go.Proofs.Ytemggodhikpmdaa.PC
open Go Go.Proofs Go.Proofs.Ytemggodhikpmdaa.PA Go.Proofs.Ytemggodhikpmdaa.PB Go.Proofs.Ytemggodhikpmdaa.Sx
set_option linter.unusedSimpArgs false
set_option linter.unusedVariables false
theorem call_rel {c : CK} {w : WK} (h : Rel c w) (a0 a1 a2 k : Int) : ∃ c' w', F7.l2 ((a0, a1, a2), k) (c, w, true) = some (true, c', w') ∧ Rel c' w' := by
  have hm : c.2.2.2.2.2.2.2.2.2 = true := by obtain ⟨now, r0, a0, r1, a1, r2, a2, r3, a3, m⟩ := c; obtain ⟨now', b0, b1, b2, b3⟩ := w; exact h.1
  have s19 := rel_start h a1 a2
  have s21 := rel_stop h a1
  have s23 := rel_go h a2
  have s13 := rel_left h a1
  have e19 : F19.f (c, a1, a2) = some (startC c a1 a2) := by obtain ⟨now, r0, x0, r1, x1, r2, x2, r3, x3, m⟩ := c; simp only at hm; subst hm; exact f19 ..
  have e20 : F20.f (w, a1, a2) = some (startW w a1 a2) := f20 ..
  have e21 : F21.f (c, a1) = some (stop c a1) := by obtain ⟨now, r0, x0, r1, x1, r2, x2, r3, x3, m⟩ := c; simp only at hm; subst hm; exact f21 ..
  have e22 : F22.f (w, a1) = some (stopW w a1) := f22 ..
  have e23 : F23.f (c, a2) = some (go c a2) := by obtain ⟨now, r0, x0, r1, x1, r2, x2, r3, x3, m⟩ := c; simp only at hm; subst hm; exact f23 ..
  have e24 : F24.f (w, a2) = some (goW w a2) := f24 ..
  have e13 : F13.f (c, a1) = some (left c a1) := by obtain ⟨now, r0, x0, r1, x1, r2, x2, r3, x3, m⟩ := c; simp only at hm; subst hm; exact f13 ..
  have e25 : F25.f (w, a1) = some (leftW w a1) := f25 ..
  have hf : F7.l2 ((a0, a1, a2), k) (c, w, true) = bif k == 0 then (F19.f (c, a1, a2)).bind fun r0 => (F20.f (w, a1, a2)).bind fun r1 => some (r0.1 == r1.1, r0.2, r1.2)
      else bif k == 1 then (F19.f (c, a1, a2)).bind fun r0 => (F20.f (w, a1, a2)).bind fun r1 => some (r0.1 == r1.1, r0.2, r1.2)
      else bif k == 2 then (F21.f (c, a1)).bind fun r0 => (F22.f (w, a1)).bind fun r1 => some (r0.1 == r1.1, r0.2, r1.2)
      else bif k == 3 then (F23.f (c, a2)).bind fun r0 => (F24.f (w, a2)).bind fun r1 => bif r0.1.1 == r1.1.1 then some (r0.1.2 == r1.1.2, r0.2, r1.2) else some (false, r0.2, r1.2)
      else bif k == 4 then (F23.f (c, a2)).bind fun r0 => (F24.f (w, a2)).bind fun r1 => bif r0.1.1 == r1.1.1 then some (r0.1.2 == r1.1.2, r0.2, r1.2) else some (false, r0.2, r1.2)
      else bif k == 5 then (F23.f (c, a2)).bind fun r0 => (F24.f (w, a2)).bind fun r1 => bif r0.1.1 == r1.1.1 then some (r0.1.2 == r1.1.2, r0.2, r1.2) else some (false, r0.2, r1.2)
      else bif k == 6 then (F13.f (c, a1)).bind fun r0 => (F25.f (w, a1)).bind fun r1 => bif r0.1.1 == r1.1.1 then some (r0.1.2 == r1.1.2, r0.2, r1.2) else some (false, r0.2, r1.2)
      else some (true, c, w) := rfl
  rw [hf, e19, e20, e21, e22, e23, e24, e13, e25]
  simp only [Option.bind_some, s19.1, s21.1, s23.1, s13.1, beq_self_eq_true, cond_true]
  by_cases k0 : k = 0
  · subst k0; exact ⟨_, _, rfl, s19.2⟩
  by_cases k1 : k = 1
  · subst k1; exact ⟨_, _, rfl, s19.2⟩
  by_cases k2 : k = 2
  · subst k2; exact ⟨_, _, rfl, s21.2⟩
  by_cases k3 : k = 3
  · subst k3; exact ⟨_, _, rfl, s23.2⟩
  by_cases k4 : k = 4
  · subst k4; exact ⟨_, _, rfl, s23.2⟩
  by_cases k5 : k = 5
  · subst k5; exact ⟨_, _, rfl, s23.2⟩
  by_cases k6 : k = 6
  · subst k6; exact ⟨_, _, rfl, s13.2⟩
  · have : ∀ {n : Int}, k ≠ n → (k == n) = false := fun h => by simpa using h
    rw [this k0, this k1, this k2, this k3, this k4, this k5, this k6]
    exact ⟨_, _, rfl, h⟩
/-- The copy that was made, if any: at the time that was noted. -/
def Twin (tw : Option CK) (t : Int) : Prop := ∀ x, tw = some x → x.2.2.2.2.2.2.2.2.2 = true ∧ x.1 = t
abbrev St := CK × WK × Option CK × Int × Int
theorem copy_twin {c : CK} {w : WK} (h : Rel c w) (b : Bool) (tw : Option CK) (t : Int) (ht : Twin tw t) : ∃ tw' t', F7.l1 b (c, tw, t) = some ((tw', t'), c) ∧ Twin tw' t' := by
  obtain ⟨now, r0, x0, r1, x1, r2, x2, r3, x3, m⟩ := c
  obtain ⟨now', b0, b1, b2, b3⟩ := w
  obtain ⟨rfl, _⟩ := h
  cases tw with
  | none =>
    cases b with
    | true => exact ⟨some _, _, rfl, fun x hx => by cases hx; exact ⟨rfl, rfl⟩⟩
    | false => exact ⟨none, _, rfl, ht⟩
  | some y =>
    cases b with
    | true => exact ⟨some _, _, rfl, fun x hx => by cases hx; exact ⟨rfl, rfl⟩⟩
    | false => exact ⟨some y, _, rfl, ht⟩
def Inv (L : Nat) (s : St) : Prop := Rel s.1 s.2.1 ∧ Twin s.2.2.1 s.2.2.2.1 ∧ 0 ≤ s.2.2.2.2 ∧ s.2.2.2.2 ≤ L ∧ s.2.2.2.2 ≤ 60
def Out (r : (Int × Bool × Option CK × Int) × CK × WK) : Prop := r.1.1 = 0 ∧ Twin r.1.2.2.1 r.1.2.2.2
theorem next_rel {c : CK} {w : WK} (h : Rel c w) : ∃ n : Int × Int × Bool, F26.f c = some (n, c) ∧ F27.f w = some (n, w) := by
  obtain ⟨now, r0, x0, r1, x1, r2, x2, r3, x3, m⟩ := c
  obtain ⟨now', b0, b1, b2, b3⟩ := w
  obtain ⟨rfl, rfl, h0, hM, g0, g1, g2, g3⟩ := h
  exact ⟨_, f26 .., by rw [f27, nx_same h0 g0 g1 g2 g3]⟩
theorem round (l : List (Int × Int × Int)) (hl : l.length ≤ 9223372036854775807) (s : St) (h : Inv l.length s) :
    (∃ s', F7.r3 (l, l, (l.length : Int)) s = some (.inl s') ∧ Inv l.length s' ∧ (61 - s'.2.2.2.2.toNat) < (61 - s.2.2.2.2.toNat)) ∨ (∃ b, F7.r3 (l, l, (l.length : Int)) s = some (.inr b) ∧ Out b) := by
  obtain ⟨c, w, tw, t, i⟩ := s
  obtain ⟨hR, hT, h0, h1, h2⟩ := h
  simp only at hR hT h0 h1 h2
  have hf : F7.r3 (l, l, (l.length : Int)) (c, w, tw, t, i) = F7.r3P F19.f F20.f F21.f F22.f F23.f F24.f F13.f F25.f F26.f F27.f F7.l1 F7.l2 (l, l, (l.length : Int)) (c, w, tw, t, i) := rfl
  rw [hf]
  obtain ⟨now, r0, x0, r1, x1, r2, x2, r3, x3, m⟩ := c
  obtain ⟨now', b0, b1, b2, b3⟩ := w
  unfold F7.r3P
  have hs : ∀ x : CK, tw = some x → some (tw.getD (0, false, 0, false, 0, false, 0, false, 0, false)) = tw := fun x e => by rw [e]; rfl
  have hsame : (bif tw.isSome then some (tw.getD (0, false, 0, false, 0, false, 0, false, 0, false)) else none) = tw := by cases tw <;> rfl
  by_cases hi : i < l.length
  · have c1 : decide (0 ≤ i ∧ i < ((l.length : Nat) : Int) ∧ 0 < l.length) = true := by simp; omega
    have c2 : decide (0 + i.toNat < l.length) = true := by simp; omega
    have c3 : decide (i < ((l.length : Nat) : Int)) = true := by simpa using hi
    by_cases h60 : i = 60
    · right
      have c4 : (i == 60) = true := by simpa using h60
      refine ⟨((0, false, tw, t), (now, r0, x0, r1, x1, r2, x2, r3, x3, m), (now', b0, b1, b2, b3)), ?_, rfl, hT⟩
      cases tw <;> simp only [Option.isSome, Option.getD, c1, c2, c3, c4, cond_true, cond_false]
    · left
      have c4 : (i == 60) = false := by simpa using h60
      obtain ⟨tw', t', e1, hT'⟩ := copy_twin hR (i == IntKind.i64.wrap ((l.length : Int).tdiv 2)) tw t hT
      obtain ⟨c', w', e2, hR'⟩ := call_rel hR (l.getD (0 + i.toNat) (0, 0, 0)).fst (l.getD (0 + i.toNat) (0, 0, 0)).snd.fst (l.getD (0 + i.toNat) (0, 0, 0)).snd.snd (l.getD (0 + i.toNat) (0, 0, 0)).fst
      obtain ⟨n, e3, e4⟩ := next_rel hR'
      have hm' : c'.2.2.2.2.2.2.2.2.2 = true ∧ w'.1 = c'.1 := by
        obtain ⟨now, r0, x0, r1, x1, r2, x2, r3, x3, m⟩ := c'
        obtain ⟨now', b0, b1, b2, b3⟩ := w'
        exact ⟨hR'.1, hR'.2.1⟩
      have hw : IntKind.i64.wrap (i + 1) = i + 1 := wrap64_id (by omega)
      refine ⟨(c', w', tw', t', i + 1), ?_, ⟨hR', hT', by show 0 ≤ i + 1; omega, by show i + 1 ≤ (l.length : Int); omega, by show i + 1 ≤ 60; omega⟩, by show 61 - (i + 1).toNat < 61 - i.toNat; omega⟩
      cases tw <;> cases tw' <;> simp only [Option.isSome, Option.getD, c1, c2, c3, c4, cond_true, cond_false, e1, Option.bind_some, e2, e3, e4, hm'.1, hm'.2, Bool.not_true, Bool.not_false, bne_self_eq_false, beq_self_eq_true, hw]
  · right
    have c3 : decide (i < ((l.length : Nat) : Int)) = false := by simp; omega
    refine ⟨((0, false, tw, t), (now, r0, x0, r1, x1, r2, x2, r3, x3, m), (now', b0, b1, b2, b3)), ?_, rfl, hT⟩
    cases tw <;> simp only [Option.isSome, Option.getD, c3, cond_true, cond_false]
theorem plays (d : Int × List (Int × Int × Int)) (hw : wfD F7.i d) : ∃ q, F7.f d = some (true, q) := by
  obtain ⟨now, l⟩ := d
  have hl : l.length ≤ 9223372036854775807 := hw.2.1.1
  have hf : F7.f (now, l) = F7.fP F19.f F20.f F21.f F22.f F23.f F24.f F13.f F25.f F26.f F27.f F7.l3 (now, l) := rfl
  rw [hf]
  unfold F7.fP
  by_cases h0 : now < 0
  · exact ⟨(), by simp [h0]⟩
  by_cases h1 : now > 1099511627776
  · exact ⟨(), by simp [h0, h1]⟩
  have hI : Inv l.length ((now, false, 0, false, 0, false, 0, false, 0, true), (now, -1, -1, -1, -1), none, 0, 0) :=
    ⟨⟨rfl, rfl, by omega, by omega, R1.off, R1.off, R1.off, R1.off⟩, (fun x h => by cases h), Int.le_refl 0, by show (0 : Int) ≤ l.length; omega, by show (0 : Int) ≤ 60; omega⟩
  obtain ⟨r, e, h2, h3⟩ := iterO_inv (f := F7.r3 (l, l, (l.length : Int))) (Inv l.length) (fun s => 61 - s.2.2.2.2.toNat) Out (fun s h => round l hl s h) _ hI
  have e' : F7.l3 (l, l, (l.length : Int)) ((now, false, 0, false, 0, false, 0, false, 0, true), (now, -1, -1, -1, -1), none, 0, 0) = some r := e
  refine ⟨(), ?_⟩
  have c5 : (decide (0 + l.length ≤ l.length) && true) = true := by simp
  simp only [h0, h1, decide_false, cond_false, List.take_length, c5, cond_true, e', Option.bind_some, h2, decide_true]
  cases ht : r.1.2.2.1 with
  | none => simp only [Option.isSome, cond_false]
  | some x =>
    obtain ⟨g1, g2⟩ := h3 x ht
    simp only [Option.isSome, cond_true, Option.getD, g1, Bool.not_true, cond_false, g2, beq_self_eq_true]
end Go.Proofs.Ytemggodhikpmdaa.PC
