/- Chapter 13: what is asked in parts rings as asked at once. -/
import Derived.Test.YtemggodhikpmdaaPE
import Derived.Test.YtemggodhikpmdaaF3
import Derived.Test.YtemggodhikpmdaaZK
namespace Go.Proofs.Ytemggodhikpmdaa.PF
open Go Go.Proofs Go.Proofs.Ytemggodhikpmdaa.PA Go.Proofs.Ytemggodhikpmdaa.PB Go.Proofs.Ytemggodhikpmdaa.PD Go.Proofs.Ytemggodhikpmdaa.PE Go.Proofs.Ytemggodhikpmdaa.Sx
set_option linter.unusedSimpArgs false
set_option linter.unusedVariables false
theorem caps (a b c d : Int) : F3.l1 () ((a, b, c, d), 0) = some ((), (cap a, cap b, cap c, cap d)) := by
  show iterO (F3.r1 ()) _ = _
  rw [iterO_step (a' := ((cap a, b, c, d), 1)) rfl, iterO_step (a' := ((cap a, cap b, c, d), 2)) rfl, iterO_step (a' := ((cap a, cap b, cap c, d), 3)) rfl, iterO_step (a' := ((cap a, cap b, cap c, cap d), 4)) rfl]
  exact iterO_done rfl
theorem alike (l : List (Int × Bool × Int)) (hl : l.length ≤ 100) : ∃ b, F3.l2 (l, l, (l.length : Int)) 0 = some ((0, b), ()) := by
  have hs : ∀ i : Int, (0 ≤ i ∧ i ≤ l.length) → (∃ i', F3.r2 (l, l, (l.length : Int)) i = some (.inl i') ∧ (0 ≤ i' ∧ i' ≤ l.length) ∧ l.length - i'.toNat < l.length - i.toNat) ∨ (∃ b, F3.r2 (l, l, (l.length : Int)) i = some (.inr b) ∧ b.1.1 = 0) := by
    intro i hi
    have hf : F3.r2 (l, l, (l.length : Int)) i = F3.r2P F9.f F10.f (l, l, (l.length : Int)) i := rfl
    rw [hf]
    unfold F3.r2P
    by_cases h : i < l.length
    · left
      have c1 : decide (0 ≤ i ∧ i < ((l.length : Nat) : Int) ∧ 0 < l.length) = true := by simp; omega
      have c2 : decide (0 + i.toNat < l.length) = true := by simp; omega
      have c3 : decide (i < ((l.length : Nat) : Int)) = true := by simpa using h
      have hw : IntKind.i64.wrap (i + 1) = i + 1 := wrap64_id (by omega)
      refine ⟨i + 1, ?_, ⟨by omega, by omega⟩, by omega⟩
      simp only [c1, c2, c3, cond_true, beq_self_eq_true, Bool.and_self, Bool.not_true, cond_false, hw]
    · right
      have c3 : decide (i < ((l.length : Nat) : Int)) = false := by simp; omega
      exact ⟨((0, false), ()), by simp only [c3, cond_false], rfl⟩
  obtain ⟨r, e, h⟩ := iterO_inv (f := F3.r2 (l, l, (l.length : Int))) (fun i => 0 ≤ i ∧ i ≤ l.length) (fun i => l.length - i.toNat) (fun r => r.1.1 = 0) hs 0 ⟨Int.le_refl 0, by omega⟩
  obtain ⟨⟨r1, r2⟩, u⟩ := r
  simp only at h
  subst h
  exact ⟨r2, e⟩
theorem made {u : Int} {c : CK} {l : List (Int × Bool × Int)} {c' : CK} (h : Run u c l c') : Mn c' = Mn c := by
  induction h with
  | stop h => rw [h.same]; rfl
  | ring h _ ih => rw [ih, h.made]
theorem parts (d : Int × (Int × Int × Int × Int) × (Int × Int)) (hw : wfD F3.i d) : ∃ q, F3.f d = some (true, q) := by
  obtain ⟨now, ⟨l0, l1, l2, l3⟩, ⟨u0, u1⟩⟩ := d
  have hn : 0 ≤ now := hw.1.1
  have h0 : 0 ≤ u0 := hw.2.2.1.1.1
  have h1 : 0 ≤ u1 := hw.2.2.1.2.1.1
  have hf : F3.f (now, (l0, l1, l2, l3), (u0, u1)) = F3.fP F9.f F10.f F3.l1 F3.l2 (now, (l0, l1, l2, l3), (u0, u1)) := rfl
  rw [hf]
  unfold F3.fP
  obtain ⟨n1, n2, n3⟩ := tmod_in (n := now) (m := 1048576) hn (by decide) (by decide)
  obtain ⟨a1, a2, a3⟩ := tmod_in (n := u0) (m := 2097152) h0 (by decide) (by decide)
  obtain ⟨b1, b2, b3⟩ := tmod_in (n := u1) (m := 2097152) h1 (by decide) (by decide)
  simp only [n1, a1, b1, caps, Option.bind_some, f9 n2 n3 (cap_le l0) (cap_le l1) (cap_le l2) (cap_le l3), Option.isSome, Option.getD, cond_true]
  generalize now.tmod 1048576 = at_ at *
  generalize u0.tmod 2097152 = u at *
  generalize u1.tmod 2097152 = v at *
  have hl : (if v < u then v else u) ≤ (if v > u then v else u) := by split <;> split <;> omega
  generalize (if v < u then v else u) = lo at *
  generalize (if v > u then v else u) = hi at *
  have hm : Mn (st at_ (cap l0) (cap l1) (cap l2) (cap l3)) = true := rfl
  generalize st at_ (cap l0) (cap l1) (cap l2) (cap l3) = c at *
  obtain ⟨r1, c1, e1, g1, k1⟩ := f10 c hm lo
  obtain ⟨r2, c2, e2, g2, k2⟩ := f10 c1 ((made g1).trans hm) hi
  obtain ⟨r3, c3, e3, g3, k3⟩ := f10 c hm hi
  obtain ⟨rfl, rfl⟩ := Run.det g3 (Run.parts hl g1 g2)
  obtain ⟨b, e4⟩ := alike (r1 ++ r2) (by simp; omega)
  have hm2 : c3.2.2.2.2.2.2.2.2.2 = true := (made g3).trans hm
  have c5 : decide (r1.length + r2.length ≤ 1073741824) = true := by simp; omega
  have c6 : (((r1.length + r2.length : Nat) : Int) != (((r1 ++ r2).length : Nat) : Int)) = false := by simp
  have c7 : r1.length + r2.length = (r1 ++ r2).length := by simp
  have e5 : F3.l2 (r1 ++ r2, r1 ++ r2, (((r1 ++ r2).length : Nat) : Int)) (OfNat.ofNat 0) = some ((0, b), ()) := e4
  refine ⟨(), ?_⟩
  simp only [e1, e2, e3, Option.bind_some, Nat.zero_add, Nat.le_refl, decide_true, cond_true, List.drop_zero, List.take_length, c5, c6, cond_false, hm2, Bool.not_true, bne_self_eq_false]
  simp only [c7, List.take_length, Nat.le_refl, decide_true, Bool.and_self, cond_true, e5, Option.bind_some]
end Go.Proofs.Ytemggodhikpmdaa.PF
