/- Chapter 29: links apart. -/
import Derived.Test.YteoiaihjapddoaaPJ
import Derived.Test.YteoiaihjapddoaaPD
namespace Go.Proofs.Yteoiaihjapddoaa.PK
open Go Go.Proofs Go.Proofs.Yteoiaihjapddoaa.Sx Go.Proofs.Yteoiaihjapddoaa.PH Go.Proofs.Yteoiaihjapddoaa.PI Go.Proofs.Yteoiaihjapddoaa.PJ
set_option linter.unusedSimpArgs false
set_option linter.unusedVariables false
theorem same {ls : List Lk} {k : Int} {x : Lk} (h : At ls k x) : ls.set (0 + k.toNat) x = ls := by
  have hl : 0 + k.toNat < ls.length := by have := h.len; have := h.k4; have := h.k0; omega
  have g := h.get
  rw [List.getD, List.getElem?_eq_getElem hl] at g
  have g' : ls[0 + k.toNat] = x := g
  rw [← g', List.set_getElem_self]
theorem cmp {all own : List Lk} {k : Int} {x : Lk} (hA : At all k x) (hO : At own k x) (a0 a1 a2 a3 : Int) (a4 g0 g1 : List Int) (hg : a1 = k → g0 = g1) :
    F4.l2 (k, (a0, a1, a2, a3, a4), (g0, g1)) ((all, true), (own, true)) = some ((0, false), (all, true), (own, true)) := by
  obtain ⟨up, t, q0, q1⟩ := x
  have A0 := f12a hA; have A1 := f12b hA; have A2 := f17 hA; have A3 := f18 hA
  have O0 := f12a hO; have O1 := f12b hO; have O2 := f17 hO; have O3 := f18 hO
  rw [same hA] at A0 A1 A2 A3
  rw [same hO] at O0 O1 O2 O3
  show F4.r2P F9.f F10.f F15.f F11.f F13.f F16.f F12.f F17.f F18.f (k, (a0, a1, a2, a3, a4), (g0, g1)) ((all, true), (own, true)) = _
  unfold F4.r2P
  by_cases e : a1 = k
  · have := hg e
    subst this
    subst e
    simp only [beq_self_eq_true, cond_true, cond_false, le_all, List.take_length, Bool.and_true, PD.eqb, Option.bind_some, Bool.not_true, A0, A1, A2, A3, O0, O1, O2, O3, bne_self_eq_false]
  · simp only [beq_eq_false_iff_ne.2 e, beq_self_eq_true, cond_true, cond_false, le_all, List.take_length, Bool.and_true, Option.bind_some, Bool.not_true, A0, A1, A2, A3, O0, O1, O2, O3, bne_self_eq_false]
abbrev Act := Int × Int × Int × Int × List Int
theorem linkOk (x : Int) : 0 ≤ IntKind.i64.wrap ((IntKind.u64.wrap x).tmod 4) ∧ IntKind.i64.wrap ((IntKind.u64.wrap x).tmod 4) < 4 := by
  have hu : 0 ≤ IntKind.u64.wrap x := by rw [IntKind.wrap_u64]; omega
  rw [IntWalk.rem_in _ _ hu, IntWalk.i64_in _ (by omega)]
  omega
def Inv (k : Int) (n : Nat) (z : (List Lk × Bool) × (List Lk × Bool) × Int) : Prop :=
  ∃ all own, ∃ i : Nat, z = ((all, true), (own, true), (i : Int)) ∧ i ≤ 80 ∧ i ≤ n ∧ all.length = 4 ∧ own.length = 4 ∧ (∃ x, At all k x ∧ At own k x ∧ Well x i) ∧ ∀ j, 0 ≤ j → j < 4 → j ≠ k → ∃ x, At all j x ∧ Well x i
theorem cast1 (i : Nat) : ((i + 1 : Nat) : Int) = (i : Int) + 1 := by omega
theorem round (k : Int) (hk : 0 ≤ k ∧ k < 4) (l : List Act) (z : (List Lk × Bool) × (List Lk × Bool) × Int) (h : Inv k l.length z) :
    (∃ z', F4.r3 (k, l, (l.length : Int)) z = some (.inl z') ∧ Inv k l.length z' ∧ 80 - z'.2.2.toNat < 80 - z.2.2.toNat) ∨
    (∃ b, F4.r3 (k, l, (l.length : Int)) z = some (.inr b) ∧ b.1.1 = 0 ∧ b.2.1.1.length = 4 ∧ b.2.2.1.length = 4) := by
  obtain ⟨all, own, i, rfl, i8, il, hal, hol, ⟨x, hA, hO, wx⟩, ho⟩ := h
  have hf : F4.r3 (k, l, (l.length : Int)) ((all, true), (own, true), (i : Int)) = F4.r3P F9.f F10.f F15.f F11.f F13.f F16.f F12.f F17.f F18.f F4.l1 F4.l2 (k, l, (l.length : Int)) ((all, true), (own, true), (i : Int)) := rfl
  rw [hf]
  unfold F4.r3P
  dsimp only
  by_cases c0 : (i : Int) < (l.length : Int)
  case neg => exact .inr ⟨_, by rw [decide_eq_false c0]; rfl, rfl, hal, hol⟩
  have d1 : decide ((0 : Int) ≤ (i : Int) ∧ (i : Int) < (l.length : Int) ∧ (0 : Nat) < l.length) = true := decide_eq_true (by omega)
  have d2 : decide ((0 : Nat) + (i : Int).toNat < l.length) = true := decide_eq_true (by omega)
  rw [decide_eq_true c0, d1, d2]
  simp only [cond_true]
  by_cases c8 : (i : Int) = 80
  · exact .inr ⟨_, by rw [show ((i : Int) == 80) = true by simpa using c8]; rfl, rfl, hal, hol⟩
  rw [show ((i : Int) == 80) = false by simpa using c8]
  simp only [cond_false]
  left
  generalize hx : l.getD ((0 : Nat) + (i : Int).toNat) ((0 : Int), (0 : Int), (0 : Int), (0 : Int), []) = a
  obtain ⟨a0, a1, a2, m, a4⟩ := a
  simp only [Option.getD_some]
  generalize hq : (if (300 : Int) < (a4.length : Int) then (300 : Int) else (a4.length : Int)) = q
  have hqq : 0 ≤ q ∧ q ≤ a4.length ∧ q ≤ 300 := by rw [← hq]; split <;> omega
  have e1 : decide ((0 : Int) ≤ q ∧ q ≤ (a4.length : Int) ∧ 0 + a4.length ≤ a4.length) = true := decide_eq_true (by omega)
  have e3 : decide ((0 : Nat) + q.toNat ≤ a4.length) = true := decide_eq_true (by omega)
  have lk := linkOk a1
  generalize IntKind.i64.wrap ((IntKind.u64.wrap a1).tmod 4) = j at lk ⊢
  have wi : IntKind.i64.wrap ((i : Int) + 1) = ((i + 1 : Nat) : Int) := by rw [IntWalk.i64_in _ (by omega)]; omega
  have hb : (List.take q.toNat (List.drop 0 a4)).length ≤ 300 := by rw [List.drop_zero, List.length_take]; omega
  rw [e1]
  simp only [e3, le_all, Bool.and_true, cond_true, take_all, wi]
  generalize List.take q.toNat (List.drop 0 a4) = b at hb ⊢
  by_cases hj : j = k
  · subst hj
    obtain ⟨got, y, wy, lg, D⟩ := does wx (by omega) a0 a2 m hb
    have D0 := D all j a0 a4 0 [] [] hA (.inl rfl) (by simp) (by simp)
    simp only [↓reduceIte] at D0
    have K : (j != j) = false := by simp
    simp only [D0, Option.bind_some, K, cond_false]
    by_cases w6 : a0 = 6 ∨ a0 = 7 ∨ a0 = 8
    · have D1 := D own j a0 a4 1 got [] hO (.inr rfl) lg (by simp)
      simp only [if_pos w6, if_neg (show ¬ (1 : Int) = 0 by decide), if_pos (show 1 ≤ a0 ∧ a0 ≤ 8 by omega)] at D1 ⊢
      simp only [D1, Option.bind_some, cmp (put hA y) (put hO y) a0 j a2 m a4 got got (fun _ => rfl), decide_true, cond_true]
      exact ⟨_, rfl, ⟨_, _, i + 1, rfl, by omega, by omega, by rw [List.length_set]; exact hal, by rw [List.length_set]; exact hol, ⟨y, put hA y, put hO y, by rw [cast1]; exact wy⟩,
        fun u u0 u4 un => by obtain ⟨z, hz, wz⟩ := ho u u0 u4 un; exact ⟨z, other hA hz un y, by rw [cast1]; exact wz.more⟩⟩, by show 80 - ((i + 1 : Nat) : Int).toNat < 80 - (i : Int).toNat; omega⟩
    · have D1 := D own j a0 a4 1 [] [] hO (.inr rfl) (by simp) (by simp)
      simp only [if_neg w6] at D1 ⊢
      by_cases w1 : 1 ≤ a0 ∧ a0 ≤ 8
      · simp only [if_pos w1] at D1 ⊢
        simp only [D1, Option.bind_some, cmp (put hA y) (put hO y) a0 j a2 m a4 [] [] (fun _ => rfl), decide_true, cond_true]
        exact ⟨_, rfl, ⟨_, _, i + 1, rfl, by omega, by omega, by rw [List.length_set]; exact hal, by rw [List.length_set]; exact hol, ⟨y, put hA y, put hO y, by rw [cast1]; exact wy⟩,
          fun u u0 u4 un => by obtain ⟨z, hz, wz⟩ := ho u u0 u4 un; exact ⟨z, other hA hz un y, by rw [cast1]; exact wz.more⟩⟩, by show 80 - ((i + 1 : Nat) : Int).toNat < 80 - (i : Int).toNat; omega⟩
      · simp only [if_neg w1] at D1 ⊢
        simp only [D1, Option.bind_some, cmp hA hO a0 j a2 m a4 [] [] (fun _ => rfl), decide_true, cond_true]
        exact ⟨_, rfl, ⟨_, _, i + 1, rfl, by omega, by omega, hal, hol, ⟨x, hA, hO, by rw [cast1]; exact wx.more⟩,
          fun u u0 u4 un => by obtain ⟨z, hz, wz⟩ := ho u u0 u4 un; exact ⟨z, hz, by rw [cast1]; exact wz.more⟩⟩, by show 80 - ((i + 1 : Nat) : Int).toNat < 80 - (i : Int).toNat; omega⟩
  · obtain ⟨v, hv, wv⟩ := ho j lk.1 lk.2 hj
    obtain ⟨got, y, wy, lg, D⟩ := does wv (by omega) a0 a2 m hb
    have D0 := D all j a0 a4 0 [] [] hv (.inl rfl) (by simp) (by simp)
    simp only [↓reduceIte] at D0
    have K : (j != k) = true := by simpa using hj
    simp only [D0, Option.bind_some, K, cond_true]
    have hA' : At (if 1 ≤ a0 ∧ a0 ≤ 8 then all.set (0 + j.toNat) y else all) k x := by
      split
      · exact other hv hA (fun q => hj q.symm) y
      · exact hA
    have ho' : ∀ u, 0 ≤ u → u < 4 → u ≠ k → ∃ z, At (if 1 ≤ a0 ∧ a0 ≤ 8 then all.set (0 + j.toNat) y else all) u z ∧ Well z ((i : Int) + 1) := fun u u0 u4 un => by
      split
      · by_cases uj : u = j
        · subst uj; exact ⟨y, put hv y, wy⟩
        · obtain ⟨z, hz, wz⟩ := ho u u0 u4 un; exact ⟨z, other hv hz uj y, wz.more⟩
      · obtain ⟨z, hz, wz⟩ := ho u u0 u4 un; exact ⟨z, hz, wz.more⟩
    have hal' : (if 1 ≤ a0 ∧ a0 ≤ 8 then all.set (0 + j.toNat) y else all).length = 4 := hA'.len
    generalize (if 1 ≤ a0 ∧ a0 ≤ 8 then all.set (0 + j.toNat) y else all) = all' at *
    generalize (if a0 = 6 ∨ a0 = 7 ∨ a0 = 8 then (got, ([] : List Int)) else ([], [])) = g
    obtain ⟨g0, g1⟩ := g
    simp only [cmp hA' hO a0 j a2 m a4 g0 g1 (fun q => absurd q hj), Option.bind_some, decide_true, cond_true]
    exact ⟨_, rfl, ⟨_, _, i + 1, rfl, by omega, by omega, hal', hol, ⟨x, hA', hO, by rw [cast1]; exact wx.more⟩, fun u u0 u4 un => by rw [cast1]; exact ho' u u0 u4 un⟩, by show 80 - ((i + 1 : Nat) : Int).toNat < 80 - (i : Int).toNat; omega⟩
end Go.Proofs.Yteoiaihjapddoaa.PK
