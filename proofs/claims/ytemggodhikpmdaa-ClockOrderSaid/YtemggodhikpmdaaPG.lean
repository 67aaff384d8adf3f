/- Chapter 13: what rings, when, and in which order. -/
import Derived.Test.YtemggodhikpmdaaPE
import Derived.Test.YtemggodhikpmdaaPF
import Derived.Test.YtemggodhikpmdaaF4
import Derived.Test.YtemggodhikpmdaaZK
namespace Go.Proofs.Ytemggodhikpmdaa.PG
open Go Go.Proofs Go.Proofs.Ytemggodhikpmdaa.PA Go.Proofs.Ytemggodhikpmdaa.PB Go.Proofs.Ytemggodhikpmdaa.PD Go.Proofs.Ytemggodhikpmdaa.PE Go.Proofs.Ytemggodhikpmdaa.Sx
set_option linter.unusedSimpArgs false
set_option linter.unusedVariables false
theorem caps (a b c d : Int) : F4.l1 () ((a, b, c, d), 0) = some ((), (cap a, cap b, cap c, cap d)) := by
  show iterO (F4.r1 ()) _ = _
  rw [iterO_step (a' := ((cap a, b, c, d), 1)) rfl, iterO_step (a' := ((cap a, cap b, c, d), 2)) rfl, iterO_step (a' := ((cap a, cap b, cap c, d), 3)) rfl, iterO_step (a' := ((cap a, cap b, cap c, cap d), 4)) rfl]
  exact iterO_done rfl
theorem getD_at {α : Type} (l : List α) (d : α) {i : Nat} (h : i < l.length) : l.getD i d = l[i] := by rw [List.getD, List.getElem?_eq_getElem h]; rfl
theorem counted (at0 k m : Int) (got : List (Int × Bool × Int)) (hl : got.length ≤ 100) (h : ∀ x ∈ got, x.1 = k → x.2.2 = IntKind.i64.wrap (at0 + m)) :
    F4.l2 (at0, k, m, got, (got.length : Int)) (0, 0) = some ((0, false, ((got.countP (fun x => x.1 == k) : Nat) : Int)), ()) := by
  have hs : ∀ s : Int × Int, (0 ≤ s.2 ∧ s.2 ≤ got.length ∧ s.1 = (((got.take s.2.toNat).countP (fun x => x.1 == k) : Nat) : Int)) →
      (∃ s', F4.r2 (at0, k, m, got, (got.length : Int)) s = some (.inl s') ∧ (0 ≤ s'.2 ∧ s'.2 ≤ got.length ∧ s'.1 = (((got.take s'.2.toNat).countP (fun x => x.1 == k) : Nat) : Int)) ∧ got.length - s'.2.toNat < got.length - s.2.toNat) ∨
      (∃ b, F4.r2 (at0, k, m, got, (got.length : Int)) s = some (.inr b) ∧ b = ((0, false, ((got.countP (fun x => x.1 == k) : Nat) : Int)), ())) := by
    rintro ⟨many, i⟩ ⟨h0, h1, h2⟩
    simp only at h0 h1 h2
    have hf : F4.r2 (at0, k, m, got, (got.length : Int)) (many, i) = F4.r2P F9.f F10.f F13.f (at0, k, m, got, (got.length : Int)) (many, i) := rfl
    rw [hf]
    unfold F4.r2P
    by_cases hi : i < got.length
    · left
      have hn : i.toNat < got.length := by omega
      have c1 : decide (0 ≤ i ∧ i < ((got.length : Nat) : Int) ∧ 0 < got.length) = true := by simp; omega
      have c2 : decide (0 + i.toNat < got.length) = true := by simp; omega
      have c3 : decide (i < ((got.length : Nat) : Int)) = true := by simpa using hi
      have hw : IntKind.i64.wrap (i + 1) = i + 1 := wrap64_id (by omega)
      have hle : (got.take i.toNat).countP (fun x => x.1 == k) ≤ i.toNat := Nat.le_trans List.countP_le_length (by rw [List.length_take]; omega)
      have hm : IntKind.i64.wrap (many + 1) = many + 1 := wrap64_id (by omega)
      have e1 : got.getD (0 + i.toNat) (0, false, 0) = got[i.toNat] := by rw [Nat.zero_add]; exact getD_at got _ hn
      have e2 : got.take (i + 1).toNat = got.take i.toNat ++ [got[i.toNat]] := by
        rw [show (i + 1).toNat = i.toNat + 1 by omega]
        exact List.take_succ_eq_append_getElem hn
      have hx := h got[i.toNat] (List.getElem_mem hn)
      by_cases hk : got[i.toNat].1 = k
      · refine ⟨(many + 1, i + 1), ?_, ⟨by show 0 ≤ i + 1; omega, by show i + 1 ≤ _; omega, ?_⟩, by show _ - (i + 1).toNat < _ - i.toNat; omega⟩
        · have c4 : (got[i.toNat].1 == k) = true := by simpa using hk
          have c5 : (got[i.toNat].2.2 != IntKind.i64.wrap (at0 + m)) = false := by rw [hx hk]; simp
          simp only [c1, c2, c3, cond_true, e1, c4, c5, cond_false, hw, hm]
        · show many + 1 = _
          rw [e2, List.countP_append, h2]
          simp [hk]
      · refine ⟨(many, i + 1), ?_, ⟨by show 0 ≤ i + 1; omega, by show i + 1 ≤ _; omega, ?_⟩, by show _ - (i + 1).toNat < _ - i.toNat; omega⟩
        · have c4 : (got[i.toNat].1 == k) = false := by simpa using hk
          simp only [c1, c2, c3, cond_true, e1, c4, cond_false, hw]
        · show many = _
          rw [e2, List.countP_append, h2]
          simp [hk]
    · right
      have c3 : decide (i < ((got.length : Nat) : Int)) = false := by simp; omega
      refine ⟨((0, false, many), ()), by simp only [c3, cond_false], ?_⟩
      rw [h2, List.take_of_length_le (by omega)]
  obtain ⟨r, e, h⟩ := iterO_inv (f := F4.r2 (at0, k, m, got, (got.length : Int))) (fun s : Int × Int => 0 ≤ s.2 ∧ s.2 ≤ got.length ∧ s.1 = (((got.take s.2.toNat).countP (fun x => x.1 == k) : Nat) : Int)) (fun s => got.length - s.2.toNat) (fun b => b = ((0, false, ((got.countP (fun x => x.1 == k) : Nat) : Int)), ())) hs (0, 0) ⟨Int.le_refl 0, by show (0 : Int) ≤ got.length; omega, by simp⟩
  subst h
  exact e
theorem sorted (got : List (Int × Bool × Int)) (hl : got.length ≤ 100) (hp : got.Pairwise fun x y => x.2.2 < y.2.2 ∨ x.2.2 = y.2.2 ∧ x.1 < y.1) : ∃ b, F4.l4 got 1 = some ((0, b), ()) := by
  have hs : ∀ i : Int, 1 ≤ i → (∃ i', F4.r4 got i = some (.inl i') ∧ 1 ≤ i' ∧ got.length - i'.toNat < got.length - i.toNat) ∨ (∃ b, F4.r4 got i = some (.inr b) ∧ b.1.1 = 0) := by
    intro i h1
    have hf : F4.r4 got i = F4.r4P F9.f F10.f F13.f got i := rfl
    rw [hf]
    unfold F4.r4P
    by_cases hi : i < got.length
    · left
      have hn : i.toNat < got.length := by omega
      have hq : (i - 1).toNat < got.length := by omega
      have wp : IntKind.i64.wrap (i - 1) = i - 1 := wrap64_id (by omega)
      have wn : IntKind.i64.wrap (i + 1) = i + 1 := wrap64_id (by omega)
      have c0 : decide (0 ≤ i - 1 ∧ i - 1 < ((got.length : Nat) : Int) ∧ 0 < got.length) = true := by simp; omega
      have c1 : decide (0 ≤ i ∧ i < ((got.length : Nat) : Int) ∧ 0 < got.length) = true := by simp; omega
      have c2 : decide (0 + i.toNat < got.length) = true := by simp; omega
      have c4 : decide (0 + (i - 1).toNat < got.length) = true := by simp; omega
      have c3 : decide (i < ((got.length : Nat) : Int)) = true := by simpa using hi
      have e1 : got.getD (0 + i.toNat) (0, false, 0) = got[i.toNat] := by rw [Nat.zero_add]; exact getD_at got _ hn
      have e2 : got.getD (0 + (i - 1).toNat) (0, false, 0) = got[(i - 1).toNat] := by rw [Nat.zero_add]; exact getD_at got _ hq
      have hx := (List.pairwise_iff_getElem.1 hp) (i - 1).toNat i.toNat hq hn (by omega)
      refine ⟨i + 1, ?_, by omega, by omega⟩
      generalize got[i.toNat] = y at *
      generalize got[(i - 1).toNat] = x at *
      have c5 : decide (x.2.2 > y.2.2) = false := by simp; omega
      by_cases hb : x.2.2 = y.2.2
      · have c6 : (x.2.2 == y.2.2) = true := by simpa using hb
        have c7 : decide (x.1 ≥ y.1) = false := by simp; omega
        simp only [wp, wn, c0, c1, c2, c3, c4, e1, e2, c5, c6, c7, cond_true, cond_false]
      · have c6 : (x.2.2 == y.2.2) = false := by simpa using hb
        simp only [wp, wn, c0, c1, c2, c3, c4, e1, e2, c5, c6, cond_true, cond_false]
    · right
      have c3 : decide (i < ((got.length : Nat) : Int)) = false := by simp; omega
      exact ⟨((0, false), ()), by simp only [c3, cond_false], rfl⟩
  obtain ⟨r, e, h⟩ := iterO_inv (f := F4.r4 got) (fun i => 1 ≤ i) (fun i => got.length - i.toNat) (fun r => r.1.1 = 0) hs 1 (Int.le_refl 1)
  obtain ⟨⟨r1, r2⟩, u⟩ := r
  simp only at h
  subst h
  exact ⟨r2, e⟩
noncomputable def body (at0 end0 : Int) (got : List (Int × Bool × Int)) (m : Int) (c : CK) (k : Int) : Option ((CK × Int) ⊕ ((Int × Bool) × CK)) :=
          bif decide (0 + got.length ≤ got.length) && true then
            (F4.l2 (at0, k, m, List.take got.length got, (↑got.length : Int)) (0, 0)).bind fun r0 =>
              bif decide (r0.fst.fst = 0) then
                bif decide (m ≥ 0) then
                  (F13.f (c, k)).bind fun r1 =>
                    bif decide (r0.fst.snd.snd > 1) then some (Sum.inr ((1, false), r1.snd))
                    else
                      bif !(r0.fst.snd.snd == 1) == decide (IntKind.i64.wrap (at0 + m) ≤ end0) then
                        some (Sum.inr ((1, false), r1.snd))
                      else
                        bif decide (m ≥ 0) then
                          bif !r1.fst.snd == !decide (IntKind.i64.wrap (at0 + m) ≤ end0) then
                            some (Sum.inr ((1, false), r1.snd))
                          else
                            bif r1.fst.snd then
                              bif r1.fst.fst != IntKind.i64.wrap (IntKind.i64.wrap (at0 + m) - end0) then
                                some (Sum.inr ((1, false), r1.snd))
                              else some (Sum.inl (r1.snd, IntKind.i64.wrap (k + 1)))
                            else some (Sum.inl (r1.snd, IntKind.i64.wrap (k + 1)))
                        else
                          bif !r1.fst.snd == false then some (Sum.inr ((1, false), r1.snd))
                          else
                            bif r1.fst.snd then
                              bif r1.fst.fst != IntKind.i64.wrap (IntKind.i64.wrap (at0 + m) - end0) then
                                some (Sum.inr ((1, false), r1.snd))
                              else some (Sum.inl (r1.snd, IntKind.i64.wrap (k + 1)))
                            else some (Sum.inl (r1.snd, IntKind.i64.wrap (k + 1)))
                else
                  (F13.f (c, k)).bind fun r1 =>
                    bif decide (r0.fst.snd.snd > 1) then some (Sum.inr ((1, false), r1.snd))
                    else
                      bif !(r0.fst.snd.snd == 1) == false then some (Sum.inr ((1, false), r1.snd))
                      else
                        bif decide (m ≥ 0) then
                          bif !r1.fst.snd == true then some (Sum.inr ((1, false), r1.snd))
                          else
                            bif r1.fst.snd then
                              bif r1.fst.fst != IntKind.i64.wrap (IntKind.i64.wrap (at0 + m) - end0) then
                                some (Sum.inr ((1, false), r1.snd))
                              else some (Sum.inl (r1.snd, IntKind.i64.wrap (k + 1)))
                            else some (Sum.inl (r1.snd, IntKind.i64.wrap (k + 1)))
                        else
                          bif !r1.fst.snd == false then some (Sum.inr ((1, false), r1.snd))
                          else
                            bif r1.fst.snd then
                              bif r1.fst.fst != IntKind.i64.wrap (IntKind.i64.wrap (at0 + m) - end0) then
                                some (Sum.inr ((1, false), r1.snd))
                              else some (Sum.inl (r1.snd, IntKind.i64.wrap (k + 1)))
                            else some (Sum.inl (r1.snd, IntKind.i64.wrap (k + 1)))
              else
                bif decide (r0.fst.fst = 1) then
                  some (Sum.inr ((1, r0.fst.snd.fst), c))
                else none
          else none
theorem left_eq {c : CK} {t : Int} (h0 : 0 ≤ t) (h4 : t < 4) : left c t = ((if Rn c t = true then (IntKind.i64.wrap (An c t - c.1), true) else (0, false)), c) := by
  obtain ⟨now, r0, x0, r1, x1, r2, x2, r3, x3, m⟩ := c
  unfold left
  simp only
  by_cases h : at4 t r0 r1 r2 r3 = false
  · rw [if_pos (.inr (.inr h)), if_neg (by show ¬ at4 t r0 r1 r2 r3 = true; rw [h]; simp)]
  · rw [if_neg (by rintro (e | e | e) <;> first | omega | exact h e), if_pos (by show at4 t r0 r1 r2 r3 = true; simpa using h)]
    rfl
theorem f13' {c : CK} (hm : Mn c = true) {t : Int} (h0 : 0 ≤ t) (h4 : t < 4) : F13.f (c, t) = some ((if Rn c t = true then (IntKind.i64.wrap (An c t - c.1), true) else (0, false)), c) := by
  rw [← left_eq h0 h4]
  obtain ⟨now, r0, x0, r1, x1, r2, x2, r3, x3, m⟩ := c
  have : m = true := hm
  subst this
  exact f13 ..
theorem one {at0 u : Int} (ha : 0 ≤ at0) (hb : at0 < 1048576) (hu : u ≤ 1099511627776) {c c' : CK} {got : List (Int × Bool × Int)} (t : PD.Told u c got c') (hn : c.1 = at0) (hM : Mn c = true) (hl : got.length ≤ 4) {k m : Int} (h0 : 0 ≤ k) (h4 : k < 4) (hm : m ≤ 1048576)
    (hr : Rn c k = decide (m ≥ 0)) (hA : An c k = on at0 m) : body at0 (mx at0 u) got m c' k = some (.inl (c', k + 1)) := by
  have hw : IntKind.i64.wrap (k + 1) = k + 1 := wrap64_id (by omega)
  have hE : c'.1 = mx at0 u := by rw [t.now, hn]
  have hc := counted at0 k m got (by omega) fun x hx hk => by
    obtain ⟨_, _, g1, g2, _⟩ := t.each x hx
    rw [hk] at g1 g2
    rw [hr] at g1
    have hp : m ≥ 0 := by simpa using g1
    rw [g2, hA, on, if_pos hp, wrap64_id (by omega)]
  have hmany := t.many k h0 h4
  have hrest := t.rest k h0 h4
  rw [hn] at hmany hrest
  rw [hmany] at hc
  unfold body
  have f := f13' (c := c') (t.made.trans hM) h0 h4
  rw [hE] at f
  simp only [Nat.zero_add, Nat.le_refl, decide_true, Bool.and_self, cond_true, List.take_length, hc, Option.bind_some, f]
  by_cases hp : m ≥ 0
  · have hon : on at0 m = at0 + m := by rw [on, if_pos hp]
    have hwm : IntKind.i64.wrap (at0 + m) = at0 + m := wrap64_id (by omega)
    have hr' : Rn c k = true := by rw [hr]; simpa using hp
    have d1 : decide (m ≥ 0) = true := by simpa using hp
    by_cases hd : at0 + m ≤ mx at0 u
    · have e1 : Rn c' k = false := by rw [hrest.1, hA, hon, hr']; simp; exact hd
      simp [e1, hr', hA, hon, hd, d1, hp, hwm, hw]
    · have e1 : Rn c' k = true := by rw [hrest.1, hA, hon, hr']; simp; omega
      have e2 : An c' k = at0 + m := by rw [hrest.2 e1, hA, hon]
      simp [e1, e2, hr', hA, hon, hd, d1, hp, hwm, hw]
  · have hr' : Rn c k = false := by rw [hr]; simpa using hp
    have e1 : Rn c' k = false := by rw [hrest.1, hr']; rfl
    simp [e1, hr', hp, hw]
theorem order (d : Int × (Int × Int × Int × Int) × Int) (hw : wfD F4.i d) : ∃ q, F4.f d = some (true, q) := by
  obtain ⟨now, ⟨l0, l1, l2, l3⟩, u0⟩ := d
  have hn : 0 ≤ now := hw.1.1
  have h0 : 0 ≤ u0 := hw.2.2.1.1
  have hf : F4.f (now, (l0, l1, l2, l3), u0) = F4.fP F9.f F10.f F13.f F4.l1 F4.l3 F4.l4 (now, (l0, l1, l2, l3), u0) := rfl
  rw [hf]
  unfold F4.fP
  obtain ⟨n1, n2, n3⟩ := tmod_in (n := now) (m := 1048576) hn (by decide) (by decide)
  obtain ⟨a1, a2, a3⟩ := tmod_in (n := u0) (m := 2097152) h0 (by decide) (by decide)
  simp only [n1, a1, caps, Option.bind_some, f9 n2 n3 (cap_le l0) (cap_le l1) (cap_le l2) (cap_le l3), Option.isSome, Option.getD, cond_true]
  generalize now.tmod 1048576 = a at *
  generalize u0.tmod 2097152 = u at *
  obtain ⟨got, c', e, g, hl⟩ := f10 (st a (cap l0) (cap l1) (cap l2) (cap l3)) rfl u
  have t := g.told (show u ≤ 1099511627776 by omega) (fun j h0 h4 hj => by
    have : j = 0 ∨ j = 1 ∨ j = 2 ∨ j = 3 := by omega
    rcases this with rfl | rfl | rfl | rfl
    · have hj : decide (cap l0 ≥ 0) = true := hj
      show a ≤ on a (cap l0)
      rw [on, if_pos (by simpa using hj)]; have : cap l0 ≥ 0 := by simpa using hj
      omega
    · have hj : decide (cap l1 ≥ 0) = true := hj
      show a ≤ on a (cap l1)
      rw [on, if_pos (by simpa using hj)]; have : cap l1 ≥ 0 := by simpa using hj
      omega
    · have hj : decide (cap l2 ≥ 0) = true := hj
      show a ≤ on a (cap l2)
      rw [on, if_pos (by simpa using hj)]; have : cap l2 ≥ 0 := by simpa using hj
      omega
    · have hj : decide (cap l3 ≥ 0) = true := hj
      show a ≤ on a (cap l3)
      rw [on, if_pos (by simpa using hj)]; have : cap l3 ≥ 0 := by simpa using hj
      omega)
  have s0 := one (m := cap l0) n2 n3 (show u ≤ 1099511627776 by omega) t rfl rfl hl (k := 0) (by decide) (by decide) (cap_le l0) rfl rfl
  have s1 := one (m := cap l1) n2 n3 (show u ≤ 1099511627776 by omega) t rfl rfl hl (k := 1) (by decide) (by decide) (cap_le l1) rfl rfl
  have s2 := one (m := cap l2) n2 n3 (show u ≤ 1099511627776 by omega) t rfl rfl hl (k := 2) (by decide) (by decide) (cap_le l2) rfl rfl
  have s3 := one (m := cap l3) n2 n3 (show u ≤ 1099511627776 by omega) t rfl rfl hl (k := 3) (by decide) (by decide) (cap_le l3) rfl rfl
  have loop : F4.l3 (a, mx a u, got, (cap l0, cap l1, cap l2, cap l3)) (c', 0) = some ((0, false), c') := by
    show iterO (F4.r3 (a, mx a u, got, (cap l0, cap l1, cap l2, cap l3))) _ = _
    have r0 : F4.r3 (a, mx a u, got, (cap l0, cap l1, cap l2, cap l3)) (c', 0) = some (.inl (c', 1)) := s0
    have r1 : F4.r3 (a, mx a u, got, (cap l0, cap l1, cap l2, cap l3)) (c', 1) = some (.inl (c', 2)) := s1
    have r2 : F4.r3 (a, mx a u, got, (cap l0, cap l1, cap l2, cap l3)) (c', 2) = some (.inl (c', 3)) := s2
    have r3 : F4.r3 (a, mx a u, got, (cap l0, cap l1, cap l2, cap l3)) (c', 3) = some (.inl (c', 4)) := s3
    rw [iterO_step r0, iterO_step r1, iterO_step r2, iterO_step r3]
    exact iterO_done rfl
  obtain ⟨b, e4⟩ := sorted got (by omega) t.order
  have e4' : F4.l4 got (OfNat.ofNat 1) = some ((0, b), ()) := e4
  have hE : c'.1 = mx a u := t.now
  have hm2 : c'.2.2.2.2.2.2.2.2.2 = true := t.made
  have hmx : (if a > u then a else u) = mx a u := rfl
  refine ⟨(), ?_⟩
  simp only [hmx, e, Option.bind_some, Nat.zero_add, Nat.le_refl, decide_true, Bool.and_self, cond_true, List.drop_zero, List.take_length, loop, e4', hm2, Bool.not_true, cond_false, hE, beq_self_eq_true]
end Go.Proofs.Ytemggodhikpmdaa.PG
