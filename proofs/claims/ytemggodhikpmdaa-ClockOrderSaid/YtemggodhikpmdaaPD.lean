/- Chapter 13: a clock that is asked again and again up to one time. -/
import Derived.Test.YtemggodhikpmdaaPB
namespace Go.Proofs.Ytemggodhikpmdaa.PD
open Go Go.Proofs Go.Proofs.Ytemggodhikpmdaa.PA Go.Proofs.Ytemggodhikpmdaa.PB
set_option linter.unusedSimpArgs false
set_option linter.unusedVariables false
def Rn (c : CK) (k : Int) : Bool := at4 k c.2.1 c.2.2.2.1 c.2.2.2.2.2.1 c.2.2.2.2.2.2.2.1
def An (c : CK) (k : Int) : Int := at4 k c.2.2.1 c.2.2.2.2.1 c.2.2.2.2.2.2.1 c.2.2.2.2.2.2.2.2.1
def Mn (c : CK) : Bool := c.2.2.2.2.2.2.2.2.2
def mx (a b : Int) : Int := if a > b then a else b
theorem sel_lex (r : Bool) (a k : Int) (x : Int × Int × Bool) (hx : x.2.2 = true → x.1 < k) :
    ((sel r a k x).2.2 = true → (sel r a k x).1 ≤ k) ∧ (r = true → (sel r a k x).2.2 = true ∧ ((sel r a k x).2.1 < a ∨ (sel r a k x).2.1 = a ∧ (sel r a k x).1 ≤ k)) ∧
    (∀ b j, x.2.2 = true ∧ (x.2.1 < b ∨ x.2.1 = b ∧ x.1 ≤ j) → (sel r a k x).2.2 = true ∧ ((sel r a k x).2.1 < b ∨ (sel r a k x).2.1 = b ∧ (sel r a k x).1 ≤ j)) := by
  unfold sel
  cases r with
  | false => simp; intro h; have := hx h; omega
  | true =>
    by_cases h : (!x.2.2 || decide (a < x.2.1)) = true
    · rw [if_pos (by simpa using h)]
      refine ⟨fun _ => Int.le_refl _, fun _ => ⟨rfl, .inr ⟨rfl, Int.le_refl _⟩⟩, fun b j hb => ⟨rfl, ?_⟩⟩
      simp [hb.1] at h
      show a < b ∨ a = b ∧ k ≤ j
      omega
    · rw [if_neg (by simpa using h)]
      simp at h
      refine ⟨fun e => by have := hx e; omega, fun _ => ⟨h.1, ?_⟩, fun b j hb => hb⟩
      have := hx h.1
      omega
theorem nx_lex (r0 r1 r2 r3 : Bool) (a0 a1 a2 a3 : Int) (n : Int × Int × Bool) (hn : nx r0 r1 r2 r3 a0 a1 a2 a3 = n) :
    (n.2.2 = true → 0 ≤ n.1 ∧ n.1 < 4 ∧ at4 n.1 r0 r1 r2 r3 = true ∧ at4 n.1 a0 a1 a2 a3 = n.2.1) ∧
    (∀ j, 0 ≤ j → j < 4 → at4 j r0 r1 r2 r3 = true → n.2.2 = true ∧ (n.2.1 < at4 j a0 a1 a2 a3 ∨ n.2.1 = at4 j a0 a1 a2 a3 ∧ n.1 ≤ j)) := by
  constructor
  · intro h
    rcases (nx_spec r0 r1 r2 r3 a0 a1 a2 a3 n hn).1 h with ⟨e, hr, ea⟩ | ⟨e, hr, ea⟩ | ⟨e, hr, ea⟩ | ⟨e, hr, ea⟩ <;> rw [e, ea] <;> exact ⟨by omega, by omega, hr, rfl⟩
  · subst hn
    unfold nx
    have s0 := sel_lex r0 a0 0 (0, 0, false) (fun h => by cases h)
    generalize sel r0 a0 0 (0, 0, false) = x0 at *
    have s1 := sel_lex r1 a1 1 x0 (fun h => by have := s0.1 h; omega)
    generalize sel r1 a1 1 x0 = x1 at *
    have s2 := sel_lex r2 a2 2 x1 (fun h => by have := s1.1 h; omega)
    generalize sel r2 a2 2 x1 = x2 at *
    have s3 := sel_lex r3 a3 3 x2 (fun h => by have := s2.1 h; omega)
    generalize sel r3 a3 3 x2 = x3 at *
    intro j h0 h4 hr
    have : j = 0 ∨ j = 1 ∨ j = 2 ∨ j = 3 := by omega
    rcases this with rfl | rfl | rfl | rfl
    · exact s3.2.2 _ _ (s2.2.2 _ _ (s1.2.2 _ _ (s0.2.1 hr)))
    · exact s3.2.2 _ _ (s2.2.2 _ _ (s1.2.1 hr))
    · exact s3.2.2 _ _ (s2.2.1 hr)
    · exact s3.2.1 hr
structure Rings (c : CK) (u k : Int) (c1 : CK) : Prop where
  is : go c u = ((k, true), c1)
  k0 : 0 ≤ k
  k4 : k < 4
  runs : Rn c k = true
  now : c1.1 = An c k
  due : An c k ≤ mx c.1 u
  first : ∀ j, 0 ≤ j → j < 4 → Rn c j = true → An c k < An c j ∨ (An c k = An c j ∧ k ≤ j)
  rest : ∀ j, 0 ≤ j → j < 4 → Rn c1 j = (Rn c j && j != k) ∧ (j ≠ k → An c1 j = An c j)
  made : Mn c1 = Mn c
structure Rests (c : CK) (u : Int) (c1 : CK) : Prop where
  is : go c u = ((0, false), c1)
  same : c1 = (lim c.1 u, c.2)
  none : ∀ j, 0 ≤ j → j < 4 → Rn c j = true → mx c.1 u < An c j
theorem go_cases (c : CK) (u : Int) : (∃ k c1, Rings c u k c1) ∨ Rests c u (lim c.1 u, c.2) := by
  obtain ⟨now, r0, a0, r1, a1, r2, a2, r3, a3, m⟩ := c
  obtain ⟨s1, s2⟩ := nx_lex r0 r1 r2 r3 a0 a1 a2 a3 _ rfl
  by_cases hx : (nx r0 r1 r2 r3 a0 a1 a2 a3).2.2 = true ∧ (nx r0 r1 r2 r3 a0 a1 a2 a3).2.1 ≤ (if now > u then now else u)
  · left
    obtain ⟨k0, k4, hr, ha⟩ := s1 hx.1
    refine ⟨(nx r0 r1 r2 r3 a0 a1 a2 a3).1, (go (now, r0, a0, r1, a1, r2, a2, r3, a3, m) u).2, by unfold go; simp only; rw [if_pos hx], k0, k4, hr, by unfold go; simp only; rw [if_pos hx]; exact ha.symm, ?_, ?_, ?_, by unfold go; simp only; rw [if_pos hx]; rfl⟩
    · show at4 _ a0 a1 a2 a3 ≤ _
      rw [ha]; exact hx.2
    · intro j h0 h4 hj
      show at4 _ a0 a1 a2 a3 < at4 j a0 a1 a2 a3 ∨ _
      rw [ha]
      have := (s2 j h0 h4 hj).2
      rcases this with h | h
      · exact .inl h
      · refine .inr ⟨?_, h.2⟩
        show at4 _ a0 a1 a2 a3 = at4 j a0 a1 a2 a3
        rw [ha]; exact h.1
    · have hg : (go (now, r0, a0, r1, a1, r2, a2, r3, a3, m) u).2 = ((nx r0 r1 r2 r3 a0 a1 a2 a3).2.1, r0 && (nx r0 r1 r2 r3 a0 a1 a2 a3).1 != 0, (if (nx r0 r1 r2 r3 a0 a1 a2 a3).1 = 0 then 0 else a0), r1 && (nx r0 r1 r2 r3 a0 a1 a2 a3).1 != 1, (if (nx r0 r1 r2 r3 a0 a1 a2 a3).1 = 1 then 0 else a1), r2 && (nx r0 r1 r2 r3 a0 a1 a2 a3).1 != 2, (if (nx r0 r1 r2 r3 a0 a1 a2 a3).1 = 2 then 0 else a2), r3 && (nx r0 r1 r2 r3 a0 a1 a2 a3).1 != 3, (if (nx r0 r1 r2 r3 a0 a1 a2 a3).1 = 3 then 0 else a3), m) := by
        unfold go; simp only; rw [if_pos hx]
      rw [hg]
      intro j h0 h4
      generalize (nx r0 r1 r2 r3 a0 a1 a2 a3).1 = k at *
      have : j = 0 ∨ j = 1 ∨ j = 2 ∨ j = 3 := by omega
      have hb : ∀ a b : Int, (a != b) = (b != a) := fun a b => by rw [bne_comm]
      rcases this with rfl | rfl | rfl | rfl
      · refine ⟨?_, fun hne => ?_⟩
        · show (r0 && k != 0) = (r0 && 0 != k); rw [hb]
        · show (if k = 0 then 0 else a0) = a0; rw [if_neg (fun e => hne e.symm)]
      · refine ⟨?_, fun hne => ?_⟩
        · show (r1 && k != 1) = (r1 && 1 != k); rw [hb]
        · show (if k = 1 then 0 else a1) = a1; rw [if_neg (fun e => hne e.symm)]
      · refine ⟨?_, fun hne => ?_⟩
        · show (r2 && k != 2) = (r2 && 2 != k); rw [hb]
        · show (if k = 2 then 0 else a2) = a2; rw [if_neg (fun e => hne e.symm)]
      · refine ⟨?_, fun hne => ?_⟩
        · show (r3 && k != 3) = (r3 && 3 != k); rw [hb]
        · show (if k = 3 then 0 else a3) = a3; rw [if_neg (fun e => hne e.symm)]
  · right
    refine ⟨by unfold go; simp only; rw [if_neg hx], rfl, fun j h0 h4 hj => ?_⟩
    have h := s2 j h0 h4 hj
    have h1 : ¬ (nx r0 r1 r2 r3 a0 a1 a2 a3).2.1 ≤ (if now > u then now else u) := fun e => hx ⟨h.1, e⟩
    show (if now > u then now else u) < at4 j a0 a1 a2 a3
    omega
theorem go_mono {c c1 : CK} {lo hi k : Int} (h : go c lo = ((k, true), c1)) (hl : lo ≤ hi) : go c hi = ((k, true), c1) := by
  obtain ⟨now, r0, a0, r1, a1, r2, a2, r3, a3, m⟩ := c
  unfold go at h ⊢
  simp only at h ⊢
  by_cases hx : (nx r0 r1 r2 r3 a0 a1 a2 a3).2.2 = true ∧ (nx r0 r1 r2 r3 a0 a1 a2 a3).2.1 ≤ (if now > lo then now else lo)
  · rw [if_pos hx] at h
    have h2 : (nx r0 r1 r2 r3 a0 a1 a2 a3).2.1 ≤ (if now > hi then now else hi) := by
      have := hx.2
      split at this <;> split <;> omega
    rw [if_pos ⟨hx.1, h2⟩]
    exact h
  · rw [if_neg hx] at h
    cases h
theorem go_after (c : CK) {lo hi : Int} (hl : lo ≤ hi) : go (lim c.1 lo, c.2) hi = go c hi := by
  obtain ⟨now, r0, a0, r1, a1, r2, a2, r3, a3, m⟩ := c
  unfold go
  simp only
  have e1 : (if lim now lo > hi then lim now lo else hi) = (if now > hi then now else hi) := by
    rw [lim_eq]; repeat' split
    all_goals omega
  have e2 : lim (lim now lo) hi = lim now hi := by
    rw [lim_eq, lim_eq, lim_eq]; repeat' split
    all_goals omega
  rw [e1, e2]
inductive Run (u : Int) : CK → List (Int × Bool × Int) → CK → Prop
  | stop {c c1} : Rests c u c1 → Run u c [] c1
  | ring {c c1 k l c'} : Rings c u k c1 → Run u c1 l c' → Run u c ((k, true, c1.1) :: l) c'
theorem Run.det {u : Int} {c : CK} {l : List (Int × Bool × Int)} {c' : CK} (h : Run u c l c') : ∀ {m c''}, Run u c m c'' → l = m ∧ c' = c'' := by
  induction h with
  | stop h =>
    intro m c'' g
    cases g with
    | stop g => have := h.is.symm.trans g.is; simp at this; exact ⟨rfl, this⟩
    | ring g _ => have := h.is.symm.trans g.is; simp at this
  | ring h _ ih =>
    intro m c'' g
    cases g with
    | stop g => have := h.is.symm.trans g.is; simp at this
    | ring g hg =>
      have := h.is.symm.trans g.is
      simp at this
      obtain ⟨rfl, rfl⟩ := this
      obtain ⟨rfl, rfl⟩ := ih hg
      exact ⟨rfl, rfl⟩
theorem Run.of_go {u : Int} {c d : CK} (h : go c u = go d u) {l : List (Int × Bool × Int)} {c' : CK} (g : Run u c l c') : Run u d l c' := by
  cases g with
  | stop g =>
    rcases go_cases d u with ⟨k, c1, q⟩ | q
    · have := g.is.symm.trans (h.trans q.is); simp at this
    · have := g.is.symm.trans (h.trans q.is); simp only [Prod.mk.injEq, true_and] at this
      rw [this]
      exact .stop q
  | @ring _ c1 k l _ g hg =>
    rcases go_cases d u with ⟨k', c1', q⟩ | q
    · have := g.is.symm.trans (h.trans q.is)
      simp at this
      obtain ⟨rfl, rfl⟩ := this
      exact .ring q hg
    · have := g.is.symm.trans (h.trans q.is); simp at this
theorem Run.parts {lo hi : Int} (hl : lo ≤ hi) {c : CK} {l1 : List (Int × Bool × Int)} {c1 : CK} (h : Run lo c l1 c1) : ∀ {l2 c2}, Run hi c1 l2 c2 → Run hi c (l1 ++ l2) c2 := by
  induction h with
  | stop h =>
    intro l2 c2 g
    rw [h.same] at g
    exact Run.of_go (go_after _ hl) g
  | @ring c c1 k l c' h _ ih =>
    intro l2 c2 g
    have := ih g
    rcases go_cases c hi with ⟨k', c1', q⟩ | q
    · have e := (go_mono h.is hl).symm.trans q.is
      simp at e
      obtain ⟨rfl, rfl⟩ := e
      exact .ring q this
    · have e := (go_mono h.is hl).symm.trans q.is
      simp at e
def cnt (c : CK) : Nat := (Rn c 0).toNat + (Rn c 1).toNat + (Rn c 2).toNat + (Rn c 3).toNat
theorem cnt_le (c : CK) : cnt c ≤ 4 := by
  unfold cnt
  have : ∀ b : Bool, b.toNat ≤ 1 := fun b => by cases b <;> decide
  have h0 := this (Rn c 0); have h1 := this (Rn c 1); have h2 := this (Rn c 2); have h3 := this (Rn c 3)
  omega
theorem Rings.less {c : CK} {u k : Int} {c1 : CK} (h : Rings c u k c1) : cnt c1 < cnt c := by
  have : k = 0 ∨ k = 1 ∨ k = 2 ∨ k = 3 := by have := h.k0; have := h.k4; omega
  unfold cnt
  rw [(h.rest 0 (by omega) (by omega)).1, (h.rest 1 (by omega) (by omega)).1, (h.rest 2 (by omega) (by omega)).1, (h.rest 3 (by omega) (by omega)).1]
  have hr := h.runs
  rcases this with rfl | rfl | rfl | rfl <;> rw [hr] <;> simp
structure Told (u : Int) (c : CK) (l : List (Int × Bool × Int)) (c' : CK) : Prop where
  now : c'.1 = mx c.1 u
  made : Mn c' = Mn c
  rest : ∀ j, 0 ≤ j → j < 4 → Rn c' j = (Rn c j && decide (mx c.1 u < An c j)) ∧ (Rn c' j = true → An c' j = An c j)
  each : ∀ x ∈ l, 0 ≤ x.1 ∧ x.1 < 4 ∧ Rn c x.1 = true ∧ x.2.2 = An c x.1 ∧ An c x.1 ≤ mx c.1 u
  many : ∀ j, 0 ≤ j → j < 4 → l.countP (fun x => x.1 == j) = if Rn c j = true ∧ An c j ≤ mx c.1 u then 1 else 0
  order : l.Pairwise fun x y => x.2.2 < y.2.2 ∨ x.2.2 = y.2.2 ∧ x.1 < y.1
theorem Run.told {u : Int} (hu : u ≤ 1099511627776) {c : CK} {l : List (Int × Bool × Int)} {c' : CK} (h : Run u c l c') : (∀ j, 0 ≤ j → j < 4 → Rn c j = true → c.1 ≤ An c j) → Told u c l c' := by
  induction h with
  | @stop c c1 h =>
    intro hc
    have hs := h.same
    subst hs
    refine ⟨?_, rfl, fun j h0 h4 => ⟨?_, fun _ => rfl⟩, fun x hx => (by cases hx), fun j h0 h4 => ?_, List.Pairwise.nil⟩
    · show lim c.1 u = mx c.1 u
      rw [lim_eq]; unfold mx; repeat' split
      all_goals omega
    · show Rn c j = _
      cases hr : Rn c j with
      | false => rfl
      | true => have := h.none j h0 h4 hr; simp [this]
    · rw [if_neg]
      · rfl
      · rintro ⟨hr, hle⟩
        have := h.none j h0 h4 hr
        omega
  | @ring c c1 k l c' h _ ih =>
    intro hc
    have hk := hc k h.k0 h.k4 h.runs
    have hm : mx c1.1 u = mx c.1 u := by
      have := h.due
      rw [h.now]
      unfold mx at *
      repeat' split
      all_goals (repeat' split at this)
      all_goals omega
    have t := ih fun j h0 h4 hj => by
      have hr := (h.rest j h0 h4)
      rw [hr.1] at hj
      simp at hj
      rw [hr.2 hj.2, h.now]
      have := h.first j h0 h4 hj.1
      omega
    have er : ∀ j, 0 ≤ j → j < 4 → Rn c1 j = true → Rn c j = true ∧ j ≠ k ∧ An c1 j = An c j := by
      intro j h0 h4 hj
      have hr := (h.rest j h0 h4)
      rw [hr.1] at hj
      simp at hj
      exact ⟨hj.1, hj.2, hr.2 hj.2⟩
    refine ⟨by rw [t.now, hm], t.made.trans h.made, fun j h0 h4 => ?_, fun x hx => ?_, fun j h0 h4 => ?_, List.Pairwise.cons (fun x hx => ?_) t.order⟩
    · have hr := h.rest j h0 h4
      have ht := t.rest j h0 h4
      refine ⟨?_, fun hj => ?_⟩
      · rw [ht.1, hr.1, ← hm]
        by_cases hjk : j = k
        · subst hjk
          have := h.due
          rw [← hm] at this
          simp; intro _; exact this
        · rw [hr.2 hjk, show (j != k) = true from bne_iff_ne.2 hjk, Bool.and_true]
      · rw [ht.2 hj]
        rw [ht.1] at hj
        simp at hj
        exact (er j h0 h4 hj.1).2.2
    · rw [← hm]
      rcases List.mem_cons.1 hx with rfl | hx
      · have := h.due
        rw [← hm] at this
        exact ⟨h.k0, h.k4, h.runs, h.now, this⟩
      · obtain ⟨g0, g4, g1, g2, g3⟩ := t.each x hx
        obtain ⟨e1, e2, e3⟩ := er _ g0 g4 g1
        exact ⟨g0, g4, e1, by rw [g2, e3], by rw [← e3]; exact g3⟩
    · rw [List.countP_cons, t.many j h0 h4, ← hm]
      have hr := h.rest j h0 h4
      by_cases hjk : j = k
      · subst hjk
        rw [hr.1]
        have := h.due
        rw [← hm] at this
        simp [h.runs, this]
      · have : ¬ k = j := fun e => hjk e.symm
        rw [hr.1, hr.2 hjk]
        simp [hjk, this]
    · obtain ⟨g0, g4, g1, g2, g3⟩ := t.each x hx
      obtain ⟨e1, e2, e3⟩ := er _ g0 g4 g1
      have := h.first _ g0 g4 e1
      show c1.1 < x.2.2 ∨ c1.1 = x.2.2 ∧ k < x.1
      rw [h.now, g2, e3]
      omega
end Go.Proofs.Ytemggodhikpmdaa.PD
