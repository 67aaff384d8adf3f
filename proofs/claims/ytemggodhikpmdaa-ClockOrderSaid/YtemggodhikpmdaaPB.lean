/- Chapter 13: both clocks go alike, call by call. -/
import Derived.Test.YtemggodhikpmdaaPA
namespace Go.Proofs.Ytemggodhikpmdaa.PB
open Go Go.Proofs Go.Proofs.Ytemggodhikpmdaa.PA Go.Proofs.Ytemggodhikpmdaa.Sx
set_option linter.unusedSimpArgs false
set_option linter.unusedVariables false
/-- A timer of both. -/
def R1 (now : Int) (r : Bool) (a b : Int) : Prop := (r = true ∧ b = a ∧ now ≤ a ∧ a ≤ 1099511627776) ∨ (r = false ∧ b = -1)
def Rel : CK → WK → Prop
  | (now, r0, a0, r1, a1, r2, a2, r3, a3, m), (now', b0, b1, b2, b3) => m = true ∧ now' = now ∧ 0 ≤ now ∧ now ≤ 1099511627776 ∧ R1 now r0 a0 b0 ∧ R1 now r1 a1 b1 ∧ R1 now r2 a2 b2 ∧ R1 now r3 a3 b3
theorem wrap_small (n : Int) (h : -9223372036854775808 ≤ n ∧ n ≤ 9223372036854775807) : IntKind.i64.wrap n = n := IntWalk.i64_in n h
theorem R1.on {now : Int} {r : Bool} {a b : Int} (h : R1 now r a b) (hn : 0 ≤ now) : decide (b ≥ 0) = r := by
  rcases h with ⟨rfl, rfl, h1, h2⟩ | ⟨rfl, rfl⟩
  · simp; omega
  · rfl
theorem R1.new {now n : Int} (h0 : 0 ≤ now) (h1 : now ≤ 1099511627776) (hn : ¬ n < 0) : R1 now true (later now n) (laterW now n) := by
  have e1 : IntKind.i64.wrap (1099511627776 - now) = 1099511627776 - now := wrap_small _ (by omega)
  unfold later laterW
  rw [e1]
  by_cases hx : n > 1099511627776 - now
  · rw [if_pos hx, if_pos (by omega), wrap_small _ (by omega)]
    exact .inl ⟨rfl, by omega, by omega, by omega⟩
  · rw [if_neg hx, if_neg (by omega), wrap_small _ (by omega)]
    exact .inl ⟨rfl, rfl, by omega, by omega⟩
theorem R1.off {now a : Int} : R1 now false a (-1) := .inr ⟨rfl, rfl⟩
/-- What is next is the same, where all are alike. -/
theorem sel_same {now : Int} (hn : 0 ≤ now) {r : Bool} {a b k : Int} (h : R1 now r a b) (x : Int × Int × Bool) : sel (decide (b ≥ 0)) b k x = sel r a k x := by
  rw [h.on hn]
  rcases h with ⟨rfl, rfl, _, _⟩ | ⟨rfl, rfl⟩
  · rfl
  · simp [sel]
theorem nx_same {now : Int} (hn : 0 ≤ now) {r0 r1 r2 r3 : Bool} {a0 a1 a2 a3 b0 b1 b2 b3 : Int} (h0 : R1 now r0 a0 b0) (h1 : R1 now r1 a1 b1) (h2 : R1 now r2 a2 b2) (h3 : R1 now r3 a3 b3) :
    nx (decide (b0 ≥ 0)) (decide (b1 ≥ 0)) (decide (b2 ≥ 0)) (decide (b3 ≥ 0)) b0 b1 b2 b3 = nx r0 r1 r2 r3 a0 a1 a2 a3 := by
  unfold nx
  rw [sel_same hn h0, sel_same hn h1, sel_same hn h2, sel_same hn h3]
/-- What is next is one of those that run, and none runs earlier. -/
theorem sel_spec (r : Bool) (a k : Int) (x : Int × Int × Bool) : ((sel r a k x).2.2 = true → (sel r a k x = x ∨ (r = true ∧ sel r a k x = (k, a, true)))) ∧ (r = true → (sel r a k x).2.2 = true ∧ (sel r a k x).2.1 ≤ a) ∧ (x.2.2 = true → (sel r a k x).2.2 = true ∧ (sel r a k x).2.1 ≤ x.2.1) := by
  unfold sel
  cases r with
  | false => simp
  | true =>
    by_cases h : (!x.2.2 || decide (a < x.2.1)) = true
    · rw [if_pos (by simpa using h)]
      refine ⟨fun _ => .inr ⟨rfl, rfl⟩, fun _ => ⟨rfl, Int.le_refl _⟩, fun hx => ⟨rfl, ?_⟩⟩
      simp [hx] at h
      show a ≤ x.2.1
      omega
    · rw [if_neg (by simpa using h)]
      simp at h
      exact ⟨fun _ => .inl rfl, fun _ => ⟨h.1, h.2⟩, fun hx => ⟨hx, Int.le_refl _⟩⟩
theorem nx_spec (r0 r1 r2 r3 : Bool) (a0 a1 a2 a3 : Int) (n : Int × Int × Bool) (hn : nx r0 r1 r2 r3 a0 a1 a2 a3 = n) : (n.2.2 = true → ((n.1 = 0 ∧ r0 = true ∧ n.2.1 = a0) ∨ (n.1 = 1 ∧ r1 = true ∧ n.2.1 = a1) ∨ (n.1 = 2 ∧ r2 = true ∧ n.2.1 = a2) ∨ (n.1 = 3 ∧ r3 = true ∧ n.2.1 = a3))) ∧
    (r0 = true → n.2.2 = true ∧ n.2.1 ≤ a0) ∧ (r1 = true → n.2.2 = true ∧ n.2.1 ≤ a1) ∧ (r2 = true → n.2.2 = true ∧ n.2.1 ≤ a2) ∧ (r3 = true → n.2.2 = true ∧ n.2.1 ≤ a3) := by
  subst hn
  unfold nx
  have s0 := sel_spec r0 a0 0 (0, 0, false)
  generalize sel r0 a0 0 (0, 0, false) = x0 at *
  have s1 := sel_spec r1 a1 1 x0
  generalize sel r1 a1 1 x0 = x1 at *
  have s2 := sel_spec r2 a2 2 x1
  generalize sel r2 a2 2 x1 = x2 at *
  have s3 := sel_spec r3 a3 3 x2
  generalize sel r3 a3 3 x2 = x3 at *
  refine ⟨fun h => ?_, fun h => ?_, fun h => ?_, fun h => ?_, fun h => ?_⟩
  · rcases s3.1 h with rfl | ⟨e, rfl⟩
    · rcases s2.1 h with rfl | ⟨e, rfl⟩
      · rcases s1.1 h with rfl | ⟨e, rfl⟩
        · rcases s0.1 h with rfl | ⟨e, rfl⟩
          · simp at h
          · exact .inl ⟨rfl, e, rfl⟩
        · exact .inr (.inl ⟨rfl, e, rfl⟩)
      · exact .inr (.inr (.inl ⟨rfl, e, rfl⟩))
    · exact .inr (.inr (.inr ⟨rfl, e, rfl⟩))
  · have a := s0.2.1 h; have b := s1.2.2 a.1; have c := s2.2.2 b.1; have d := s3.2.2 c.1
    exact ⟨d.1, by omega⟩
  · have b := s1.2.1 h; have c := s2.2.2 b.1; have d := s3.2.2 c.1
    exact ⟨d.1, by omega⟩
  · have c := s2.2.1 h; have d := s3.2.2 c.1
    exact ⟨d.1, by omega⟩
  · exact s3.2.1 h
theorem R1.at {now now' : Int} {r : Bool} {a b : Int} (h : R1 now r a b) (hr : r = true → now' ≤ a) : R1 now' r a b := by
  rcases h with ⟨rfl, rfl, h1, h2⟩ | ⟨rfl, rfl⟩
  · exact .inl ⟨rfl, rfl, hr rfl, h2⟩
  · exact .inr ⟨rfl, rfl⟩
theorem R1.drop {now : Int} {r : Bool} {a b k n : Int} (h : R1 now r a b) : R1 now (r && n != k) (if n = k then 0 else a) (if n = k then -1 else b) := by
  by_cases hk : n = k
  · rw [if_pos hk, if_pos hk]
    have : (r && n != k) = false := by simp [hk]
    rw [this]
    exact R1.off
  · rw [if_neg hk, if_neg hk]
    have : (r && n != k) = r := by cases r <;> simp [hk]
    rw [this]
    exact h
theorem R1.set {now : Int} {r : Bool} {a b k t n : Int} (h0 : 0 ≤ now) (h1 : now ≤ 1099511627776) (hn : ¬ n < 0) (h : R1 now r a b) : R1 now (r || t == k) (if t = k then later now n else a) (if t = k then laterW now n else b) := by
  by_cases hk : t = k
  · rw [if_pos hk, if_pos hk]
    have : (r || t == k) = true := by simp [hk]
    rw [this]
    exact R1.new h0 h1 hn
  · rw [if_neg hk, if_neg hk]
    have : (r || t == k) = r := by cases r <;> simp [hk]
    rw [this]
    exact h
theorem rel_start {c : CK} {w : WK} (h : Rel c w) (t n : Int) : (startC c t n).1 = (startW w t n).1 ∧ Rel (startC c t n).2 (startW w t n).2 := by
  obtain ⟨now, r0, a0, r1, a1, r2, a2, r3, a3, m⟩ := c
  obtain ⟨now', b0, b1, b2, b3⟩ := w
  obtain ⟨rfl, rfl, h0, hM, g0, g1, g2, g3⟩ := h
  unfold startC startW
  dsimp only
  by_cases hx : t < 0 ∨ t ≥ 4 ∨ n < 0
  · rw [if_pos hx, if_pos hx]
    exact ⟨rfl, rfl, rfl, h0, hM, g0, g1, g2, g3⟩
  · rw [if_neg hx, if_neg hx]
    have hn : ¬ n < 0 := fun e => hx (.inr (.inr e))
    exact ⟨rfl, rfl, rfl, h0, hM, g0.set h0 hM hn, g1.set h0 hM hn, g2.set h0 hM hn, g3.set h0 hM hn⟩
theorem rel_stop {c : CK} {w : WK} (h : Rel c w) (t : Int) : (stop c t).1 = (stopW w t).1 ∧ Rel (stop c t).2 (stopW w t).2 := by
  obtain ⟨now, r0, a0, r1, a1, r2, a2, r3, a3, m⟩ := c
  obtain ⟨now', b0, b1, b2, b3⟩ := w
  obtain ⟨rfl, rfl, h0, hM, g0, g1, g2, g3⟩ := h
  unfold stop stopW
  dsimp only
  by_cases hx : t < 0 ∨ t ≥ 4
  · rw [if_pos hx, if_pos hx]
    exact ⟨rfl, rfl, rfl, h0, hM, g0, g1, g2, g3⟩
  · rw [if_neg hx, if_neg hx]
    exact ⟨rfl, rfl, rfl, h0, hM, g0.drop, g1.drop, g2.drop, g3.drop⟩
theorem rel_left {c : CK} {w : WK} (h : Rel c w) (t : Int) : (left c t).1 = (leftW w t).1 ∧ Rel (left c t).2 (leftW w t).2 := by
  obtain ⟨now, r0, a0, r1, a1, r2, a2, r3, a3, m⟩ := c
  obtain ⟨now', b0, b1, b2, b3⟩ := w
  obtain ⟨rfl, rfl, h0, hM, g0, g1, g2, g3⟩ := h
  have key : ∀ {r : Bool} {a b : Int}, R1 now' r a b → ((r = false) ↔ b < 0) ∧ (r = true → b = a) := by
    intro r a b g
    rcases g with ⟨rfl, rfl, h1, h2⟩ | ⟨rfl, rfl⟩
    · exact ⟨⟨fun e => by simp at e, fun e => by omega⟩, fun _ => rfl⟩
    · exact ⟨⟨fun _ => by omega, fun _ => rfl⟩, fun e => by simp at e⟩
  have four : ((at4 t r0 r1 r2 r3 = false) ↔ at4 t b0 b1 b2 b3 < 0) ∧ (at4 t r0 r1 r2 r3 = true → at4 t b0 b1 b2 b3 = at4 t a0 a1 a2 a3) := by
    unfold at4
    repeat' split
    · exact key g0
    · exact key g1
    · exact key g2
    · exact key g3
  unfold left leftW
  simp only [four.1]
  by_cases hx : t < 0 ∨ t ≥ 4 ∨ at4 t b0 b1 b2 b3 < 0
  · rw [if_pos hx, if_pos hx]
    exact ⟨rfl, rfl, rfl, h0, hM, g0, g1, g2, g3⟩
  · rw [if_neg hx, if_neg hx]
    have : at4 t r0 r1 r2 r3 = true := by
      cases hb : at4 t r0 r1 r2 r3 with
      | true => rfl
      | false => exact (hx (.inr (.inr (four.1.1 hb)))).elim
    rw [four.2 this]
    exact ⟨rfl, rfl, rfl, h0, hM, g0, g1, g2, g3⟩
theorem rel_go {c : CK} {w : WK} (h : Rel c w) (u : Int) : (go c u).1 = (goW w u).1 ∧ Rel (go c u).2 (goW w u).2 := by
  obtain ⟨now, r0, a0, r1, a1, r2, a2, r3, a3, m⟩ := c
  obtain ⟨now', b0, b1, b2, b3⟩ := w
  obtain ⟨rfl, rfl, h0, hM, g0, g1, g2, g3⟩ := h
  unfold go goW
  simp only [nx_same h0 g0 g1 g2 g3]
  generalize hn : nx r0 r1 r2 r3 a0 a1 a2 a3 = n
  obtain ⟨s1, s2, s3, s4, s5⟩ := nx_spec r0 r1 r2 r3 a0 a1 a2 a3 n hn
  have bound : n.2.2 = true → now' ≤ n.2.1 ∧ n.2.1 ≤ 1099511627776 := by
    intro hb
    have one : ∀ {r : Bool} {a b : Int}, R1 now' r a b → r = true → now' ≤ a ∧ a ≤ 1099511627776 := by
      intro r a b g hr
      rcases g with ⟨_, _, h1, h2⟩ | ⟨e, _⟩
      · exact ⟨h1, h2⟩
      · rw [e] at hr; cases hr
    rcases s1 hb with ⟨_, hr, e⟩ | ⟨_, hr, e⟩ | ⟨_, hr, e⟩ | ⟨_, hr, e⟩ <;> rw [e]
    · exact one g0 hr
    · exact one g1 hr
    · exact one g2 hr
    · exact one g3 hr
  have same : (n.2.2 = true ∧ n.2.1 ≤ (if now' > u then now' else u)) ↔ (n.2.2 = true ∧ (n.2.1 ≤ u ∨ n.2.1 = now')) := by
    constructor
    · rintro ⟨hb, hle⟩
      have := (bound hb).1
      refine ⟨hb, ?_⟩
      split at hle
      · exact .inr (by omega)
      · exact .inl hle
    · rintro ⟨hb, hle⟩
      have := (bound hb).1
      refine ⟨hb, ?_⟩
      split <;> omega
  by_cases hx : n.2.2 = true ∧ (n.2.1 ≤ u ∨ n.2.1 = now')
  · rw [if_pos (same.2 hx), if_pos hx]
    have hb := bound hx.1
    exact ⟨rfl, rfl, rfl, by show 0 ≤ n.2.1; omega, hb.2, (g0.at fun h => (s2 h).2).drop, (g1.at fun h => (s3 h).2).drop, (g2.at fun h => (s4 h).2).drop, (g3.at fun h => (s5 h).2).drop⟩
  · rw [if_neg (fun e => hx (same.1 e)), if_neg hx]
    have hl : now' ≤ lim now' u ∧ lim now' u ≤ 1099511627776 := by
      rw [lim_eq]
      repeat' split
      all_goals omega
    have stay : ∀ {r : Bool} {a b : Int}, R1 now' r a b → (r = true → n.2.2 = true ∧ n.2.1 ≤ a) → R1 (lim now' u) r a b := by
      intro r a b g hs
      refine g.at fun hr => ?_
      have h1 := hs hr
      have h2 := (bound h1.1).1
      have h3 : ¬ (n.2.1 ≤ u ∨ n.2.1 = now') := fun e => hx ⟨h1.1, e⟩
      rcases g with ⟨_, _, h4, h5⟩ | ⟨e, _⟩
      · rw [lim_eq]
        repeat' split
        all_goals omega
      · rw [e] at hr; cases hr
    exact ⟨rfl, rfl, rfl, by show 0 ≤ lim now' u; omega, hl.2, stay g0 s2, stay g1 s3, stay g2 s4, stay g3 s5⟩
end Go.Proofs.Ytemggodhikpmdaa.PB
