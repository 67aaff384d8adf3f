/- The engine, part G: data laid out as named blocks ('scat'), and gathered from named blocks ('gat'). -/
import Derived.Test.YtpfbpcaehmhefaaDoorBZ1
namespace Go.Proofs.YtpfbpcaehmhefaaDoorB.Sx
open Go.RowKit
set_option linter.unusedSimpArgs false
set_option linter.unusedVariables false

def box (own : Bool) (x : M) : AB := match own with | true => .own x | false => .ro x
theorem box_holds {own : Bool} {E : Env} {w : World} {p : Pl} {x : M} {F R : List Nat} (hl : x.links E p) {vs : List Value} {F0 R0 : List Nat} (h1 : x.reads E w (!own) vs F0 R0) (h2 : boxH own w x.e x.size p x.len vs F0 R0 F R) : (box own x).holds E w p F R := by
  cases own with
  | true => exact ⟨hl, vs, F0, R0, h1, h2⟩
  | false => exact ⟨hl, vs, F0, R0, h1, h2⟩

/-! ### Laid out -/
def mkAV (tg : Option FuncId) (cs : List AV) : AV :=
  match tg with
  | none => .agg cs
  | some f => .func (.func f) [] cs
theorem conc_mkAV {E : Env} {tg : Option FuncId} {cs : List AV} {us : List Value} (h : concs E cs = some us) : conc E (mkAV tg cs) = some (mkAg tg us) := by
  cases tg <;> simp [mkAV, mkAg, conc, concs, h]
/-- An object's name, as a value. -/
def obAV : Obk → Nat → AV
  | .map, n => .mapr n
  | .ob _, n => .un n
theorem conc_obAV {E : Env} {n : Nat} {p : Pl} (h : E n = some p) (k : Obk) : conc E (obAV k n) = some (objV p k) := by
  cases k <;> simp [obAV, objV, conc, h]
/-- Where an object lies. -/
theorem objH_at {own : Bool} {w : World} {κ α : Type} {K : κ → Value → Prop} {P : α → List Value → List Nat → List Nat → Prop} {F R : List Nat} : ∀ {k : Obk} {d : k.den (List (κ × α))} {v : Value}, objH own w K P k d v F R → ∃ p : Pl, v = objV p k
  | .map, l, v, h => by obtain ⟨b, es, clk, F0, R0, rfl, _⟩ := h; exact ⟨{ block := b }, rfl⟩
  | .ob n, d, v, h => by obtain ⟨a, B, rfl, _⟩ := h; exact ⟨{ block := 0, odd := a }, rfl⟩
/-- The cells, the blocks, the first name that is not given. -/
def scat (lx : Bool) : (sh : Sh) → Den sh → Nat → T (List AV × Hp × Nat)
  | .nil, _, fr => .leaf ([], [], fr)
  | .sc c r, d, fr => (scat lx r (prTl r d) fr).map fun x => (.v (c.enc (prHd r d)) :: x.1, x.2.1, x.2.2)
  | .sl own e row r, d, fr => (scat lx r (prTl r d) (fr + 1)).map fun x => (.sl fr 0 0 (prHd r d).length none :: x.1, (fr, some (box (own && !lx) (.rows e row (prHd r d)))) :: x.2.1, x.2.2)
  | .pt own e row r, d, fr => (scat lx r (prTl r d) (fr + 1)).map fun x => (.ptr fr 0 0 :: x.1, (fr, some (box (own && !lx) (.rows e row [prHd r d]))) :: x.2.1, x.2.2)
  | .po own e row r, d, fr =>
    .ite (prHd r d).isSome ((scat lx r (prTl r d) (fr + 1)).map fun x => (.ptr fr 0 0 :: x.1, (fr, some (box (own && !lx) (.rows e row [(prHd r d).getD (dflt row)]))) :: x.2.1, x.2.2))
      ((scat lx r (prTl r d) fr).map fun x => (.v (.pointer none) :: x.1, x.2.1, x.2.2))
  | .ag tg row r, d, fr => (scat lx row (prHd r d) fr).bind fun x => (scat lx r (prTl r d) x.2.2).map fun y => (mkAV tg x.1 :: y.1, x.2.1 ++ y.2.1, y.2.2)
  | .mp k key row r, d, fr => (scat lx r (prTl r d) (fr + 1)).map fun x => (obAV k fr :: x.1, (fr, some (.obj (!lx) k key row (prHd r d))) :: x.2.1, x.2.2)

structure ScOk (w : World) (E : Env) (fr : Nat) (F R : List Nat) (x : List AV × Hp × Nat) (vs : List Value) (E' : Env) (FF RR : Nat → List Nat) : Prop where
  ext : E.le E'
  dom : ∀ n, E n = none → E' n ≠ none → fr ≤ n ∧ n < x.2.2
  cells : concs E' x.1 = some vs
  lo : ∀ n b, look x.2.1 n = some b → fr ≤ n ∧ n < x.2.2
  gc : Gc E' (look x.2.1) w FF RR
  inF : ∀ n b k, look x.2.1 n = some b → k ∈ FF n → k ∈ F
  inR : ∀ n b k, look x.2.1 n = some b → k ∈ RR n → k ∈ R

def Env.set (E : Env) (m : Nat) (p : Pl) : Env := fun n => if n = m then some p else E n
theorem Env.le_set {E : Env} {m : Nat} (h : E m = none) (p : Pl) : E.le (E.set m p) := by
  intro n q hq
  unfold Env.set
  rw [if_neg (fun e => by subst e; rw [h] at hq; cases hq)]
  exact hq
theorem Env.set_self (E : Env) (m : Nat) (p : Pl) : E.set m p m = some p := if_pos rfl
theorem Env.set_ne {E : Env} {m n : Nat} {p : Pl} (h : n ≠ m) : E.set m p n = E n := if_neg h

theorem ScOk.cons {w : World} {E E' : Env} {fr : Nat} {F1 F2 R1 R2 : List Nat} {x : List AV × Hp × Nat} {vs : List Value} {FF RR : Nat → List Nat} {p : Pl} {b : AB} {v : AV} {V : Value} (hfr : E fr = none) (hle : fr + 1 ≤ x.2.2) (hb : b.holds (E.set fr p) w p F1 R1) (hn : (F1 ++ F2).Nodup)
    (hv : conc (E.set fr p) v = some V) (h : ScOk w (E.set fr p) (fr + 1) F2 R2 x vs E' FF RR) : ScOk w E fr (F1 ++ F2) (R1 ++ R2) (v :: x.1, (fr, some b) :: x.2.1, x.2.2) (V :: vs) E' (fun n => if n = fr then F1 else FF n) (fun n => if n = fr then R1 else RR n) := by
  have hset := Env.le_set hfr p
  have hlk : ∀ n c, look ((fr, some b) :: x.2.1) n = some c → (n = fr ∧ c = b) ∨ (n ≠ fr ∧ look x.2.1 n = some c) := by
    intro n c hc
    simp only [look] at hc
    cases hq : Nat.beq fr n with
    | true => rw [hq] at hc; simp at hc; exact .inl ⟨(Nat.eq_of_beq_eq_true hq).symm, hc.symm⟩
    | false =>
      rw [hq] at hc
      exact .inr ⟨fun e => by subst e; simp at hq, hc⟩
  rw [List.nodup_append] at hn
  refine ⟨Env.le_trans hset h.ext, ?_, concs_cons.2 ⟨V, vs, conc_mono h.ext _ _ hv, h.cells, rfl⟩, ?_, ⟨?_, ?_, ?_⟩, ?_, ?_⟩
  · intro n h1 h2
    by_cases e : n = fr
    · subst e; exact ⟨Nat.le_refl _, by show n < x.2.2; omega⟩
    · have := h.dom n (by rw [Env.set_ne e]; exact h1) h2
      exact ⟨by omega, this.2⟩
  · intro n c hc
    rcases hlk n c hc with ⟨rfl, _⟩ | ⟨_, hc⟩
    · exact ⟨Nat.le_refl _, by show n < x.2.2; omega⟩
    · have := h.lo n c hc
      exact ⟨by omega, this.2⟩
  · intro n c hc
    rcases hlk n c hc with ⟨rfl, rfl⟩ | ⟨hne, hc⟩
    · rw [if_pos rfl, if_pos rfl]
      exact ⟨p, h.ext _ _ (Env.set_self _ _ _), AB.mono h.ext hb⟩
    · rw [if_neg hne, if_neg hne]
      exact h.gc.holds n c hc
  · intro n c hc
    rcases hlk n c hc with ⟨rfl, rfl⟩ | ⟨hne, hc⟩
    · rw [if_pos rfl]; exact hn.1
    · rw [if_neg hne]; exact h.gc.nodup n c hc
  · intro n m c c' k hc hc' hk hk'
    rcases hlk n c hc with ⟨e1, e2⟩ | ⟨hne, hd⟩ <;> rcases hlk m c' hc' with ⟨e3, e4⟩ | ⟨hne', hd'⟩
    · rw [e1, e3]
    · rw [if_pos e1] at hk; rw [if_neg hne'] at hk'
      exact (hn.2.2 k hk k (h.inF m c' k hd' hk') rfl).elim
    · rw [if_neg hne] at hk; rw [if_pos e3] at hk'
      exact (hn.2.2 k hk' k (h.inF n c k hd hk) rfl).elim
    · rw [if_neg hne] at hk; rw [if_neg hne'] at hk'
      exact h.gc.dist n m c c' k hd hd' hk hk'
  · intro n c k hc hk
    rcases hlk n c hc with ⟨rfl, rfl⟩ | ⟨hne, hc⟩
    · rw [if_pos rfl] at hk; simp [hk]
    · rw [if_neg hne] at hk; simp [h.inF n c k hc hk]
  · intro n c k hc hk
    rcases hlk n c hc with ⟨rfl, rfl⟩ | ⟨hne, hc⟩
    · rw [if_pos rfl] at hk; simp [hk]
    · rw [if_neg hne] at hk; simp [h.inR n c k hc hk]

theorem T.get_ite {α : Type} {b : Bool} {x y : T α} : (T.ite b x y).get = if b = true then x.get else y.get := by cases b <;> rfl

theorem scat_ge {lx : Bool} : ∀ (sh : Sh) (d : Den sh) (fr : Nat), fr ≤ (scat lx sh d fr).get.2.2
  | .nil, d, fr => Nat.le_refl _
  | .sc c r, d, fr => by
    simp only [scat, T.get_map]
    exact scat_ge r _ fr
  | .sl own e row r, d, fr => by
    simp only [scat, T.get_map]
    exact Nat.le_trans (Nat.le_succ _) (scat_ge r _ (fr + 1))
  | .pt own e row r, d, fr => by
    simp only [scat, T.get_map]
    exact Nat.le_trans (Nat.le_succ _) (scat_ge r _ (fr + 1))
  | .po own e row r, d, fr => by
    simp only [scat, T.get_ite]
    split
    · simp only [T.get_map]
      exact Nat.le_trans (Nat.le_succ _) (scat_ge r _ (fr + 1))
    · simp only [T.get_map]
      exact scat_ge r _ fr
  | .ag tg row r, d, fr => by
    simp only [scat, T.get_bind, T.get_map]
    exact Nat.le_trans (scat_ge row _ fr) (scat_ge r _ _)
  | .mp k key row r, d, fr => by
    simp only [scat, T.get_map]
    exact Nat.le_trans (Nat.le_succ _) (scat_ge r _ (fr + 1))

theorem scat_length {lx : Bool} : ∀ (sh : Sh) (d : Den sh) (fr : Nat), (scat lx sh d fr).get.1.length = sh.size
  | .nil, d, fr => rfl
  | .sc c r, d, fr => by simp [scat, T.get_map, Sh.size, scat_length r]
  | .sl own e row r, d, fr => by simp [scat, T.get_map, Sh.size, scat_length r]
  | .pt own e row r, d, fr => by simp [scat, T.get_map, Sh.size, scat_length r]
  | .po own e row r, d, fr => by
    simp only [scat, T.get_ite]
    split <;> simp [T.get_map, Sh.size, scat_length r]
  | .ag tg row r, d, fr => by simp [scat, T.get_bind, T.get_map, Sh.size, scat_length r]
  | .mp k key row r, d, fr => by simp [scat, T.get_map, Sh.size, scat_length r]
/-- As many blocks as names. -/
theorem scat_news (lx : Bool) : ∀ (sh : Sh) (d : Den sh) (fr : Nat), (scat lx sh d fr).get.2.2 = fr + (scat lx sh d fr).get.2.1.length
  | .nil, d, fr => rfl
  | .sc c r, d, fr => by simp [scat, T.get_map, scat_news lx r]
  | .sl own e row r, d, fr => by simp [scat, T.get_map, scat_news lx r]; omega
  | .pt own e row r, d, fr => by simp [scat, T.get_map, scat_news lx r]; omega
  | .po own e row r, d, fr => by
    simp only [scat, T.get_ite]
    split
    · simp [T.get_map, scat_news lx r]; omega
    · simp [T.get_map, scat_news lx r]
  | .ag tg row r, d, fr => by
    simp only [scat, T.get_bind, T.get_map, List.length_append]
    rw [scat_news lx r, scat_news lx row]
    omega
  | .mp k key row r, d, fr => by simp [scat, T.get_map, scat_news lx r]; omega
theorem scat_lo (lx : Bool) : ∀ (sh : Sh) (d : Den sh) (fr m : Nat) (b : AB), look (scat lx sh d fr).get.2.1 m = some b → fr ≤ m ∧ m < (scat lx sh d fr).get.2.2
  | .nil, d, fr, m, b, h => by simp [scat, T.get, look] at h
  | .sc c r, d, fr, m, b, h => by
    simp only [scat, T.get_map] at h ⊢
    exact scat_lo lx r _ fr m b h
  | .sl own e row r, d, fr, m, b, h => by
    simp only [scat, T.get_map, look] at h ⊢
    have hge := scat_ge (lx := lx) r (prTl r d) (fr + 1)
    cases hq : Nat.beq fr m with
    | true => have := Nat.eq_of_beq_eq_true hq; omega
    | false => rw [hq] at h; have := scat_lo lx r _ (fr + 1) m b h; omega
  | .pt own e row r, d, fr, m, b, h => by
    simp only [scat, T.get_map, look] at h ⊢
    have hge := scat_ge (lx := lx) r (prTl r d) (fr + 1)
    cases hq : Nat.beq fr m with
    | true => have := Nat.eq_of_beq_eq_true hq; omega
    | false => rw [hq] at h; have := scat_lo lx r _ (fr + 1) m b h; omega
  | .po own e row r, d, fr, m, b, h => by
    simp only [scat, T.get_ite] at h ⊢
    split at h
    · rename_i hs
      rw [if_pos hs]
      simp only [T.get_map, look] at h ⊢
      have hge := scat_ge (lx := lx) r (prTl r d) (fr + 1)
      cases hq : Nat.beq fr m with
      | true => have := Nat.eq_of_beq_eq_true hq; omega
      | false => rw [hq] at h; have := scat_lo lx r _ (fr + 1) m b h; omega
    · rename_i hs
      rw [if_neg hs]
      simp only [T.get_map] at h ⊢
      exact scat_lo lx r _ fr m b h
  | .mp k key row r, d, fr, m, b, h => by
    simp only [scat, T.get_map, look] at h ⊢
    have hge := scat_ge (lx := lx) r (prTl r d) (fr + 1)
    cases hq : Nat.beq fr m with
    | true => have := Nat.eq_of_beq_eq_true hq; omega
    | false => rw [hq] at h; have := scat_lo lx r _ (fr + 1) m b h; omega
  | .ag tg row r, d, fr, m, b, h => by
    simp only [scat, T.get_bind, T.get_map] at h ⊢
    have hge1 := scat_ge (lx := lx) row (prHd r d) fr
    have hge2 := scat_ge (lx := lx) r (prTl r d) (scat lx row (prHd r d) fr).get.2.2
    rw [look_append] at h
    cases hl : lookO (scat lx row (prHd r d) fr).get.2.1 m with
    | some z =>
      rw [hl] at h
      simp only at h
      subst h
      have := scat_lo lx row _ fr m b (look_of_lookO.2 hl)
      omega
    | none =>
      rw [hl] at h
      have := scat_lo lx r _ _ m b h
      omega
/-- All blocks are there. -/
theorem scat_all (lx : Bool) : ∀ (sh : Sh) (d : Den sh) (fr m : Nat) (z : Option AB), lookO (scat lx sh d fr).get.2.1 m = some z → z.isSome = true
  | .nil, d, fr, m, z, h => by simp [scat, T.get, lookO] at h
  | .sc c r, d, fr, m, z, h => by
    simp only [scat, T.get_map] at h
    exact scat_all lx r _ fr m z h
  | .sl own e row r, d, fr, m, z, h => by
    simp only [scat, T.get_map, lookO] at h
    cases hq : Nat.beq fr m with
    | true => rw [hq] at h; simp at h; subst h; rfl
    | false => rw [hq] at h; exact scat_all lx r _ (fr + 1) m z h
  | .pt own e row r, d, fr, m, z, h => by
    simp only [scat, T.get_map, lookO] at h
    cases hq : Nat.beq fr m with
    | true => rw [hq] at h; simp at h; subst h; rfl
    | false => rw [hq] at h; exact scat_all lx r _ (fr + 1) m z h
  | .po own e row r, d, fr, m, z, h => by
    simp only [scat, T.get_ite] at h
    split at h
    · simp only [T.get_map, lookO] at h
      cases hq : Nat.beq fr m with
      | true => rw [hq] at h; simp at h; subst h; rfl
      | false => rw [hq] at h; exact scat_all lx r _ (fr + 1) m z h
    · simp only [T.get_map] at h
      exact scat_all lx r _ fr m z h
  | .mp k key row r, d, fr, m, z, h => by
    simp only [scat, T.get_map, lookO] at h
    cases hq : Nat.beq fr m with
    | true => rw [hq] at h; simp at h; subst h; rfl
    | false => rw [hq] at h; exact scat_all lx r _ (fr + 1) m z h
  | .ag tg row r, d, fr, m, z, h => by
    simp only [scat, T.get_bind, T.get_map] at h
    rw [lookO_append] at h
    cases hl : lookO (scat lx row (prHd r d) fr).get.2.1 m with
    | some y => rw [hl] at h; simp only [Option.some.injEq] at h; subst h; exact scat_all lx row _ fr m y hl
    | none => rw [hl] at h; exact scat_all lx r _ _ m z h
theorem conc_box {E : Env} {fr : Nat} {p : Pl} {n : Nat} : conc (E.set fr p) (.sl fr 0 0 n none) = some (.slice (p.ptr 0 0) n p.cap) := by simp [conc, Env.set_self]
theorem conc_bptr {E : Env} {fr : Nat} {p : Pl} : conc (E.set fr p) (.ptr fr 0 0) = some (.pointer (some (p.addr 0 0))) := by simp [conc, Env.set_self]
theorem and_not {own lx : Bool} : (lx || !own) = !(own && !lx) := by cases own <;> cases lx <;> rfl

theorem scat_ok {w : World} {lx : Bool} : ∀ (sh : Sh) (d : Den sh) (vs : List Value) (F R : List Nat) (fr : Nat) (E : Env), hold w lx sh d vs F R → F.Nodup → (∀ n, fr ≤ n → n < (scat lx sh d fr).get.2.2 → E n = none) →
    ∃ E' FF RR, ScOk w E fr F R (scat lx sh d fr).get vs E' FF RR
  | .nil, d, vs, F, R, fr, E, h, hn, hfr => by
    obtain ⟨rfl, rfl, rfl⟩ := h
    refine ⟨E, fun _ => [], fun _ => [], E.le_refl, fun n h1 h2 => (h2 h1).elim, rfl, ?_, ⟨?_, ?_, ?_⟩, ?_, ?_⟩ <;> intro n <;> intros <;> rename_i h <;> simp [scat, T.get, look] at *
  | .sc c r, d, vs, F, R, fr, E, h, hn, hfr => by
    obtain ⟨vs', rfl, h2, h3⟩ := h
    simp only [scat, T.get_map] at hfr ⊢
    obtain ⟨E', FF, RR, g⟩ := scat_ok r _ _ _ _ fr E h3 hn hfr
    exact ⟨E', FF, RR, g.ext, g.dom, concs_cons.2 ⟨_, _, rfl, g.cells, rfl⟩, g.lo, g.gc, g.inF, g.inR⟩
  | .sl own e row r, d, vs, F, R, fr, E, h, hn, hfr => by
    obtain ⟨p, vs', xs, F0, R0, F1, R1, F2, R2, rfl, h2, h3, h4, rfl, rfl⟩ := h
    simp only [scat, T.get_map] at hfr ⊢
    have hge := scat_ge (lx := lx) r (prTl r d) (fr + 1)
    have h0 : E fr = none := hfr fr (Nat.le_refl _) (by omega)
    obtain ⟨E', FF, RR, g⟩ := scat_ok r _ _ _ _ (fr + 1) (E.set fr p) h4 (List.nodup_append.1 hn).2.1 (fun n h1 h2 => by rw [Env.set_ne (by omega)]; exact hfr n (by omega) h2)
    exact ⟨E', _, _, g.cons h0 hge (box_holds trivial (by rw [and_not] at h2; exact h2) h3) hn conc_box⟩
  | .pt own e row r, d, vs, F, R, fr, E, h, hn, hfr => by
    obtain ⟨p, vs', xs, F0, R0, F1, R1, F2, R2, hnil, rfl, h2, h3, h4, rfl, rfl⟩ := h
    simp only [scat, T.get_map] at hfr ⊢
    have hge := scat_ge (lx := lx) r (prTl r d) (fr + 1)
    have h0 : E fr = none := hfr fr (Nat.le_refl _) (by omega)
    obtain ⟨E', FF, RR, g⟩ := scat_ok r _ _ _ _ (fr + 1) (E.set fr p) h4 (List.nodup_append.1 hn).2.1 (fun n h1 h2 => by rw [Env.set_ne (by omega)]; exact hfr n (by omega) h2)
    exact ⟨E', _, _, g.cons h0 hge (box_holds trivial (rowsH_one.2 (by rw [and_not] at h2; exact h2)) h3) hn conc_bptr⟩
  | .po own e row r, d, vs, F, R, fr, E, h, hn, hfr => by
    obtain ⟨v, vs', F1, R1, F2, R2, rfl, rfl, rfl, h4, h5⟩ := h
    simp only [scat, T.get_ite] at hfr ⊢
    cases hd : prHd r d with
    | none =>
      rw [hd] at h5 hfr
      obtain ⟨rfl, rfl, rfl⟩ := h5
      simp only [Option.isSome_none, Bool.false_eq_true, if_false, T.get_map] at hfr ⊢
      obtain ⟨E', FF, RR, g⟩ := scat_ok r _ _ _ _ fr E h4 (by simpa using hn) hfr
      exact ⟨E', FF, RR, g.ext, g.dom, concs_cons.2 ⟨_, _, rfl, g.cells, rfl⟩, g.lo, g.gc, g.inF, g.inR⟩
    | some x =>
      rw [hd] at h5 hfr
      obtain ⟨p, xs, F0, R0, hnil, rfl, h2, h3⟩ := h5
      simp only [Option.isSome_some, if_true, T.get_map, Option.getD_some] at hfr ⊢
      have hge := scat_ge (lx := lx) r (prTl r d) (fr + 1)
      have h0 : E fr = none := hfr fr (Nat.le_refl _) (by omega)
      obtain ⟨E', FF, RR, g⟩ := scat_ok r _ _ _ _ (fr + 1) (E.set fr p) h4 (List.nodup_append.1 hn).2.1 (fun n h1 h2 => by rw [Env.set_ne (by omega)]; exact hfr n (by omega) h2)
      exact ⟨E', _, _, g.cons h0 hge (box_holds trivial (rowsH_one.2 (by rw [and_not] at h2; exact h2)) h3) hn conc_bptr⟩
  | .mp k key row r, d, vs, F, R, fr, E, h, hn, hfr => by
    obtain ⟨v, vs', F1, R1, F2, R2, rfl, h2, h4, rfl, rfl⟩ := h
    obtain ⟨p, rfl⟩ := objH_at h2
    simp only [scat, T.get_map] at hfr ⊢
    have hge := scat_ge (lx := lx) r (prTl r d) (fr + 1)
    have h0 : E fr = none := hfr fr (Nat.le_refl _) (by omega)
    obtain ⟨E', FF, RR, g⟩ := scat_ok r _ _ _ _ (fr + 1) (E.set fr p) h4 (List.nodup_append.1 hn).2.1 (fun n h1 h2 => by rw [Env.set_ne (by omega)]; exact hfr n (by omega) h2)
    exact ⟨E', _, _, g.cons (b := .obj (!lx) k key row (prHd r d)) h0 hge (by rw [show lx = !(!lx) from (Bool.not_not lx).symm] at h2; simpa [AB.holds] using h2) hn (conc_obAV (Env.set_self _ _ _) k)⟩
  | .ag tg row r, d, vs, F, R, fr, E, h, hn, hfr => by
    obtain ⟨us, vs', F1, R1, F2, R2, rfl, h2, h3, rfl, rfl⟩ := h
    simp only [scat, T.get_bind, T.get_map] at hfr ⊢
    have hge1 := scat_ge (lx := lx) row (prHd r d) fr
    have hge2 := scat_ge (lx := lx) r (prTl r d) (scat lx row (prHd r d) fr).get.2.2
    rw [List.nodup_append] at hn
    obtain ⟨E1, FF1, RR1, g⟩ := scat_ok row _ _ _ _ fr E h2 hn.1 (fun n h1 h2 => hfr n h1 (by omega))
    obtain ⟨E2, FF2, RR2, g'⟩ := scat_ok r _ _ _ _ (scat lx row (prHd r d) fr).get.2.2 E1 h3 hn.2.1 (fun n h1 h2 => by
      cases hE : E1 n with
      | none => rfl
      | some q =>
        have := g.dom n (hfr n (by omega) h2) (by rw [hE]; simp)
        omega)
    generalize (scat lx row (prHd r d) fr).get = x at *
    generalize (scat lx r (prTl r d) x.2.2).get = y at *
    have hlk : ∀ n c, look (x.2.1 ++ y.2.1) n = some c → (look x.2.1 n = some c ∧ n < x.2.2) ∨ (look y.2.1 n = some c ∧ x.2.2 ≤ n) := by
      intro n c hc
      rw [look_append] at hc
      cases hl : lookO x.2.1 n with
      | some z => rw [hl] at hc; simp only at hc; subst hc; have := look_of_lookO.2 hl; exact .inl ⟨this, (g.lo n c this).2⟩
      | none => rw [hl] at hc; exact .inr ⟨hc, (g'.lo n c hc).1⟩
    refine ⟨E2, fun n => if n < x.2.2 then FF1 n else FF2 n, fun n => if n < x.2.2 then RR1 n else RR2 n, Env.le_trans g.ext g'.ext, ?_, ?_, ?_, ⟨?_, ?_, ?_⟩, ?_, ?_⟩
    · intro n a1 a2
      cases hE : E1 n with
      | none => have := g'.dom n hE a2; exact ⟨by omega, this.2⟩
      | some q => have := g.dom n a1 (by rw [hE]; simp); exact ⟨this.1, by show n < y.2.2; omega⟩
    · exact concs_cons.2 ⟨_, _, conc_mkAV (concs_mono g'.ext _ _ g.cells), g'.cells, rfl⟩
    · intro n c hc
      rcases hlk n c hc with ⟨hc, hlt⟩ | ⟨hc, hlt⟩
      · have := g.lo n c hc; exact ⟨this.1, by show n < y.2.2; omega⟩
      · have := g'.lo n c hc; exact ⟨by omega, this.2⟩
    · intro n c hc
      rcases hlk n c hc with ⟨hc, hlt⟩ | ⟨hc, hlt⟩
      · rw [if_pos hlt, if_pos hlt]
        obtain ⟨p, a1, a2⟩ := g.gc.holds n c hc
        exact ⟨p, g'.ext n p a1, AB.mono g'.ext a2⟩
      · rw [if_neg (by omega), if_neg (by omega)]
        exact g'.gc.holds n c hc
    · intro n c hc
      rcases hlk n c hc with ⟨hc, hlt⟩ | ⟨hc, hlt⟩
      · rw [if_pos hlt]; exact g.gc.nodup n c hc
      · rw [if_neg (by omega)]; exact g'.gc.nodup n c hc
    · intro n m c c' k hc hc' hk hk'
      rcases hlk n c hc with ⟨hc, hlt⟩ | ⟨hc, hlt⟩ <;> rcases hlk m c' hc' with ⟨hc', hlt'⟩ | ⟨hc', hlt'⟩
      · rw [if_pos hlt] at hk; rw [if_pos hlt'] at hk'
        exact g.gc.dist n m c c' k hc hc' hk hk'
      · rw [if_pos hlt] at hk; rw [if_neg (by omega)] at hk'
        exact (hn.2.2 k (g.inF n c k hc hk) k (g'.inF m c' k hc' hk') rfl).elim
      · rw [if_neg (by omega)] at hk; rw [if_pos hlt'] at hk'
        exact (hn.2.2 k (g.inF m c' k hc' hk') k (g'.inF n c k hc hk) rfl).elim
      · rw [if_neg (by omega)] at hk; rw [if_neg (by omega)] at hk'
        exact g'.gc.dist n m c c' k hc hc' hk hk'
    · intro n c k hc hk
      rcases hlk n c hc with ⟨hc, hlt⟩ | ⟨hc, hlt⟩
      · rw [if_pos hlt] at hk; simp [g.inF n c k hc hk]
      · rw [if_neg (by omega)] at hk; simp [g'.inF n c k hc hk]
    · intro n c k hc hk
      rcases hlk n c hc with ⟨hc, hlt⟩ | ⟨hc, hlt⟩
      · rw [if_pos hlt] at hk; simp [g.inR n c k hc hk]
      · rw [if_neg (by omega)] at hk; simp [g'.inR n c k hc hk]
end Go.Proofs.YtpfbpcaehmhefaaDoorB.Sx
