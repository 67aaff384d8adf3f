/- The engine, part F: contracts over typed data, proved of bodies and used at calls; loops by what stands at their heads. -/
import Derived.Test.YtpfbpcaehmhefaaDoorBZC
namespace Go.Proofs.YtpfbpcaehmhefaaDoorB.Sx
open Go.RowKit
set_option linter.unusedSimpArgs false
set_option linter.unusedVariables false

/-- A compound, and what stands behind it. -/
theorem ScOk.ag {tg : Option FuncId} {w : World} {E E1 E2 : Env} {fr : Nat} {F1 F2 R1 R2 : List Nat} {x y : List AV × Hp × Nat} {us vs : List Value} {FF1 RR1 FF2 RR2 : Nat → List Nat} (g : ScOk w E fr F1 R1 x us E1 FF1 RR1) (g' : ScOk w E1 x.2.2 F2 R2 y vs E2 FF2 RR2) (hx : fr ≤ x.2.2) (hy : x.2.2 ≤ y.2.2)
    (hd : ∀ a ∈ F1, ∀ b ∈ F2, a ≠ b) : ScOk w E fr (F1 ++ F2) (R1 ++ R2) (mkAV tg x.1 :: y.1, x.2.1 ++ y.2.1, y.2.2) (mkAg tg us :: vs) E2 (fun n => if n < x.2.2 then FF1 n else FF2 n) (fun n => if n < x.2.2 then RR1 n else RR2 n) := by
  have hlk : ∀ n c, look (x.2.1 ++ y.2.1) n = some c → (look x.2.1 n = some c ∧ n < x.2.2) ∨ (look y.2.1 n = some c ∧ x.2.2 ≤ n) := by
    intro n c hc
    rw [look_append] at hc
    cases hl : lookO x.2.1 n with
    | some z => rw [hl] at hc; simp only at hc; subst hc; have := look_of_lookO.2 hl; exact .inl ⟨this, (g.lo n c this).2⟩
    | none => rw [hl] at hc; exact .inr ⟨hc, (g'.lo n c hc).1⟩
  refine ⟨Env.le_trans g.ext g'.ext, ?_, ?_, ?_, ⟨?_, ?_, ?_⟩, ?_, ?_⟩
  · intro n a1 a2
    cases hE : E1 n with
    | none => have := g'.dom n hE a2; exact ⟨by omega, this.2⟩
    | some q => have := g.dom n a1 (by rw [hE]; simp); exact ⟨this.1, by show n < y.2.2; omega⟩
  · exact concs_cons.2 ⟨_, _, conc_mkAV (concs_mono g'.ext _ _ g.cells), g'.cells, rfl⟩
  · intro n c hc
    rcases hlk n c hc with ⟨hc, hlt⟩ | ⟨hc, hlt⟩
    · have := g.lo n c hc; exact ⟨this.1, by show n < y.2.2; omega⟩
    · have := g'.lo n c hc; exact ⟨by omega, this.2⟩
  · intro n c hc
    rcases hlk n c hc with ⟨hc, hlt⟩ | ⟨hc, hlt⟩
    · rw [if_pos hlt, if_pos hlt]
      obtain ⟨p, a1, a2⟩ := g.gc.holds n c hc
      exact ⟨p, g'.ext n p a1, AB.mono g'.ext a2⟩
    · rw [if_neg (by omega), if_neg (by omega)]
      exact g'.gc.holds n c hc
  · intro n c hc
    rcases hlk n c hc with ⟨hc, hlt⟩ | ⟨hc, hlt⟩
    · rw [if_pos hlt]; exact g.gc.nodup n c hc
    · rw [if_neg (by omega)]; exact g'.gc.nodup n c hc
  · intro n m c c' k hc hc' hk hk'
    rcases hlk n c hc with ⟨hc, hlt⟩ | ⟨hc, hlt⟩ <;> rcases hlk m c' hc' with ⟨hc', hlt'⟩ | ⟨hc', hlt'⟩
    · rw [if_pos hlt] at hk; rw [if_pos hlt'] at hk'
      exact g.gc.dist n m c c' k hc hc' hk hk'
    · rw [if_pos hlt] at hk; rw [if_neg (by omega)] at hk'
      exact (hd k (g.inF n c k hc hk) k (g'.inF m c' k hc' hk') rfl).elim
    · rw [if_neg (by omega)] at hk; rw [if_pos hlt'] at hk'
      exact (hd k (g.inF m c' k hc' hk') k (g'.inF n c k hc hk) rfl).elim
    · rw [if_neg (by omega)] at hk; rw [if_neg (by omega)] at hk'
      exact g'.gc.dist n m c c' k hc hc' hk hk'
  · intro n c k hc hk
    rcases hlk n c hc with ⟨hc, hlt⟩ | ⟨hc, hlt⟩
    · rw [if_pos hlt] at hk; simp [g.inF n c k hc hk]
    · rw [if_neg (by omega)] at hk; simp [g'.inF n c k hc hk]
  · intro n c k hc hk
    rcases hlk n c hc with ⟨hc, hlt⟩ | ⟨hc, hlt⟩
    · rw [if_pos hlt] at hk; simp [g.inR n c k hc hk]
    · rw [if_neg (by omega)] at hk; simp [g'.inR n c k hc hk]

/-! ### Arguments: data whose own pointers stay -/
/-- Cells hold data; 'Ps': where the own pointers among them lead. -/
def holdA (w : World) : (sh : Sh) → Den sh → List Value → List Pl → List Nat → List Nat → Prop
  | .nil, _, vs, Ps, F, R => vs = [] ∧ Ps = [] ∧ F = [] ∧ R = []
  | .sc c r, d, vs, Ps, F, R => ∃ vs', vs = c.enc (prHd r d) :: vs' ∧ oneCell (.v (c.enc (prHd r d))) = true ∧ holdA w r (prTl r d) vs' Ps F R
  | .sl own e row r, d, vs, Ps, F, R => ∃ v vs' F1 R1 F2 R2, vs = v :: vs' ∧ hold w false (.sl own e row .nil) (prHd r d) [v] F1 R1 ∧ holdA w r (prTl r d) vs' Ps F2 R2 ∧ F = F1 ++ F2 ∧ R = R1 ++ R2
  | .pt own e row r, d, vs, Ps, F, R => match own with
    | true => ∃ p Ps' vs' xs F0 R0 F1 R1 F2 R2, Ps = p :: Ps' ∧ p.nil = false ∧ vs = .pointer (some (p.addr 0 0)) :: vs' ∧ hold w false row (prHd r d) xs F0 R0 ∧ boxH true w e row.size p 1 xs F0 R0 F1 R1 ∧
        holdA w r (prTl r d) vs' Ps' F2 R2 ∧ F = F1 ++ F2 ∧ R = R1 ++ R2
    | false => ∃ v vs' F1 R1 F2 R2, vs = v :: vs' ∧ hold w false (.pt false e row .nil) (prHd r d) [v] F1 R1 ∧ holdA w r (prTl r d) vs' Ps F2 R2 ∧ F = F1 ++ F2 ∧ R = R1 ++ R2
  | .po own e row r, d, vs, Ps, F, R => ∃ v vs' F1 R1 F2 R2, vs = v :: vs' ∧ hold w false (.po own e row .nil) (prHd r d) [v] F1 R1 ∧ holdA w r (prTl r d) vs' Ps F2 R2 ∧ F = F1 ++ F2 ∧ R = R1 ++ R2
  | .ag tg row r, d, vs, Ps, F, R => ∃ v vs' F1 R1 F2 R2, vs = v :: vs' ∧ hold w false (.ag tg row .nil) (prHd r d) [v] F1 R1 ∧ holdA w r (prTl r d) vs' Ps F2 R2 ∧ F = F1 ++ F2 ∧ R = R1 ++ R2
  | .mp k key row r, d, vs, Ps, F, R => ∃ v vs' F1 R1 F2 R2, vs = v :: vs' ∧ objH true w (keyH key) (hold w false row) k (prHd r d) v F1 R1 ∧ holdA w r (prTl r d) vs' Ps F2 R2 ∧ F = F1 ++ F2 ∧ R = R1 ++ R2
def ptrs {α : Type} : Sh → List α → List α
  | .nil, _ => []
  | .sc _ r, _ :: vs => ptrs r vs
  | .sl _ _ _ r, _ :: vs => ptrs r vs
  | .pt own _ _ r, v :: vs => match own with | true => v :: ptrs r vs | false => ptrs r vs
  | .po _ _ _ r, _ :: vs => ptrs r vs
  | .ag _ _ r, _ :: vs => ptrs r vs
  | .mp _ _ _ r, _ :: vs => ptrs r vs
  | _, [] => []
theorem holdA_hold {w : World} : ∀ (sh : Sh) (d : Den sh) (vs : List Value) (Ps : List Pl) (F R : List Nat), holdA w sh d vs Ps F R → hold w false sh d vs F R
  | .nil, d, vs, Ps, F, R, h => ⟨h.1, h.2.2.1, h.2.2.2⟩
  | .sc c r, d, vs, Ps, F, R, h => by
    obtain ⟨vs', h1, h2, h3⟩ := h
    exact ⟨vs', h1, h2, holdA_hold r _ _ _ _ _ h3⟩
  | .sl own e row r, d, vs, Ps, F, R, h => by
    obtain ⟨v, vs', F1, R1, F2, R2, rfl, h2, h3, rfl, rfl⟩ := h
    obtain ⟨p, us, xs, F0, R0, Fa, Ra, Fb, Rb, g1, g2, g3, ⟨g4, g5, g6⟩, rfl, rfl⟩ := h2
    subst g4 g5 g6
    simp only [List.cons.injEq] at g1
    obtain ⟨rfl, _⟩ := g1
    exact ⟨p, vs', xs, F0, R0, _, _, F2, R2, rfl, g2, g3, holdA_hold r _ _ _ _ _ h3, by simp, by simp⟩
  | .pt own e row r, d, vs, Ps, F, R, h => by
    cases own with
    | true =>
      obtain ⟨p, Ps', vs', xs, F0, R0, F1, R1, F2, R2, rfl, h1, h2, h3, h4, h5, rfl, rfl⟩ := h
      exact ⟨p, vs', xs, F0, R0, F1, R1, F2, R2, h1, h2, h3, h4, holdA_hold r _ _ _ _ _ h5, rfl, rfl⟩
    | false =>
      obtain ⟨v, vs', F1, R1, F2, R2, rfl, h2, h3, rfl, rfl⟩ := h
      obtain ⟨p, us, xs, F0, R0, Fa, Ra, Fb, Rb, g0, g1, g2, g3, ⟨g4, g5, g6⟩, rfl, rfl⟩ := h2
      subst g4 g5 g6
      simp only [List.cons.injEq] at g1
      obtain ⟨rfl, _⟩ := g1
      exact ⟨p, vs', xs, F0, R0, _, _, F2, R2, g0, rfl, g2, g3, holdA_hold r _ _ _ _ _ h3, by simp, by simp⟩
  | .po own e row r, d, vs, Ps, F, R, h => by
    obtain ⟨v, vs', F1, R1, F2, R2, rfl, h2, h3, rfl, rfl⟩ := h
    obtain ⟨v0, us, Fa, Ra, Fb, Rb, g1, rfl, rfl, ⟨g4, g5, g6⟩, g7⟩ := h2
    subst g4 g5 g6
    simp only [List.cons.injEq] at g1
    obtain ⟨rfl, _⟩ := g1
    exact ⟨v, vs', _, _, F2, R2, rfl, by simp, by simp, holdA_hold r _ _ _ _ _ h3, g7⟩
  | .mp k key row r, d, vs, Ps, F, R, h => by
    obtain ⟨v, vs', F1, R1, F2, R2, rfl, h2, h3, rfl, rfl⟩ := h
    exact ⟨v, vs', _, _, F2, R2, rfl, h2, holdA_hold r _ _ _ _ _ h3, rfl, rfl⟩
  | .ag tg row r, d, vs, Ps, F, R, h => by
    obtain ⟨v, vs', F1, R1, F2, R2, rfl, h2, h3, rfl, rfl⟩ := h
    obtain ⟨us, us', Fa, Ra, Fb, Rb, g1, g2, ⟨g4, g5, g6⟩, rfl, rfl⟩ := h2
    subst g4 g5 g6
    simp only [List.cons.injEq] at g1
    obtain ⟨rfl, _⟩ := g1
    exact ⟨us, vs', _, _, F2, R2, rfl, g2, holdA_hold r _ _ _ _ _ h3, by simp, by simp⟩

/-- Where own pointers' names lie. -/
def PlOk (E : Env) (Ps : List Pl) (as : List AV) : Prop := ∃ ns : List Nat, as = ns.map (fun n => AV.ptr n 0 0) ∧ ns.map E = Ps.map some
theorem PlOk.mono {E E' : Env} {Ps : List Pl} {as : List AV} (h : PlOk E Ps as) (hE : E.le E') : PlOk E' Ps as := by
  obtain ⟨ns, h1, h2⟩ := h
  refine ⟨ns, h1, ?_⟩
  rw [← h2]
  have : ∀ n ∈ ns, ∃ p, E n = some p := by
    intro n hn
    have : E n ∈ ns.map E := List.mem_map.2 ⟨n, hn, rfl⟩
    rw [h2] at this
    obtain ⟨p, _, hp⟩ := List.mem_map.1 this
    exact ⟨p, hp.symm⟩
  refine List.map_congr_left fun n hn => ?_
  obtain ⟨p, hp⟩ := this n hn
  rw [hp, hE n p hp]

/-- Arguments laid out as named blocks. -/
theorem scatA_ok {w : World} : ∀ (sh : Sh) (d : Den sh) (vs : List Value) (Ps : List Pl) (F R : List Nat) (fr : Nat) (E : Env), holdA w sh d vs Ps F R → F.Nodup → (∀ n, fr ≤ n → n < (scat false sh d fr).get.2.2 → E n = none) →
    ∃ E' FF RR, ScOk w E fr F R (scat false sh d fr).get vs E' FF RR ∧ PlOk E' Ps (ptrs sh (scat false sh d fr).get.1)
  | .nil, d, vs, Ps, F, R, fr, E, h, hn, hfr => by
    obtain ⟨h1, h2, h3, h4⟩ := h
    obtain ⟨E', FF, RR, g⟩ := scat_ok .nil d vs F R fr E ⟨h1, h3, h4⟩ hn hfr
    exact ⟨E', FF, RR, g, [], rfl, by rw [h2]; rfl⟩
  | .sc c r, d, vs, Ps, F, R, fr, E, h, hn, hfr => by
    obtain ⟨vs', rfl, h2, h3⟩ := h
    simp only [scat, T.get_map] at hfr ⊢
    obtain ⟨E', FF, RR, g, hp⟩ := scatA_ok r _ _ _ _ _ fr E h3 hn hfr
    exact ⟨E', FF, RR, ⟨g.ext, g.dom, concs_cons.2 ⟨_, _, rfl, g.cells, rfl⟩, g.lo, g.gc, g.inF, g.inR⟩, hp⟩
  | .sl own e row r, d, vs, Ps, F, R, fr, E, h, hn, hfr => by
    obtain ⟨v, vs', F1, R1, F2, R2, rfl, h2, h3, rfl, rfl⟩ := h
    obtain ⟨p, us, xs, F0, R0, Fa, Ra, Fb, Rb, g1, g2, g3, ⟨g4, g5, g6⟩, rfl, rfl⟩ := h2
    subst g4 g5 g6
    simp only [List.cons.injEq, and_true] at g1
    subst g1
    simp only [List.append_nil] at hn ⊢
    simp only [scat, T.get_map] at hfr ⊢
    have hge := scat_ge (lx := false) r (prTl r d) (fr + 1)
    have h0 : E fr = none := hfr fr (Nat.le_refl _) (by omega)
    obtain ⟨E', FF, RR, g, hp⟩ := scatA_ok r _ _ _ _ _ (fr + 1) (E.set fr p) h3 (List.nodup_append.1 hn).2.1 (fun n h1 h2 => by rw [Env.set_ne (by omega)]; exact hfr n (by omega) h2)
    exact ⟨E', _, _, g.cons h0 hge (box_holds trivial (by rw [and_not] at g2; exact g2) g3) hn conc_box, hp⟩
  | .pt own e row r, d, vs, Ps, F, R, fr, E, h, hn, hfr => by
    cases own with
    | true =>
      obtain ⟨p, Ps', vs', xs, F0, R0, F1, R1, F2, R2, rfl, h1, rfl, h3, h4, h5, rfl, rfl⟩ := h
      simp only [scat, T.get_map] at hfr ⊢
      have hge := scat_ge (lx := false) r (prTl r d) (fr + 1)
      have h0 : E fr = none := hfr fr (Nat.le_refl _) (by omega)
      obtain ⟨E', FF, RR, g, ns, hp1, hp2⟩ := scatA_ok r _ _ _ _ _ (fr + 1) (E.set fr p) h5 (List.nodup_append.1 hn).2.1 (fun n h1 h2 => by rw [Env.set_ne (by omega)]; exact hfr n (by omega) h2)
      refine ⟨E', _, _, g.cons h0 hge (box_holds (own := true) trivial (rowsH_one.2 h3) h4) hn conc_bptr, fr :: ns, ?_, ?_⟩
      · simp only [ptrs, List.map_cons, hp1]
      · simp only [List.map_cons, hp2]
        rw [g.ext fr p (Env.set_self _ _ _)]
    | false =>
      obtain ⟨v, vs', F1, R1, F2, R2, rfl, h2, h3, rfl, rfl⟩ := h
      obtain ⟨p, us, xs, F0, R0, Fa, Ra, Fb, Rb, g0, g1, g2, g3, ⟨g4, g5, g6⟩, rfl, rfl⟩ := h2
      subst g4 g5 g6
      simp only [List.cons.injEq, and_true] at g1
      subst g1
      simp only [List.append_nil] at hn ⊢
      simp only [scat, T.get_map] at hfr ⊢
      have hge := scat_ge (lx := false) r (prTl r d) (fr + 1)
      have h0 : E fr = none := hfr fr (Nat.le_refl _) (by omega)
      obtain ⟨E', FF, RR, g, hp⟩ := scatA_ok r _ _ _ _ _ (fr + 1) (E.set fr p) h3 (List.nodup_append.1 hn).2.1 (fun n h1 h2 => by rw [Env.set_ne (by omega)]; exact hfr n (by omega) h2)
      exact ⟨E', _, _, g.cons h0 hge (box_holds (own := false) trivial (rowsH_one.2 g2) g3) hn conc_bptr, hp⟩
  | .po own e row r, d, vs, Ps, F, R, fr, E, h, hn, hfr => by
    obtain ⟨v, vs', F1, R1, F2, R2, rfl, h2, h3, rfl, rfl⟩ := h
    obtain ⟨v0, us, Fa, Ra, Fb, Rb, g1, rfl, rfl, ⟨g4, g5, g6⟩, g7⟩ := h2
    subst g4 g5 g6
    simp only [List.cons.injEq, and_true] at g1
    subst g1
    simp only [List.append_nil] at hn ⊢
    simp only [scat, T.get_ite] at hfr ⊢
    have hd' : prHd Sh.nil (prHd r d : pr (Option (Den row)) .nil Unit) = prHd r d := rfl
    rw [hd'] at g7
    cases hd : prHd r d with
    | none =>
      rw [hd] at g7 hfr
      obtain ⟨rfl, rfl, rfl⟩ := g7
      simp only [Option.isSome_none, Bool.false_eq_true, if_false, T.get_map] at hfr ⊢
      obtain ⟨E', FF, RR, g, hp⟩ := scatA_ok r _ _ _ _ _ fr E h3 (by simpa using hn) hfr
      exact ⟨E', FF, RR, ⟨g.ext, g.dom, concs_cons.2 ⟨_, _, rfl, g.cells, rfl⟩, g.lo, g.gc, g.inF, g.inR⟩, hp⟩
    | some x =>
      rw [hd] at g7 hfr
      obtain ⟨p, xs, F0, R0, hnil, rfl, k2, k3⟩ := g7
      simp only [Option.isSome_some, if_true, T.get_map, Option.getD_some] at hfr ⊢
      have hge := scat_ge (lx := false) r (prTl r d) (fr + 1)
      have h0 : E fr = none := hfr fr (Nat.le_refl _) (by omega)
      obtain ⟨E', FF, RR, g, hp⟩ := scatA_ok r _ _ _ _ _ (fr + 1) (E.set fr p) h3 (List.nodup_append.1 hn).2.1 (fun n h1 h2 => by rw [Env.set_ne (by omega)]; exact hfr n (by omega) h2)
      exact ⟨E', _, _, g.cons h0 hge (box_holds trivial (rowsH_one.2 (by rw [and_not] at k2; exact k2)) k3) hn conc_bptr, hp⟩
  | .mp k key row r, d, vs, Ps, F, R, fr, E, h, hn, hfr => by
    obtain ⟨v, vs', F1, R1, F2, R2, rfl, h2, h3, rfl, rfl⟩ := h
    obtain ⟨p, rfl⟩ := objH_at h2
    simp only [scat, T.get_map] at hfr ⊢
    have hge := scat_ge (lx := false) r (prTl r d) (fr + 1)
    have h0 : E fr = none := hfr fr (Nat.le_refl _) (by omega)
    obtain ⟨E', FF, RR, g, hp⟩ := scatA_ok r _ _ _ _ _ (fr + 1) (E.set fr p) h3 (List.nodup_append.1 hn).2.1 (fun n h1 h2 => by rw [Env.set_ne (by omega)]; exact hfr n (by omega) h2)
    exact ⟨E', _, _, g.cons (b := .obj (!false) k key row (prHd r d)) h0 hge h2 hn (conc_obAV (Env.set_self _ _ _) k), hp⟩
  | .ag tg row r, d, vs, Ps, F, R, fr, E, h, hn, hfr => by
    obtain ⟨v, vs', F1, R1, F2, R2, rfl, h2, h3, rfl, rfl⟩ := h
    obtain ⟨us, us', Fa, Ra, Fb, Rb, g1, h2, ⟨g4, g5, g6⟩, rfl, rfl⟩ := h2
    subst g4 g5 g6
    simp only [List.cons.injEq, and_true] at g1
    subst g1
    simp only [List.append_nil] at hn ⊢
    simp only [scat, T.get_bind, T.get_map] at hfr ⊢
    have hge1 := scat_ge (lx := false) row (prHd r d) fr
    have hge2 := scat_ge (lx := false) r (prTl r d) (scat false row (prHd r d) fr).get.2.2
    rw [List.nodup_append] at hn
    have h2 : hold w false row (prHd r d) us Fa Ra := h2
    obtain ⟨E1, FF1, RR1, g⟩ := scat_ok row _ _ _ _ fr E h2 hn.1 (fun n h1 h2 => hfr n h1 (by omega))
    obtain ⟨E2, FF2, RR2, g', hp⟩ := scatA_ok r _ _ _ _ _ (scat false row (prHd r d) fr).get.2.2 E1 h3 hn.2.1 (fun n h1 h2 => by
      cases hE : E1 n with
      | none => rfl
      | some q =>
        have := g.dom n (hfr n (by omega) h2) (by rw [hE]; simp)
        omega)
    refine ⟨E2, _, _, ScOk.ag g g' hge1 hge2 hn.2.2, ?_⟩
    exact hp

/-! ### Gathered -/
section
variable {E : Env} {lk : Nat → Option AB} {w : World} {FF RR : Nat → List Nat}
theorem gatP_own (G : Gc E lk w FF RR) {e : TypeId} {row : Sh} {v : AV} {V : Value} {a : Den row × List Nat × List Nat}
    (hv : conc E v = some V) (h : (gatP lk true e row (gat lk false row) v).get = some a) : ∃ n p xs F0 R0 F R, v = .ptr n 0 0 ∧ E n = some p ∧ p.nil = false ∧ V = .pointer (some (p.addr 0 0)) ∧ hold w false row a.1 xs F0 R0 ∧ boxH true w e row.size p 1 xs F0 R0 F R ∧ InF lk FF F a.2.1 ∧ InR lk FF RR R a.2.1 a.2.2 ∧ (a.2.1.Nodup → F.Nodup) := by
  obtain ⟨hg, hx⟩ := gat_ok G false row
  unfold gatP at h
  split at h
  case h_2 => exact get_noG h
  rename_i n r o
  cases hb : (Nat.beq o 0 && Nat.beq r 0) with
  | false => rw [hb] at h; exact get_noG h
  | true =>
    rw [hb] at h
    simp only [cond_true] at h
    simp only [Bool.and_eq_true] at hb
    have h1 := Nat.eq_of_beq_eq_true hb.1
    have h2 := Nat.eq_of_beq_eq_true hb.2
    subst h1 h2
    obtain ⟨b, hb1, h⟩ := T.get_bindO h
    split at h
    case h_2 => exact get_noG h
    rename_i d hd
    simp only [T.get, Option.some.injEq] at h
    subst h
    obtain ⟨p, xs, F0, R0, F, R, hp, h1, h2, h3, h4, h5, _⟩ := gatB_ok G (own := true) rfl hg hx hb1
    rw [hd] at h1 h2
    simp only [conc, hp, Option.map_some, Option.some.injEq] at hv
    have hnil : p.nil = false := by
      cases hn : p.nil with
      | false => rfl
      | true =>
        exfalso
        obtain ⟨⟨_, _, _, h4⟩, _⟩ := h2
        rcases h4 with ⟨_, h4, _⟩ | ⟨h4, _⟩
        · simp at h4
        · rw [hn] at h4; cases h4
    exact ⟨n, p, xs, F0, R0, F, R, rfl, hp, hnil, hv.symm, rowsH_one.1 h1, h2, h3, h4, h5⟩
theorem PlOk.nil : PlOk E [] [] := ⟨[], rfl, rfl⟩
theorem PlOk.cons {n : Nat} {p : Pl} {Ps : List Pl} {as : List AV} (h : E n = some p) (k : PlOk E Ps as) : PlOk E (p :: Ps) (.ptr n 0 0 :: as) := by
  obtain ⟨ns, rfl, h2⟩ := k
  exact ⟨n :: ns, rfl, by simp [h, h2]⟩
theorem gatA_ok (G : Gc E lk w FF RR) : ∀ (sh : Sh) (cs : List AV) (vs : List Value) (a : Den sh × List Nat × List Nat), concs E cs = some vs → (gat lk false sh cs).get = some a →
    ∃ Ps F R, PlOk E Ps (ptrs sh cs) ∧ Got lk FF RR (fun d vs F R => holdA w sh d vs Ps F R) vs a F R
  | .nil, cs, vs, a, hc, h => by
    simp only [gat] at h
    split at h
    · simp only [T.get, Option.some.injEq] at h
      subst h
      simp only [concs, Option.some.injEq] at hc
      subst hc
      exact ⟨[], [], [], PlOk.nil, ⟨rfl, rfl, rfl, rfl⟩, fun k hk => by simp at hk, fun k hk => by simp at hk, fun _ => List.nodup_nil⟩
    · exact get_noG h
  | .sc c r, cs, vs, a, hc, h => by
    simp only [gat] at h
    split at h
    case h_2 => exact get_noG h
    rename_i v us
    split at h
    case h_2 => exact get_noG h
    rename_i x hx
    obtain ⟨y, hy, hd⟩ := Option.bind_eq_some_iff.1 hx
    obtain ⟨b, hb, rfl⟩ := T.get_mapO h
    obtain ⟨V, Vs, g1, g2, rfl⟩ := concs_cons.1 hc
    rw [plain_conc hy E] at g1
    cases g1
    obtain ⟨e1, e2⟩ := Ck.dec_enc hd
    obtain ⟨Ps, F, R, hp, q⟩ := gatA_ok G r _ _ _ g2 hb
    refine ⟨Ps, F, R, hp, ⟨Vs, ?_, ?_, ?_⟩, q.inF, q.inR, q.nodup⟩
    · rw [prHd_mk, e1]
    · rw [prHd_mk, e1]; exact e2
    · rw [prTl_mk]; exact q.data
  | .sl own e row r, cs, vs, a, hc, h => by
    obtain ⟨j1, j2⟩ := gat_ok G (false || !own) row
    simp only [gat] at h
    split at h
    case h_2 => exact get_noG h
    rename_i v us
    obtain ⟨b1, h1, h⟩ := T.get_bindO h
    obtain ⟨b2, h2, rfl⟩ := T.get_mapO h
    obtain ⟨V, Vs, g1, g2, rfl⟩ := concs_cons.1 hc
    obtain ⟨p, xs, F0, R0, F, R, k1, k2, k3, k4, k5, k6, k7⟩ := gatS_ok G and_not j1 j2 g1 h1
    obtain ⟨Ps, F2, R2, hp, q⟩ := gatA_ok G r _ _ _ g2 h2
    refine ⟨Ps, F ++ F2, R ++ R2, hp, ⟨V, Vs, F, R, F2, R2, rfl, ⟨p, [], xs, F0, R0, F, R, [], [], ?_, ?_, ?_, ⟨rfl, rfl, rfl⟩, by simp, by simp⟩, ?_, rfl, rfl⟩, k4.append q.inF, k5.append q.inR, fun hn => nodup_two G k4 q.inF k6 q.nodup hn⟩
    · show [V] = [Value.slice (p.ptr 0 0) (prHd r (prMk r b1.1 b2.1)).length p.cap]
      rw [prHd_mk, k1]
    · show rowsH _ (prHd r (prMk r b1.1 b2.1)) _ _ _
      rw [prHd_mk]; exact k2
    · show boxH _ _ _ _ _ (prHd r (prMk r b1.1 b2.1)).length _ _ _ _ _
      rw [prHd_mk]; exact k3
    · rw [prTl_mk]; exact q.data
  | .pt own e row r, cs, vs, a, hc, h => by
    cases own with
    | true =>
      simp only [gat] at h
      split at h
      case h_2 => exact get_noG h
      rename_i v us
      obtain ⟨b1, h1, h⟩ := T.get_bindO h
      obtain ⟨b2, h2, rfl⟩ := T.get_mapO h
      obtain ⟨V, Vs, g1, g2, rfl⟩ := concs_cons.1 hc
      obtain ⟨n, p, xs, F0, R0, F, R, rfl, hE, k0, k1, k2, k3, k4, k5, k6⟩ := gatP_own G g1 h1
      obtain ⟨Ps, F2, R2, hp, q⟩ := gatA_ok G r _ _ _ g2 h2
      refine ⟨p :: Ps, F ++ F2, R ++ R2, PlOk.cons hE hp, ⟨p, Ps, Vs, xs, F0, R0, F, R, F2, R2, rfl, k0, by rw [k1], ?_, k3, ?_, rfl, rfl⟩, k4.append q.inF, k5.append q.inR, fun hn => nodup_two G k4 q.inF k6 q.nodup hn⟩
      · rw [prHd_mk]; exact k2
      · rw [prTl_mk]; exact q.data
    | false =>
      obtain ⟨j1, j2⟩ := gat_ok G (false || !false) row
      simp only [gat] at h
      split at h
      case h_2 => exact get_noG h
      rename_i v us
      obtain ⟨b1, h1, h⟩ := T.get_bindO h
      obtain ⟨b2, h2, rfl⟩ := T.get_mapO h
      obtain ⟨V, Vs, g1, g2, rfl⟩ := concs_cons.1 hc
      obtain ⟨p, xs, F0, R0, F, R, k0, k1, k2, k3, k4, k5, k6, k7⟩ := gatP_ok G and_not j1 j2 g1 h1
      obtain ⟨Ps, F2, R2, hp, q⟩ := gatA_ok G r _ _ _ g2 h2
      refine ⟨Ps, F ++ F2, R ++ R2, hp, ⟨V, Vs, F, R, F2, R2, rfl, ⟨p, [], xs, F0, R0, F, R, [], [], k0, by rw [k1], ?_, k3, ⟨rfl, rfl, rfl⟩, by simp, by simp⟩, ?_, rfl, rfl⟩, k4.append q.inF, k5.append q.inR, fun hn => nodup_two G k4 q.inF k6 q.nodup hn⟩
      · show hold _ _ _ (prHd r (prMk r b1.1 b2.1)) _ _ _
        rw [prHd_mk]; exact k2
      · rw [prTl_mk]; exact q.data
  | .po own e row r, cs, vs, a, hc, h => by
    obtain ⟨j1, j2⟩ := gat_ok G (false || !own) row
    simp only [gat] at h
    split at h
    · obtain ⟨b2, h2, rfl⟩ := T.get_mapO h
      obtain ⟨V, Vs, g1, g2, rfl⟩ := concs_cons.1 hc
      simp only [conc, Option.some.injEq] at g1
      obtain ⟨Ps, F2, R2, hp, q⟩ := gatA_ok G r _ _ _ g2 h2
      refine ⟨Ps, [] ++ F2, [] ++ R2, hp, ⟨V, Vs, [], [], F2, R2, rfl, ⟨V, [], [], [], [], [], rfl, rfl, rfl, ⟨rfl, rfl, rfl⟩, ?_⟩, ?_, rfl, rfl⟩, q.inF, q.inR, q.nodup⟩
      · have e : prHd Sh.nil (prHd r (prMk r none b2.1) : pr (Option (Den row)) .nil Unit) = (none : Option (Den row)) := prHd_mk r none b2.1
        rw [e]; exact ⟨g1.symm, rfl, rfl⟩
      · rw [prTl_mk]; exact q.data
    · rename_i v us _
      obtain ⟨b1, h1, h⟩ := T.get_bindO h
      obtain ⟨b2, h2, rfl⟩ := T.get_mapO h
      obtain ⟨V, Vs, g1, g2, rfl⟩ := concs_cons.1 hc
      obtain ⟨p, xs, F0, R0, F, R, k0, k1, k2, k3, k4, k5, k6, k7⟩ := gatP_ok G and_not j1 j2 g1 h1
      obtain ⟨Ps, F2, R2, hp, q⟩ := gatA_ok G r _ _ _ g2 h2
      refine ⟨Ps, F ++ F2, R ++ R2, hp, ⟨V, Vs, F, R, F2, R2, rfl, ⟨V, [], F, R, [], [], rfl, by simp, by simp, ⟨rfl, rfl, rfl⟩, ?_⟩, ?_, rfl, rfl⟩, k4.append q.inF, k5.append q.inR, fun hn => nodup_two G k4 q.inF k6 q.nodup hn⟩
      · have e : prHd Sh.nil (prHd r (prMk r (some b1.1) b2.1) : pr (Option (Den row)) .nil Unit) = some b1.1 := prHd_mk r (some b1.1) b2.1
        rw [e]; exact ⟨p, xs, F0, R0, k0, k1, k2, k3⟩
      · rw [prTl_mk]; exact q.data
    · exact get_noG h
  | .mp k key row r, cs, vs, a, hc, h => by
    obtain ⟨j1, j2⟩ := gat_ok G false row
    simp only [gat] at h
    split at h
    case h_2 => exact get_noG h
    rename_i v us
    obtain ⟨b1, h1, h⟩ := T.get_bindO h
    obtain ⟨b2, h2, rfl⟩ := T.get_mapO h
    obtain ⟨V, Vs, g1, g2, rfl⟩ := concs_cons.1 hc
    obtain ⟨F1, R1, k1, k4, k5, k6, k7⟩ := gatO_ok G rfl j1 j2 g1 h1
    obtain ⟨Ps, F2, R2, hp, q2⟩ := gatA_ok G r _ _ _ g2 h2
    refine ⟨Ps, F1 ++ F2, R1 ++ R2, hp, ⟨V, Vs, F1, R1, F2, R2, rfl, ?_, ?_, rfl, rfl⟩, k4.append q2.inF, k5.append q2.inR, fun hn => nodup_two G k4 q2.inF k6 q2.nodup hn⟩
    · rw [prHd_mk]; exact k1
    · rw [prTl_mk]; exact q2.data
  | .ag tg row r, cs, vs, a, hc, h => by
    obtain ⟨j1, j2⟩ := gat_ok G false row
    simp only [gat] at h
    split at h
    case h_2 => exact get_noG h
    rename_i v us
    split at h
    case h_2 => exact get_noG h
    rename_i xs hxs
    obtain ⟨b1, h1, h⟩ := T.get_bindO h
    obtain ⟨b2, h2, rfl⟩ := T.get_mapO h
    obtain ⟨V, Vs, g1, g2, rfl⟩ := concs_cons.1 hc
    obtain ⟨Xs, rfl, g3⟩ := aggOf_conc hxs g1
    obtain ⟨F1, R1, q1⟩ := j1 _ _ _ g3 h1
    obtain ⟨Ps, F2, R2, hp, q2⟩ := gatA_ok G r _ _ _ g2 h2
    refine ⟨Ps, F1 ++ F2, R1 ++ R2, hp, ⟨_, Vs, F1, R1, F2, R2, rfl, ⟨Xs, [], F1, R1, [], [], rfl, ?_, ⟨rfl, rfl, rfl⟩, by simp, by simp⟩, ?_, rfl, rfl⟩, q1.inF.append q2.inF, q1.inR.append q2.inR, fun hn => nodup_two G q1.inF q2.inF q1.nodup q2.nodup hn⟩
    · show hold _ _ _ (prHd r (prMk r b1.1 b2.1)) _ _ _
      rw [prHd_mk]; exact q1.data
    · rw [prTl_mk]; exact q2.data
end
end Go.Proofs.YtpfbpcaehmhefaaDoorB.Sx
