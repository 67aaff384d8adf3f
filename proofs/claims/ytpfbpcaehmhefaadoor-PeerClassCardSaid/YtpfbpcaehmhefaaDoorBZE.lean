/- The engine, part E: callees carried out in their caller's place; laws without inputs. -/
import Derived.Test.YtpfbpcaehmhefaaDoorBZD
namespace Go.Proofs.YtpfbpcaehmhefaaDoorB.Sx
open Go.RowKit
set_option linter.unusedSimpArgs false
set_option linter.unusedVariables false

def bnames : Option AB → List Nat
  | some b => b.names
  | none => []
/-- The names that names lead to. -/
def reach (lk : Nat → Option AB) : Nat → List Nat → List Nat → List Nat
  | 0, _, seen => seen
  | _ + 1, [], seen => seen
  | k + 1, n :: todo, seen => bif seen.contains n then reach lk k todo seen else reach lk k (bnames (lk n) ++ todo) (n :: seen)
def closedB (lk : Nat → Option AB) (R : List Nat) : Bool := R.all fun n => (bnames (lk n)).all R.contains
theorem reach_mono {lk : Nat → Option AB} : ∀ (k : Nat) (todo seen : List Nat), ∀ n ∈ seen, n ∈ reach lk k todo seen
  | 0, _, _, n, h => h
  | _ + 1, [], _, n, h => h
  | k + 1, m :: todo, seen, n, h => by
    unfold reach
    cases seen.contains m with
    | true => exact reach_mono k todo seen n h
    | false => exact reach_mono k _ _ n (by simp [h])
theorem reach_loc {lk lk' : Nat → Option AB} : ∀ (k : Nat) (todo seen : List Nat), (∀ n ∈ reach lk k todo seen, lk' n = lk n) → reach lk' k todo seen = reach lk k todo seen
  | 0, _, _, _ => rfl
  | _ + 1, [], _, _ => rfl
  | k + 1, m :: todo, seen, h => by
    unfold reach at h ⊢
    cases hc : seen.contains m with
    | true => rw [hc] at h; exact reach_loc k todo seen h
    | false =>
      rw [hc] at h
      simp only [cond_false] at h ⊢
      rw [h m (reach_mono k _ _ m (by simp))]
      exact reach_loc k _ _ h
def fuelR : Nat := 4000
def heapOf (lk : Nat → Option AB) (R : List Nat) : Hp := R.map fun n => (n, lk n)
/-- What a callee has done, for its caller. -/
def mkEff (R : List Nat) (h0 : Hp) (fr : Nat) (r : AV) (s : AS) : Eff :=
  let up := R.filter fun n => isOwn (look h0 n)
  let nw := (reach (look s.h) fuelR (r.names ++ up) []).filter fun n => Nat.ble fr n
  { val := r, reads := R, upd := up.map fun n => (n, look s.h n), news := nw.map fun n => (n, look s.h n), nn := s.nx - fr }
/-- A callee's summary: its body's run. -/
def inlS (C : Cx) (gn : List Nat) (fuel : Nat) (fn : Func) (c : Code) (pl : Plan) : Spec := fun args lk fr =>
  fNs (reach lk fuelR (namesL args ++ gn) []) fun R =>
    bif R.all (fun n => Nat.blt n fr) && closedB lk R && (namesL args ++ gn).all R.contains then
      fR lk R fun h0 => fL args fun args =>
        (enter (β := T (Option (AV × AS))) (.leaf none) fn.ntmps args h0 fr fun s => avc (TO _) (unr (.leaf none) fuel) C c pl s (endsIn (TO _) C.P fn fun r s => .leaf (some (r, s)))).mapO
          fun x => mkEff R h0 fr x.1 x.2
    else .leaf none
def inlT (C : Cx) (gn : List Nat) (fuel : Nat) (fn : Func) (c : Code) (pl : Plan) : Spec := fun args lk fr =>
  let R := reach lk fuelR (namesL args ++ gn) []
  bif R.all (fun n => Nat.blt n fr) && closedB lk R && (namesL args ++ gn).all R.contains then
    (enter (β := T (Option (AV × AS))) (.leaf none) fn.ntmps args (heapOf lk R) fr fun s => avc (TO _) (unr (.leaf none) fuel) C c pl s (endsIn (TO _) C.P fn fun r s => .leaf (some (r, s)))).mapO
      fun x => mkEff R (heapOf lk R) fr x.1 x.2
  else .leaf none
theorem inlS_eq (C : Cx) (gn : List Nat) (fuel : Nat) (fn : Func) (c : Code) (pl : Plan) (args : List AV) (lk : Nat → Option AB) (fr : Nat) : inlS C gn fuel fn c pl args lk fr = inlT C gn fuel fn c pl args lk fr := by
  unfold inlS inlT
  rw [fNs_eq]
  simp only [fR_eq, fL_eq]
  rfl
def inl (C : Cx) (gn : List Nat) (fuel : Nat) (f : FuncId) : Option Spec :=
  match C.P.funcs[f]? with
  | some fn =>
    match fn.body with
    | some c => bif fn.name == "runtime.NumGoroutine" then none else some (inlS C gn fuel fn c (C.pl f))
    | none => none
  | none => none

/-- A call within a frame: what is known of the names that a callee sees gives what its caller knows behind it. -/
theorem frame_call {W0 : World} {S : Reg} {E : Env} {hp : Nat → Option AB} {w : World} {F R : Nat → List Nat} (G : Gf W0 S E hp w F R) {L : List Nat} {fr : Nat} (hL : ∀ n ∈ L, n < fr) (hcl : ∀ n ∈ L, ∀ b, hp n = some b → ∀ m ∈ b.names, m ∈ L) :
    Gam w ⟨fun k => ∃ n ∈ L, ∃ b, hp n = some b ∧ k ∈ F n, fun k => ∃ n ∈ L, ∃ b, hp n = some b ∧ k ∈ R n⟩ (fun n => if n ∈ L then E n else none) (look (heapOf hp L)) w := by
  have hlk : ∀ n b, look (heapOf hp L) n = some b → n ∈ L ∧ hp n = some b := by
    intro n b h
    unfold heapOf at h
    rw [look_map] at h
    split at h
    · rename_i hn; exact ⟨hn, h⟩
    · cases h
  refine ⟨F, R, ⟨?_, ?_, ?_⟩, Fr.refl _ _, ?_, ?_, ?_, G.globIn fun k ⟨n, _, b, hb, hk⟩ => G.feet n b k hb hk⟩
  · intro n b h
    obtain ⟨hn, hb⟩ := hlk n b h
    obtain ⟨p, hp1, hh⟩ := G.holds n b hb
    exact ⟨p, by rw [if_pos hn]; exact hp1, AB.congr (fun m hm => if_pos (hcl n hn b hb m hm)) hh⟩
  · intro n b h; exact G.nodup n b (hlk n b h).2
  · intro n m b c k h h' hk hk'; exact G.dist n m b c k (hlk n b h).2 (hlk m c h').2 hk hk'
  · intro n b k h hk
    obtain ⟨hn, hb⟩ := hlk n b h
    exact .inl ⟨n, hn, b, hb, hk⟩
  · intro n b k h hk
    obtain ⟨hn, hb⟩ := hlk n b h
    exact .inl ⟨n, hn, b, hb, hk⟩
  · rintro k ⟨n, hn, b, hb, hk⟩
    obtain ⟨p, _, hh⟩ := G.holds n b hb
    refine ⟨(AB.lt hh).2 k hk, ?_⟩
    rintro ⟨m, hm, c, hc, hk'⟩
    obtain ⟨h1, h2⟩ := G.old n b k hb hk
    rcases G.feet m c k hc hk' with h3 | h3
    · exact h2 h3
    · omega
theorem frame_back {W0 : World} {S : Reg} {E E' : Env} {hp : Nat → Option AB} {w w' : World} {F R : Nat → List Nat} (G : Gf W0 S E hp w F R) {L : List Nat} {fr nx : Nat} (hL : ∀ n ∈ L, n < fr) (hfr : ∀ n, fr ≤ n → n < fr + (nx - fr) → E n = none) (hnx : fr ≤ nx)
    (hanc : Anc fr (fun n => if n ∈ L then E n else none) E') (hfresh : ∀ n, nx ≤ n → E' n = none) {h' : Hp}
    (G' : Gam w ⟨fun k => ∃ n ∈ L, ∃ b, hp n = some b ∧ k ∈ F n, fun k => ∃ n ∈ L, ∃ b, hp n = some b ∧ k ∈ R n⟩ E' (look h') w') {e : Eff} (hnn : e.nn = nx - fr)
    (hput : ∀ n b, lookO e.put n = some (some b) → look h' n = some b) (hup : ∀ n ∈ L, ∀ b, hp n = some b → isOwn (some b) = true → (lookO e.upd n).isSome = true) :
    ∃ E2, E.le E2 ∧ (∀ n, E n = none → E2 n ≠ none → fr ≤ n ∧ n < fr + e.nn) ∧ E'.le E2 ∧ Gam W0 S E2 (after hp e) w' := by
  obtain ⟨F', R', G'⟩ := G'
  let E2 : Env := fun n => if fr ≤ n ∧ n < nx then E' n else E n
  have hE2 : E.le E2 := by
    intro n p hp1
    simp only [E2]
    split
    · rename_i hin
      have := hfr n hin.1 (by omega)
      rw [hp1] at this; cases this
    · exact hp1
  have hE' : ∀ n p, E' n = some p → E2 n = some p := by
    intro n p h
    have hlt : n < nx := by
      rcases Nat.lt_or_ge n nx with h1 | h1
      · exact h1
      · rw [hfresh n h1] at h; cases h
    rcases Nat.lt_or_ge n fr with h1 | h1
    · cases hE1n : (fun n => if n ∈ L then E n else none) n with
      | none => rw [hanc.low n h1 hE1n] at h; cases h
      | some q =>
        have := hanc.le n q hE1n
        rw [h] at this
        cases this
        simp only [E2]
        rw [if_neg (by omega)]
        simp only at hE1n
        split at hE1n
        · exact hE1n
        · cases hE1n
    · simp only [E2]
      rw [if_pos ⟨h1, hlt⟩]
      exact h
  have hle2 : E'.le E2 := hE'
  have htouch : ∀ k, (∃ n ∈ L, ∃ b, hp n = some b ∧ k ∈ F n) → touched hp F e k := by
    rintro k ⟨n, hn, b, hb, hk⟩
    refine ⟨n, b, ?_, hb, hk⟩
    cases ho : isOwn (some b) with
    | true => exact hup n hn b hb ho
    | false =>
      obtain ⟨p, _, hh⟩ := G.holds n b hb
      rw [none_own hh ho] at hk
      simp at hk
  refine ⟨E2, hE2, ?_, hle2, G.apply (F' := F') (R' := R') (lo := fr) ⟨hE2, ?_, ?_, ?_, ?_, ?_, ?_, ?_⟩⟩
  · intro n h1 h2
    simp only [E2] at h2
    split at h2
    · rename_i hin; exact ⟨hin.1, by rw [hnn]; omega⟩
    · exact (h2 h1).elim
  · intro n h1 h2
    simp only [E2] at h2
    split at h2
    · rename_i hin; exact ⟨hin.1, by rw [hnn]; omega⟩
    · exact (h2 h1).elim
  · exact G'.fr.mono htouch
  · intro n b h
    obtain ⟨p, g1, g2⟩ := G'.holds n b (hput n b h)
    exact ⟨p, hle2 n p g1, AB.mono hle2 g2⟩
  · intro n b h; exact G'.nodup n b (hput n b h)
  · intro n b k h hk
    rcases G'.feet n b k (hput n b h) hk with h2 | h2
    · exact .inl (htouch k h2)
    · exact .inr h2
  · intro n b k h hk
    rcases G'.rd n b k (hput n b h) hk with ⟨m, hm, c, hc, hk'⟩ | hk'
    · exact .inl ⟨m, c, hc, hk'⟩
    · exact .inr hk'
  · intro n m b c k h h' hk hk'
    exact G'.dist n m b c k (hput n b h) (hput m c h') hk hk'

theorem inl_ok {C : Cx} (hK : KOk C) (hpl : PlansOk C) (hm : C.P.follows .mixedOrders = true) {gn : List Nat} (hgn : ∀ g n, C.gl g = some n → n ∈ gn) {fuel : Nat} {f : FuncId} {s : Spec} (h : inl C gn fuel f = some s) : SpecOk C.P C.gl f s := by
  unfold inl at h
  split at h
  case h_2 => cases h
  rename_i fn hfn
  split at h
  case h_2 => cases h
  rename_i c hc
  cases hname : (fn.name == "runtime.NumGoroutine") with
  | true => rw [hname] at h; cases h
  | false =>
    rw [hname] at h
    simp only [cond_false, Option.some.injEq] at h
    subst h
    refine ⟨⟨fn, hfn, hname, by rw [hc]; rfl⟩, ?_, ?_⟩
    · -- locality
      intro args lk lk' fr e he hl
      rw [inlS_eq] at he ⊢
      unfold inlT at he ⊢
      simp only at he ⊢
      cases hb : ((reach lk fuelR (namesL args ++ gn) []).all (fun n => Nat.blt n fr) && closedB lk (reach lk fuelR (namesL args ++ gn) []) && (namesL args ++ gn).all (reach lk fuelR (namesL args ++ gn) []).contains) with
      | false => rw [hb] at he; exact get_none he
      | true =>
        rw [hb] at he
        simp only [cond_true] at he
        obtain ⟨x, hx, hxe⟩ := T.get_mapO he
        have hreads : e.reads = reach lk fuelR (namesL args ++ gn) [] := by rw [← hxe]; rfl
        rw [hreads] at hl
        have hR := reach_loc fuelR (namesL args ++ gn) [] hl
        have hh : heapOf lk' (reach lk fuelR (namesL args ++ gn) []) = heapOf lk (reach lk fuelR (namesL args ++ gn) []) := by
          unfold heapOf
          exact List.map_congr_left fun n hn => by rw [hl n hn]
        have hcl : closedB lk' (reach lk fuelR (namesL args ++ gn) []) = closedB lk (reach lk fuelR (namesL args ++ gn) []) := by
          unfold closedB
          rw [Bool.eq_iff_iff, List.all_eq_true, List.all_eq_true]
          constructor <;> intro h n hn
          · have := h n hn; rwa [hl n hn] at this
          · have := h n hn; rwa [hl n hn]
        rw [hR, hh, hcl, hb]
        exact he
    · intro W0 S E hp w args vs fr e G hgl he ha hfr
      rw [inlS_eq] at he
      unfold inlT at he
      simp only at he
      cases hb : ((reach hp fuelR (namesL args ++ gn) []).all (fun n => Nat.blt n fr) && closedB hp (reach hp fuelR (namesL args ++ gn) []) && (namesL args ++ gn).all (reach hp fuelR (namesL args ++ gn) []).contains) with
      | false => rw [hb] at he; exact get_none he
      | true =>
        rw [hb] at he
        simp only [cond_true] at he
        obtain ⟨x, hx, rfl⟩ := T.get_mapO he
        simp only [Bool.and_eq_true] at hb
        obtain ⟨⟨hb1, hb2⟩, hb3⟩ := hb
        generalize hRdef : reach hp fuelR (namesL args ++ gn) [] = L at *
        have hLlt : ∀ n ∈ L, n < fr := fun n hn => by have := List.all_eq_true.1 hb1 n hn; simpa using this
        have hLcl : ∀ n ∈ L, ∀ b, hp n = some b → ∀ m ∈ b.names, m ∈ L := by
          intro n hn b hbn m hm
          have := List.all_eq_true.1 hb2 n hn
          rw [hbn] at this
          have := List.all_eq_true.1 this m hm
          simpa using this
        have hLargs : ∀ n ∈ namesL args ++ gn, n ∈ L := fun n hn => by have := List.all_eq_true.1 hb3 n hn; simpa using this
        obtain ⟨F, R, G⟩ := G
        have G1 := frame_call G hLlt hLcl
        have ha1 : concs (fun n => if n ∈ L then E n else none) args = some vs := by
          rw [concs_congr args (fun n hn => if_pos (hLargs n (by simp [hn])))]
          exact ha
        have hgl1 : GlOk C.gl (fun n => if n ∈ L then E n else none) := by
          intro g n hg
          obtain ⟨p, h1, h2⟩ := hgl g n hg
          exact ⟨p, (if_pos (hLargs n (by simp [hgn g n hg]))).trans h1, h2⟩
        have hfr1 : ∀ n, fr ≤ n → (fun n => if n ∈ L then E n else none) n = none := by
          intro n hn
          simp only
          split
          · rename_i hR; have := hLlt n hR; omega
          · rfl
        have hcall := calls_of_avc (A := TA (fun y : AV × AS => y = x)) hK hpl hm (unr_ok fuel) (f := f) (R := fun r s => .leaf (some (r, s))) hfn hc ha1 G1 hgl1 hfr1 ⟨x, hx, rfl⟩
        refine Calls.mono hcall ?_
        rintro en w' ⟨r, s, E', V, ⟨y, hy, hyx⟩, rfl, hV, hanc, G', hfresh, hnx⟩
        simp only [T.get, Option.some.injEq] at hy
        rw [hyx] at hy
        subst hy
        have hput : ∀ n b, lookO (mkEff L (heapOf hp L) fr r s).put n = some (some b) → look s.h n = some b := by
          intro n b h
          unfold Eff.put mkEff at h
          simp only at h
          rw [lookO_append, lookO_map, lookO_map] at h
          split at h
          · rename_i x' hx'
            split at hx'
            · simp only [Option.some.injEq] at hx' h; rw [hx']; exact h
            · cases hx'
          · split at h
            · simpa using h
            · cases h
        have hup : ∀ n ∈ L, ∀ b, hp n = some b → isOwn (some b) = true → (lookO (mkEff L (heapOf hp L) fr r s).upd n).isSome = true := by
          intro n hn b hb ho
          show (lookO ((L.filter fun n => isOwn (look (heapOf hp L) n)).map fun n => (n, look s.h n)) n).isSome = true
          rw [lookO_map]
          have hin : n ∈ L.filter fun n => isOwn (look (heapOf hp L) n) := by
            rw [List.mem_filter]
            refine ⟨hn, ?_⟩
            unfold heapOf
            rw [look_map, if_pos hn, hb]
            exact ho
          rw [if_pos hin]
          rfl
        obtain ⟨E2, k1, k2, k3, k4⟩ := frame_back (e := mkEff L (heapOf hp L) fr r s) G hLlt hfr hnx hanc hfresh G' rfl hput hup
        exact ⟨V, E2, rfl, conc_mono k3 _ _ hV, k1, k2, k4⟩

/-- Callees within callees, d deep, above a table of summaries. -/
def tower (B : Cx) (gn : List Nat) (fuel : Nat) : Nat → Cx
  | 0 => B
  | d + 1 => { B with K := fun f => match B.K f with | some s => some s | none => inl (tower B gn fuel d) gn fuel f }
theorem tower_same {B : Cx} {gn : List Nat} {fuel : Nat} : ∀ d, (tower B gn fuel d).P = B.P ∧ (tower B gn fuel d).gl = B.gl ∧ (tower B gn fuel d).pl = B.pl
  | 0 => ⟨rfl, rfl, rfl⟩
  | d + 1 => ⟨rfl, rfl, rfl⟩
theorem tower_ok {B : Cx} {gn : List Nat} {fuel : Nat} (hb : KOk B) (hpl : PlansOk B) (hm : B.P.follows .mixedOrders = true) (hgn : ∀ g n, B.gl g = some n → n ∈ gn) : ∀ d, KOk (tower B gn fuel d)
  | 0 => hb
  | d + 1 => by
    intro f s h
    simp only [tower] at h
    split at h
    · rename_i s' hs
      cases h
      exact hb f _ hs
    · obtain ⟨e1, e2, e3⟩ := tower_same (B := B) (gn := gn) (fuel := fuel) d
      have := inl_ok (tower_ok hb hpl hm hgn d) (by unfold PlansOk; rw [e1, e3]; exact hpl) (by rw [e1]; exact hm) (fun g n hg => hgn g n (by rw [← e2]; exact hg)) h
      rw [e1, e2] at this
      exact this
theorem noPlans (C : Cx) (h : C.pl = fun _ => .none) : PlansOk C := fun f fn c _ _ => by rw [h]; exact trivial
theorem none_ok (P : Program) : KOk { P := P, K := fun _ => none, nan := true } := fun _ _ h => by cases h

/-- A law without inputs. -/
def saysTrue (t : Te) : Bool :=
  match t.get with
  | some e => (match e.val with | .v (.bool b) => b | _ => false) && (match e.upd with | [] => true | _ => false)
  | none => false
theorem closed_law {C : Cx} (hK : KOk C) (hg : C.gl = fun _ => none) {f : FuncId} (h : (match C.K f with | some s => saysTrue (s [] (fun _ => none) 1) | none => false) = true) (w : World) (hw : GlobW w) :
    Calls C.P f #[] w fun e w' => e = .returned (.bool true) ∧ Below w.heap.size w w' := by
  split at h
  case h_2 => cases h
  rename_i s hs
  unfold saysTrue at h
  split at h
  case h_2 => cases h
  rename_i e he
  simp only [Bool.and_eq_true] at h
  obtain ⟨h1, h2⟩ := h
  have hv : e.val = .v (.bool true) := by
    split at h1
    · rename_i b hb; rw [hb, h1]
    · cases h1
  have G : Gam w ⟨fun _ => False, fun _ => False⟩ (fun _ => none) (fun _ => none) w :=
    ⟨fun _ => [], fun _ => [], ⟨(fun n b h => by cases h), (fun n b h => by cases h), (fun n m b c k h => by cases h)⟩, Fr.refl _ _, (fun n b k h => by cases h), (fun n b k h => by cases h), (fun k h => by cases h), hw⟩
  refine Calls.mono ((hK f s hs).run w _ _ _ w [] [] 1 e G (by rw [hg]; intro g n h; cases h) he rfl (fun n _ _ => rfl)) ?_
  rintro en w' ⟨V, E', rfl, hV, _, _, ⟨F, R, G'⟩⟩
  rw [hv] at hV
  simp only [conc, Option.some.injEq] at hV
  subst hV
  exact ⟨rfl, G'.fr.below⟩
end Go.Proofs.YtpfbpcaehmhefaaDoorB.Sx
