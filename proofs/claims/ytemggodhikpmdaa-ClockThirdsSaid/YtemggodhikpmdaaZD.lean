/- The engine, part D: whole bodies, results, calls; callees carried out in their caller's place; laws without inputs. -/
import Derived.Test.YtemggodhikpmdaaZC
namespace Go.Proofs.Ytemggodhikpmdaa.Sx
open Go.RowKit
set_option linter.unusedSimpArgs false
set_option linter.unusedVariables false

/-- A temporary that is known to be a bool, written out. -/
def known (t : List AV) (c : Operand) (b : Bool) : List AV :=
  match c with
  | .tmp d => t.set d (.v (.bool b))
  | _ => t
theorem known_same {gl : Nat → Option Nat} {t : List AV} {c : Operand} {b : Bool} (h : aval gl (slots t) c = .v (.bool b)) : known t c b = t := by
  cases c with
  | tmp d => exact set_same h (by simp [undef])
  | _ => rfl
/-- What says what a loop comes to: of its first region's number, its body, where it begins. -/
abbrev Lh (β : Type) := Nat → (AS → (Exit → AS → β) → β) → AS → (Exit → AS → β) → β
/-- The first region. -/
def firstR : Code → Nat
  | .region id _ _ => id
  | .seq x y => bif Nat.beq (firstR x) 1000000 then firstR y else firstR x
  | .cond _ x y => bif Nat.beq (firstR x) 1000000 then firstR y else firstR x
  | .block _ c => firstR c
  | .loop c => firstR c
  | .scope c => firstR c
  | _ => 1000000
/-- A piece of code. -/
def avc {β : Type} (fail : β) (ite : Bool → β → β → β) (L : Lh β) (C : Cx) : Code → AS → (Exit → AS → β) → β
  | .skip, s, Q => Q .normal s
  | .region _ ops draw, s, Q => rvc fail ite C ops draw s (Q .normal)
  | .seq x y, s, Q => avc fail ite L C x s (fun e s' => match e with | .normal => avc fail ite L C y s' Q | e => Q e s')
  | .cond c x y, s, Q =>
    match aval C.gl (slots s.t) c with
    | .v (.bool b) => ite b (avc fail ite L C x ⟨known s.t c true, s.h, s.nx⟩ Q) (avc fail ite L C y ⟨known s.t c false, s.h, s.nx⟩ Q)
    | _ => fail
  | .block id c, s, Q => avc fail ite L C c s (fun e s' => match e with | .exit j => bif Nat.beq j id then Q .normal s' else Q (.exit j) s' | e => Q e s')
  | .loop c, s, Q => L (firstR c) (avc fail ite L C c) s Q
  | .exit id, s, Q => Q (.exit id) s
  | .ret, s, Q => Q .ret s
  | _, _, _ => fail

/-- A sound handler of loops. -/
def LOk {β : Type} (A : Ans β) (C : Cx) (L : Lh β) : Prop :=
  ∀ id c B, (∀ s Q, A.den (B s Q) → Runs A C c s Q) → ∀ s Q, A.den (L id B s Q) → Runs A C (.loop c) s Q

theorem avc_sound {β : Type} {A : Ans β} {L : Lh β} {C : Cx} (hK : KOk C) (hm : C.P.follows .mixedOrders = true) (hL : LOk A C L) : ∀ (c : Code) (s : AS) (Q : Exit → AS → β), A.den (avc A.fail A.ite L C c s Q) → Runs A C c s Q
  | .skip, s, Q, h => fun W0 S N n0 E0 E a w H => wp_skip ⟨s, E, h, H⟩
  | .region id ops draw, s, Q, h => fun W0 S N n0 E0 E a w H =>
    Code.wp_mono (fun e a' w' ⟨s', E', h1, h2⟩ => by
      cases e with
      | normal => exact ⟨s', E', h1, h2⟩
      | _ => exact (A.fail_den h1).elim) (rvc_sound hK hm h W0 S N n0 E0 E a w H)
  | .seq x y, s, Q, h => fun W0 S N n0 E0 E a w H => by
    refine wp_seq (Code.wp_mono ?_ (avc_sound hK hm hL x s _ h W0 S N n0 E0 E a w H))
    rintro e a' w' ⟨s', E', h1, h2⟩
    cases e with
    | normal => exact avc_sound hK hm hL y s' Q h1 W0 S N n0 E0 E' a' w' h2
    | _ => exact ⟨s', E', h1, h2⟩
  | .cond c x y, s, Q, h => fun W0 S N n0 E0 E a w H => by
    unfold avc at h
    split at h
    case h_2 => exact (A.fail_den h).elim
    rename_i b hb
    have hv := H.sl.eval c (by rw [hb]; rfl)
    rw [hb] at hv
    simp only [conc, Option.some.injEq] at hv
    cases b with
    | true =>
      have h := A.true_den h
      simp only [known_same hb] at h
      exact wp_cond_true hv.symm (avc_sound hK hm hL x s Q h W0 S N n0 E0 E a w H)
    | false =>
      have h := A.false_den h
      simp only [known_same hb] at h
      exact wp_cond_false hv.symm (avc_sound hK hm hL y s Q h W0 S N n0 E0 E a w H)
  | .block id c, s, Q, h => fun W0 S N n0 E0 E a w H => by
    refine wp_block (Code.wp_mono ?_ (avc_sound hK hm hL c s _ h W0 S N n0 E0 E a w H))
    rintro e a' w' ⟨s', E', h1, h2⟩
    cases e with
    | exit j =>
      simp only [Exit.inBlock]
      simp only at h1
      by_cases hj : j = id
      · subst hj
        rw [if_pos rfl]
        simp only [Nat.beq_refl, cond_true] at h1
        exact ⟨s', E', h1, h2⟩
      · rw [if_neg hj]
        have : Nat.beq j id = false := by
          cases hb : Nat.beq j id with
          | false => rfl
          | true => exact (hj (Nat.eq_of_beq_eq_true hb)).elim
        rw [this] at h1
        exact ⟨s', E', h1, h2⟩
    | _ => exact ⟨s', E', h1, h2⟩
  | .loop c, s, Q, h => hL _ c _ (fun s Q h => avc_sound hK hm hL c s Q h) s Q h
  | .exit id, s, Q, h => fun W0 S N n0 E0 E a w H => wp_exit ⟨s, E, h, H⟩
  | .ret, s, Q, h => fun W0 S N n0 E0 E a w H => wp_ret ⟨s, E, h, H⟩
  | .rangeFunc .., s, Q, h => (A.fail_den h).elim
  | .scope _, s, Q, h => (A.fail_den h).elim
  | .label _, s, Q, h => (A.fail_den h).elim
  | .goto _, s, Q, h => (A.fail_den h).elim
  | .refuse _, s, Q, h => (A.fail_den h).elim

/-- Round by round, at most n of them. -/
def unr {β : Type} (fail : β) : Nat → Lh β
  | 0, _, _, _, _ => fail
  | n + 1, id, B, s, Q => B s (fun e s' => match e with | .normal => unr fail n id B s' Q | e => Q e s')
theorem unr_ok {β : Type} {A : Ans β} {C : Cx} (n : Nat) : LOk A C (unr A.fail n) := by
  intro id c B hB s Q h W0 S N n0 E0 E a w H
  have key : ∀ n s E a w, A.den (unr A.fail n id B s Q) → Holds C.gl W0 S N n0 E0 E s a w → Code.rounds C.P c (fun e a' w' => ∃ s' E', A.den (Q e s') ∧ Holds C.gl W0 S N n0 E0 E' s' a' w') n a w := by
    intro n
    induction n with
    | zero => intro s E a w h; exact (A.fail_den h).elim
    | succ n ih =>
      intro s E a w h H
      rw [rounds_succ]
      refine Code.wp_mono ?_ (hB s _ h W0 S N n0 E0 E a w H)
      rintro e a' w' ⟨s', E', h1, h2⟩
      cases e with
      | normal => exact ih s' E' a' w' h1 h2
      | _ => exact ⟨s', E', h1, h2⟩
  exact wp_loop_rounds n (key n s E a w h H)

/-! ### Results, calls -/
def ares1 (P : Program) (s : AS) : ResultVar → T (Option AV)
  | .tmp t => bif isAny (slots s.t t) then .leaf none else .leaf (some (slots s.t t))
  | .cell a t => (effLoad P t (slots s.t a) (look s.h) s.nx).bindO fun e => match e.upd, e.news, e.nn with | [], [], 0 => .leaf (some e.val) | _, _, _ => .leaf none
def aresL (P : Program) (s : AS) : List ResultVar → T (Option (List AV))
  | [] => .leaf (some [])
  | r :: rs => (ares1 P s r).bindO fun v => (aresL P s rs).mapO fun vs => v :: vs
def ares (P : Program) (fn : Func) (s : AS) : T (Option AV) :=
  (aresL P s fn.results.toList).mapO fun vs => match vs with | [v] => v | vs => .tuple vs

/-- One result's value, as the model reads it. -/
def resOne (tmps : Array Value) : ResultVar → Sem Value
  | .tmp t => pure (tmps.getD t undef)
  | .cell a t => do loadVar t (← asAddr (tmps.getD a undef))
theorem ares1_run {C : Cx} {s : AS} {r : ResultVar} {v : AV} {W0 : World} {S : Reg} {N n0 : Nat} {E0 E : Env} {a : Act} {w : World} (H : Holds C.gl W0 S N n0 E0 E s a w) (h : (ares1 C.P s r).get = some v) :
    ∃ V, conc E v = some V ∧ (resOne a.tmps r).run C.P w = .ok V w := by
  cases r with
  | tmp t =>
    simp only [ares1] at h
    cases hk : isAny (slots s.t t) with
    | true => rw [hk] at h; exact get_none h
    | false =>
      rw [hk] at h
      simp only [cond_false, T.get, Option.some.injEq] at h
      subst h
      exact ⟨_, H.sl.slot t hk, rfl⟩
  | cell x t =>
    simp only [ares1] at h
    obtain ⟨e, he, h⟩ := T.get_bindO h
    split at h
    case h_2 => exact get_none h
    rename_i hu hn hnn
    simp only [T.get, Option.some.injEq] at h
    subst h
    obtain ⟨n, r, o, hptr⟩ : ∃ n r o, slots s.t x = .ptr n r o := by
      unfold effLoad at he
      split at he
      · rename_i n r o heq; exact ⟨n, r, o, heq⟩
      · exact get_no he
    have hx := H.sl.slot x (by rw [hptr]; rfl)
    obtain ⟨V, E', h1, h2, _, _, _, h6⟩ := load_run hx H.gam (fun n h1 h2 => by omega) he
    have hE := h6 hu hn
    subst hE
    refine ⟨V, h1, ?_⟩
    rw [hptr] at hx
    simp only [conc, Option.map_eq_some_iff] at hx
    obtain ⟨p, hp, hx⟩ := hx
    rw [← hx] at h2
    simpa [resOne, ← hx, asAddr, Instr.loadAt, Instr.sureAddr] using h2

theorem aresL_run {C : Cx} {s : AS} {W0 : World} {S : Reg} {N n0 : Nat} {E0 E : Env} {a : Act} {w : World} (H : Holds C.gl W0 S N n0 E0 E s a w) : ∀ (rs : List ResultVar) (vs : List AV), (aresL C.P s rs).get = some vs →
    ∃ Vs, concs E vs = some Vs ∧ (rs.mapM (resOne a.tmps)).run C.P w = .ok Vs w
  | [], vs, h => by
    simp only [aresL, T.get, Option.some.injEq] at h
    subst h
    exact ⟨[], rfl, rfl⟩
  | r :: rs, vs, h => by
    simp only [aresL] at h
    obtain ⟨v, h1, h⟩ := T.get_bindO h
    obtain ⟨us, h2, rfl⟩ := T.get_mapO h
    obtain ⟨V, g1, g2⟩ := ares1_run H h1
    obtain ⟨Us, g3, g4⟩ := aresL_run H rs us h2
    refine ⟨V :: Us, concs_cons.2 ⟨V, Us, g1, g3, rfl⟩, ?_⟩
    rw [List.mapM_cons]
    simp only [Sem.run_bind, g2, Result.andThen_ok, g4, Sem.run_pure]

theorem ares_run {C : Cx} {fn : Func} {s : AS} {v : AV} {W0 : World} {S : Reg} {N n0 : Nat} {E0 E : Env} {a : Act} {w : World} (H : Holds C.gl W0 S N n0 E0 E s a w) (h : (ares C.P fn s).get = some v) :
    ∃ V, conc E v = some V ∧ (results fn a.tmps).run C.P w = .ok V w := by
  unfold ares at h
  obtain ⟨us, hu, hv⟩ := T.get_mapO h
  obtain ⟨Vs, h1, h2⟩ := aresL_run H _ us hu
  have hres : results fn a.tmps = (fn.results.mapM (resOne a.tmps) >>= fun vs => pure (if h : vs.size = 1 then vs[0] else .tuple vs)) := by
    unfold results
    congr 1
  have hrun : (results fn a.tmps).run C.P w = .ok (if h : Vs.toArray.size = 1 then Vs.toArray[0] else .tuple Vs.toArray) w := by
    rw [hres]
    generalize fn.results = R at hu h2
    obtain ⟨l⟩ := R
    rw [List.mapM_toArray]
    simp only [Sem.run_bind, Sem.run_map]
    rw [h2]
    rfl
  split at hv
  · rename_i u
    subst hv
    obtain ⟨V, Us, g1, g2, rfl⟩ := concs_cons.1 h1
    simp only [concs, Option.some.injEq] at g2
    subst g2
    exact ⟨V, g1, by simpa using hrun⟩
  · rename_i hne
    subst hv
    have hl := concs_length h1
    have : ¬ Vs.toArray.size = 1 := by
      intro e
      have : us.length = 1 := by rw [← hl]; simpa using e
      match us, this with
      | [u], _ => exact hne u rfl
    rw [dif_neg this] at hrun
    exact ⟨.tuple Vs.toArray, by simp [conc, h1], hrun⟩

/-- Where a body ends with what the caller is told. -/
def endsIn {β : Type} (fail : β) (ite : Bool → β → β → β) (P : Program) (fn : Func) (R : AV → AS → β) : Exit → AS → β
  | .normal, s | .ret, s => onT fail ite (ares P fn s) fun r => R r s
  | _, _ => fail

/-- A call, from its body. -/
theorem calls_of_avc {β : Type} {A : Ans β} {L : Lh β} {C : Cx} (hK : KOk C) (hm : C.P.follows .mixedOrders = true) (hL : LOk A C L) {f : FuncId} {fn : Func} {c : Code} {args : List AV} {vs : List Value} {h0 : Hp} {nx : Nat} {E : Env} {w : World} {S : Reg} {R : AV → AS → β}
    (hf : C.P.funcs[f]? = some fn) (hb : fn.body = some c) (ha : concs E args = some vs) (G : Gam w S E (look h0) w) (hgl : GlOk C.gl E) (hfr : ∀ n, nx ≤ n → E n = none)
    (h : A.den (avc A.fail A.ite L C c ⟨args ++ List.replicate (fn.ntmps - args.length) (AV.v undef), h0, nx⟩ (endsIn A.fail A.ite C.P fn R))) :
    Calls C.P f vs.toArray w fun e w' => ∃ r s E' V, A.den (R r s) ∧ e = .returned V ∧ conc E' r = some V ∧ Anc nx E E' ∧ Gam w S E' (look s.h) w' ∧ (∀ n, s.nx ≤ n → E' n = none) ∧ nx ≤ s.nx := by
  refine calls_of_wp hf hb ?_
  have hvl := concs_length ha
  have H : Holds C.gl w S (args ++ List.replicate (fn.ntmps - args.length) (AV.v undef)).length nx E E ⟨args ++ List.replicate (fn.ntmps - args.length) (AV.v undef), h0, nx⟩
      { tmps := vs.toArray ++ Array.replicate (fn.ntmps - vs.toArray.size) undef, defers := [] } w := by
    refine ⟨Anc.refl nx E, G, ⟨rfl, by simp [hvl], hgl, fun i _ => ?_⟩, hfr, rfl, Nat.le_refl _⟩
    unfold slots
    have hrep : ∀ m, concs E (List.replicate m (AV.v undef)) = some (List.replicate m undef) := by
      intro m
      have := concs_plain (E := E) (List.replicate m undef)
      simpa using this
    have hall := concs_append.2 ⟨vs, List.replicate (fn.ntmps - args.length) undef, ha, hrep _, rfl⟩
    have e : (vs.toArray ++ Array.replicate (fn.ntmps - vs.toArray.size) undef) = (vs ++ List.replicate (fn.ntmps - args.length) undef).toArray := by
      apply Array.toList_inj.1
      simp [hvl]
    rw [e]
    simp only [List.getD_eq_getElem?_getD, Array.getD_eq_getD_getElem?, List.getElem?_toArray]
    cases hx : (args ++ List.replicate (fn.ntmps - args.length) (AV.v undef))[i]? with
    | some v =>
      obtain ⟨V, h1, h2⟩ := concs_get hall hx
      rw [h1]
      exact h2
    | none =>
      have hlen := concs_length hall
      have : (vs ++ List.replicate (fn.ntmps - args.length) undef)[i]? = none := by
        rw [List.getElem?_eq_none_iff] at hx ⊢
        rw [hlen]
        exact hx
      rw [this]
      rfl
  refine Code.wp_mono ?_ (avc_sound hK hm hL c _ _ h w S _ nx E E _ w H)
  rintro e a' w' ⟨s', E', h1, h2⟩
  have fin : A.den (onT A.fail A.ite (ares C.P fn s') fun r => R r s') → a'.defers = [] ∧ ∃ v, (results fn a'.tmps).run C.P w' = .ok v w' ∧ ∃ r s E' V, A.den (R r s) ∧ Ending.returned v = .returned V ∧ conc E' r = some V ∧ Anc nx E E' ∧ Gam w S E' (look s.h) w' ∧ (∀ n, s.nx ≤ n → E' n = none) ∧ nx ≤ s.nx := by
    intro h1
    obtain ⟨r, hr, h1⟩ := onT_den h1
    obtain ⟨V, g1, g2⟩ := ares_run h2 hr
    exact ⟨h2.sl.defers, V, g2, r, s', E', V, h1, rfl, g1, h2.anc, h2.gam, h2.fresh, h2.nx⟩
  cases e with
  | normal => exact fin h1
  | ret => exact fin h1
  | _ => exact (A.fail_den h1).elim

end Go.Proofs.Ytemggodhikpmdaa.Sx
