/- The engine, part C: whole bodies, results, calls; callees carried out in their caller's place; laws without inputs. -/
import Derived.Test.YtemggodhikpmdaaYB
namespace Go.Proofs.Ytemggodhikpmdaa.Sx
open Go.RowKit
set_option linter.unusedSimpArgs false
set_option linter.unusedVariables false

/-- A temporary that is known to be a bool, written out. -/
def known (t : List AV) (c : Operand) (b : Bool) : List AV :=
  match c with
  | .tmp d => t.set d (.v (.bool b))
  | _ => t
theorem known_same {t : List AV} {c : Operand} {b : Bool} (h : aval (slots t) c = .v (.bool b)) : known t c b = t := by
  cases c with
  | tmp d => exact set_same h (by simp [undef])
  | _ => rfl
/-- What says what a loop comes to: of its first region's number, its body, where it begins. -/
abbrev Lh (β : Type) := Nat → (AS → (Exit → AS → β) → β) → AS → (Exit → AS → β) → β
/-- The first region. -/
def firstR : Code → Nat
  | .region id _ _ => id
  | .seq x y => bif Nat.beq (firstR x) 1000000 then firstR y else firstR x
  | .cond _ x y => bif Nat.beq (firstR x) 1000000 then firstR y else firstR x
  | .block _ c => firstR c
  | .loop c => firstR c
  | .scope c => firstR c
  | _ => 1000000
/-- A piece of code. -/
def avc {β : Type} (fail : β) (ite : Bool → β → β → β) (L : Lh β) (C : Cx) : Code → AS → (Exit → AS → β) → β
  | .skip, s, Q => Q .normal s
  | .region _ ops draw, s, Q => rvc fail ite C ops draw s (Q .normal)
  | .seq x y, s, Q => avc fail ite L C x s (fun e s' => match e with | .normal => avc fail ite L C y s' Q | e => Q e s')
  | .cond c x y, s, Q =>
    match aval (slots s.t) c with
    | .v (.bool b) => ite b (avc fail ite L C x ⟨known s.t c true, s.h, s.nx⟩ Q) (avc fail ite L C y ⟨known s.t c false, s.h, s.nx⟩ Q)
    | _ => fail
  | .block id c, s, Q => avc fail ite L C c s (fun e s' => match e with | .exit j => bif Nat.beq j id then Q .normal s' else Q (.exit j) s' | e => Q e s')
  | .loop c, s, Q => L (firstR c) (avc fail ite L C c) s Q
  | .exit id, s, Q => Q (.exit id) s
  | .ret, s, Q => Q .ret s
  | _, _, _ => fail

/-- A sound handler of loops. -/
def LOk {β : Type} (A : Ans β) (C : Cx) (L : Lh β) : Prop :=
  ∀ id c B, (∀ s Q, A.den (B s Q) → Runs A C c s Q) → ∀ s Q, A.den (L id B s Q) → Runs A C (.loop c) s Q

theorem avc_sound {β : Type} {A : Ans β} {L : Lh β} {C : Cx} (hK : KOk C) (hm : C.P.follows .mixedOrders = true) (hL : LOk A C L) : ∀ (c : Code) (s : AS) (Q : Exit → AS → β), A.den (avc A.fail A.ite L C c s Q) → Runs A C c s Q
  | .skip, s, Q, h => fun W0 S N n0 E0 E a w H => wp_skip ⟨s, E, h, H⟩
  | .region id ops draw, s, Q, h => fun W0 S N n0 E0 E a w H =>
    Code.wp_mono (fun e a' w' ⟨s', E', h1, h2⟩ => by
      cases e with
      | normal => exact ⟨s', E', h1, h2⟩
      | _ => exact (A.fail_den h1).elim) (rvc_sound hK hm h W0 S N n0 E0 E a w H)
  | .seq x y, s, Q, h => fun W0 S N n0 E0 E a w H => by
    refine wp_seq (Code.wp_mono ?_ (avc_sound hK hm hL x s _ h W0 S N n0 E0 E a w H))
    rintro e a' w' ⟨s', E', h1, h2⟩
    cases e with
    | normal => exact avc_sound hK hm hL y s' Q h1 W0 S N n0 E0 E' a' w' h2
    | _ => exact ⟨s', E', h1, h2⟩
  | .cond c x y, s, Q, h => fun W0 S N n0 E0 E a w H => by
    unfold avc at h
    split at h
    case h_2 => exact (A.fail_den h).elim
    rename_i b hb
    have hv := H.sl.eval c
    rw [hb] at hv
    simp only [conc, Option.some.injEq] at hv
    cases b with
    | true =>
      have h := A.true_den h
      simp only [known_same hb] at h
      exact wp_cond_true hv.symm (avc_sound hK hm hL x s Q h W0 S N n0 E0 E a w H)
    | false =>
      have h := A.false_den h
      simp only [known_same hb] at h
      exact wp_cond_false hv.symm (avc_sound hK hm hL y s Q h W0 S N n0 E0 E a w H)
  | .block id c, s, Q, h => fun W0 S N n0 E0 E a w H => by
    refine wp_block (Code.wp_mono ?_ (avc_sound hK hm hL c s _ h W0 S N n0 E0 E a w H))
    rintro e a' w' ⟨s', E', h1, h2⟩
    cases e with
    | exit j =>
      simp only [Exit.inBlock]
      simp only at h1
      by_cases hj : j = id
      · subst hj
        rw [if_pos rfl]
        simp only [Nat.beq_refl, cond_true] at h1
        exact ⟨s', E', h1, h2⟩
      · rw [if_neg hj]
        have : Nat.beq j id = false := by
          cases hb : Nat.beq j id with
          | false => rfl
          | true => exact (hj (Nat.eq_of_beq_eq_true hb)).elim
        rw [this] at h1
        exact ⟨s', E', h1, h2⟩
    | _ => exact ⟨s', E', h1, h2⟩
  | .loop c, s, Q, h => hL _ c _ (fun s Q h => avc_sound hK hm hL c s Q h) s Q h
  | .exit id, s, Q, h => fun W0 S N n0 E0 E a w H => wp_exit ⟨s, E, h, H⟩
  | .ret, s, Q, h => fun W0 S N n0 E0 E a w H => wp_ret ⟨s, E, h, H⟩
  | .rangeFunc .., s, Q, h => (A.fail_den h).elim
  | .scope _, s, Q, h => (A.fail_den h).elim
  | .label _, s, Q, h => (A.fail_den h).elim
  | .goto _, s, Q, h => (A.fail_den h).elim
  | .refuse _, s, Q, h => (A.fail_den h).elim

/-- Round by round, at most n of them. -/
def unr {β : Type} (fail : β) : Nat → Lh β
  | 0, _, _, _, _ => fail
  | n + 1, id, B, s, Q => B s (fun e s' => match e with | .normal => unr fail n id B s' Q | e => Q e s')
theorem unr_ok {β : Type} {A : Ans β} {C : Cx} (n : Nat) : LOk A C (unr A.fail n) := by
  intro id c B hB s Q h W0 S N n0 E0 E a w H
  have key : ∀ n s E a w, A.den (unr A.fail n id B s Q) → Holds W0 S N n0 E0 E s a w → Code.rounds C.P c (fun e a' w' => ∃ s' E', A.den (Q e s') ∧ Holds W0 S N n0 E0 E' s' a' w') n a w := by
    intro n
    induction n with
    | zero => intro s E a w h; exact (A.fail_den h).elim
    | succ n ih =>
      intro s E a w h H
      rw [rounds_succ]
      refine Code.wp_mono ?_ (hB s _ h W0 S N n0 E0 E a w H)
      rintro e a' w' ⟨s', E', h1, h2⟩
      cases e with
      | normal => exact ih s' E' a' w' h1 h2
      | _ => exact ⟨s', E', h1, h2⟩
  exact wp_loop_rounds n (key n s E a w h H)

/-! ### Results, calls -/
def ares1 (P : Program) (s : AS) : ResultVar → T (Option AV)
  | .tmp t => .leaf (some (slots s.t t))
  | .cell a t => (effLoad P t (slots s.t a) (look s.h)).mapO (·.val)
def aresL (P : Program) (s : AS) : List ResultVar → T (Option (List AV))
  | [] => .leaf (some [])
  | r :: rs => (ares1 P s r).bindO fun v => (aresL P s rs).mapO fun vs => v :: vs
def ares (P : Program) (fn : Func) (s : AS) : T (Option AV) :=
  (aresL P s fn.results.toList).mapO fun vs => match vs with | [v] => v | vs => .tuple vs

/-- One result's value, as the model reads it. -/
def resOne (tmps : Array Value) : ResultVar → Sem Value
  | .tmp t => pure (tmps.getD t undef)
  | .cell a t => do loadVar t (← asAddr (tmps.getD a undef))
theorem ares1_run {C : Cx} {s : AS} {r : ResultVar} {v : AV} {W0 : World} {S : Nat → Prop} {N n0 : Nat} {E0 E : Env} {a : Act} {w : World} (H : Holds W0 S N n0 E0 E s a w) (h : (ares1 C.P s r).get = some v) :
    ∃ V, conc E v = some V ∧ (resOne a.tmps r).run C.P w = .ok V w := by
  cases r with
  | tmp t =>
    simp only [ares1, T.get, Option.some.injEq] at h
    subst h
    exact ⟨_, H.sl.slot t, rfl⟩
  | cell x t =>
    simp only [ares1] at h
    obtain ⟨e, he, rfl⟩ := T.get_mapO h
    have hx := H.sl.slot x
    obtain ⟨V, h1, h2, _, _⟩ := load_run hx H.gam.holds he
    refine ⟨V, h1, ?_⟩
    obtain ⟨n, r, o, hptr⟩ : ∃ n r o, slots s.t x = .ptr n r o := by
      unfold effLoad at he
      split at he
      · rename_i n r o heq; exact ⟨n, r, o, heq⟩
      · exact get_no he
    rw [hptr] at hx
    simp only [conc, Option.map_eq_some_iff] at hx
    obtain ⟨p, hp, hx⟩ := hx
    rw [← hx] at h2
    simpa [resOne, ← hx, asAddr, Instr.loadAt, Instr.sureAddr] using h2

theorem aresL_run {C : Cx} {s : AS} {W0 : World} {S : Nat → Prop} {N n0 : Nat} {E0 E : Env} {a : Act} {w : World} (H : Holds W0 S N n0 E0 E s a w) : ∀ (rs : List ResultVar) (vs : List AV), (aresL C.P s rs).get = some vs →
    ∃ Vs, concs E vs = some Vs ∧ (rs.mapM (resOne a.tmps)).run C.P w = .ok Vs w
  | [], vs, h => by
    simp only [aresL, T.get, Option.some.injEq] at h
    subst h
    exact ⟨[], rfl, rfl⟩
  | r :: rs, vs, h => by
    simp only [aresL] at h
    obtain ⟨v, h1, h⟩ := T.get_bindO h
    obtain ⟨us, h2, rfl⟩ := T.get_mapO h
    obtain ⟨V, g1, g2⟩ := ares1_run H h1
    obtain ⟨Us, g3, g4⟩ := aresL_run H rs us h2
    refine ⟨V :: Us, concs_cons.2 ⟨V, Us, g1, g3, rfl⟩, ?_⟩
    rw [List.mapM_cons]
    simp only [Sem.run_bind, g2, Result.andThen_ok, g4, Sem.run_pure]

theorem ares_run {C : Cx} {fn : Func} {s : AS} {v : AV} {W0 : World} {S : Nat → Prop} {N n0 : Nat} {E0 E : Env} {a : Act} {w : World} (H : Holds W0 S N n0 E0 E s a w) (h : (ares C.P fn s).get = some v) :
    ∃ V, conc E v = some V ∧ (results fn a.tmps).run C.P w = .ok V w := by
  unfold ares at h
  obtain ⟨us, hu, hv⟩ := T.get_mapO h
  obtain ⟨Vs, h1, h2⟩ := aresL_run H _ us hu
  have hres : results fn a.tmps = (fn.results.mapM (resOne a.tmps) >>= fun vs => pure (if h : vs.size = 1 then vs[0] else .tuple vs)) := by
    unfold results
    congr 1
  have hrun : (results fn a.tmps).run C.P w = .ok (if h : Vs.toArray.size = 1 then Vs.toArray[0] else .tuple Vs.toArray) w := by
    rw [hres]
    generalize fn.results = R at hu h2
    obtain ⟨l⟩ := R
    rw [List.mapM_toArray]
    simp only [Sem.run_bind, Sem.run_map]
    rw [h2]
    rfl
  split at hv
  · rename_i u
    subst hv
    obtain ⟨V, Us, g1, g2, rfl⟩ := concs_cons.1 h1
    simp only [concs, Option.some.injEq] at g2
    subst g2
    exact ⟨V, g1, by simpa using hrun⟩
  · rename_i hne
    subst hv
    have hl := concs_length h1
    have : ¬ Vs.toArray.size = 1 := by
      intro e
      have : us.length = 1 := by rw [← hl]; simpa using e
      match us, this with
      | [u], _ => exact hne u rfl
    rw [dif_neg this] at hrun
    exact ⟨.tuple Vs.toArray, by simp [conc, h1], hrun⟩

/-- Where a body ends with what the caller is told. -/
def endsIn {β : Type} (fail : β) (ite : Bool → β → β → β) (P : Program) (fn : Func) (R : AV → AS → β) : Exit → AS → β
  | .normal, s | .ret, s => onT fail ite (ares P fn s) fun r => R r s
  | _, _ => fail

/-- A call, from its body. -/
theorem calls_of_avc {β : Type} {A : Ans β} {L : Lh β} {C : Cx} (hK : KOk C) (hm : C.P.follows .mixedOrders = true) (hL : LOk A C L) {f : FuncId} {fn : Func} {c : Code} {args : List AV} {vs : List Value} {h0 : Hp} {nx : Nat} {E : Env} {w : World} {S : Nat → Prop} {R : AV → AS → β}
    (hf : C.P.funcs[f]? = some fn) (hb : fn.body = some c) (ha : concs E args = some vs) (G : Gam w S E (look h0) w) (hfr : ∀ n, nx ≤ n → E n = none)
    (h : A.den (avc A.fail A.ite L C c ⟨args ++ List.replicate (fn.ntmps - args.length) (AV.v undef), h0, nx⟩ (endsIn A.fail A.ite C.P fn R))) :
    Calls C.P f vs.toArray w fun e w' => ∃ r s E' V, A.den (R r s) ∧ e = .returned V ∧ conc E' r = some V ∧ Anc nx E E' ∧ Gam w S E' (look s.h) w' ∧ (∀ n, s.nx ≤ n → E' n = none) ∧ nx ≤ s.nx := by
  refine calls_of_wp hf hb ?_
  have hvl := concs_length ha
  have H : Holds w S (args ++ List.replicate (fn.ntmps - args.length) (AV.v undef)).length nx E E ⟨args ++ List.replicate (fn.ntmps - args.length) (AV.v undef), h0, nx⟩
      { tmps := vs.toArray ++ Array.replicate (fn.ntmps - vs.toArray.size) undef, defers := [] } w := by
    refine ⟨Anc.refl nx E, G, ⟨rfl, by simp [hvl], fun i => ?_⟩, hfr, rfl, Nat.le_refl _⟩
    unfold slots
    have hrep : ∀ m, concs E (List.replicate m (AV.v undef)) = some (List.replicate m undef) := by
      intro m
      have := concs_plain (E := E) (List.replicate m undef)
      simpa using this
    have hall := concs_append.2 ⟨vs, List.replicate (fn.ntmps - args.length) undef, ha, hrep _, rfl⟩
    have e : (vs.toArray ++ Array.replicate (fn.ntmps - vs.toArray.size) undef) = (vs ++ List.replicate (fn.ntmps - args.length) undef).toArray := by
      apply Array.toList_inj.1
      simp [hvl]
    rw [e]
    simp only [List.getD_eq_getElem?_getD, Array.getD_eq_getD_getElem?, List.getElem?_toArray]
    cases hx : (args ++ List.replicate (fn.ntmps - args.length) (AV.v undef))[i]? with
    | some v =>
      obtain ⟨V, h1, h2⟩ := concs_get hall hx
      rw [h1]
      exact h2
    | none =>
      have hlen := concs_length hall
      have : (vs ++ List.replicate (fn.ntmps - args.length) undef)[i]? = none := by
        rw [List.getElem?_eq_none_iff] at hx ⊢
        rw [hlen]
        exact hx
      rw [this]
      rfl
  refine Code.wp_mono ?_ (avc_sound hK hm hL c _ _ h w S _ nx E E _ w H)
  rintro e a' w' ⟨s', E', h1, h2⟩
  have fin : A.den (onT A.fail A.ite (ares C.P fn s') fun r => R r s') → a'.defers = [] ∧ ∃ v, (results fn a'.tmps).run C.P w' = .ok v w' ∧ ∃ r s E' V, A.den (R r s) ∧ Ending.returned v = .returned V ∧ conc E' r = some V ∧ Anc nx E E' ∧ Gam w S E' (look s.h) w' ∧ (∀ n, s.nx ≤ n → E' n = none) ∧ nx ≤ s.nx := by
    intro h1
    obtain ⟨r, hr, h1⟩ := onT_den h1
    obtain ⟨V, g1, g2⟩ := ares_run h2 hr
    exact ⟨h2.sl.defers, V, g2, r, s', E', V, h1, rfl, g1, h2.anc, h2.gam, h2.fresh, h2.nx⟩
  cases e with
  | normal => exact fin h1
  | ret => exact fin h1
  | _ => exact (A.fail_den h1).elim

/-! ### A callee carried out in its caller's place -/
def bnames : Option AB → List Nat
  | some b => b.names
  | none => []
/-- The names that names lead to. -/
def reach (lk : Nat → Option AB) : Nat → List Nat → List Nat → List Nat
  | 0, _, seen => seen
  | _ + 1, [], seen => seen
  | k + 1, n :: todo, seen => bif seen.contains n then reach lk k todo seen else reach lk k (bnames (lk n) ++ todo) (n :: seen)
def closedB (lk : Nat → Option AB) (R : List Nat) : Bool := R.all fun n => (bnames (lk n)).all R.contains
theorem reach_mono {lk : Nat → Option AB} : ∀ (k : Nat) (todo seen : List Nat), ∀ n ∈ seen, n ∈ reach lk k todo seen
  | 0, _, _, n, h => h
  | _ + 1, [], _, n, h => h
  | k + 1, m :: todo, seen, n, h => by
    unfold reach
    cases seen.contains m with
    | true => exact reach_mono k todo seen n h
    | false => exact reach_mono k _ _ n (by simp [h])
theorem reach_loc {lk lk' : Nat → Option AB} : ∀ (k : Nat) (todo seen : List Nat), (∀ n ∈ reach lk k todo seen, lk' n = lk n) → reach lk' k todo seen = reach lk k todo seen
  | 0, _, _, _ => rfl
  | _ + 1, [], _, _ => rfl
  | k + 1, m :: todo, seen, h => by
    unfold reach at h ⊢
    cases hc : seen.contains m with
    | true => rw [hc] at h; exact reach_loc k todo seen h
    | false =>
      rw [hc] at h
      simp only [cond_false] at h ⊢
      rw [h m (reach_mono k _ _ m (by simp))]
      exact reach_loc k _ _ h
def fuelR : Nat := 4000
def heapOf (lk : Nat → Option AB) (R : List Nat) : Hp := R.map fun n => (n, lk n)
def isOwn : Option AB → Bool
  | some (.own _) | some (.mp _ _) | some (.sit _ _) => true
  | _ => false
def keepB : Option AB → Option AB
  | some (.ro _) => none
  | b => b
/-- What a callee has done, for its caller. -/
def mkEff (R : List Nat) (h0 : Hp) (fr : Nat) (r : AV) (s : AS) : Eff :=
  let up := R.filter fun n => isOwn (look h0 n)
  let nw := (reach (look s.h) fuelR (r.names ++ up) []).filter fun n => Nat.ble fr n
  { val := r, reads := R, upd := up.map fun n => (n, keepB (look s.h n)), news := nw.map fun n => (n, keepB (look s.h n)), nn := s.nx - fr }
/-- A callee's summary: its body's run. -/
def inl (C : Cx) (fuel : Nat) (f : FuncId) : Option Spec :=
  match C.P.funcs[f]? with
  | some fn =>
    match fn.body with
    | some c =>
      bif fn.name == "runtime.NumGoroutine" then none else
      some fun args lk fr =>
        let R := reach lk fuelR (namesL args) []
        bif R.all (fun n => Nat.blt n fr) && closedB lk R && (namesL args).all R.contains then
          let h0 := heapOf lk R
          (avc (β := T (Option (AV × AS))) (.leaf none) .ite (unr (.leaf none) fuel) C c ⟨args ++ List.replicate (fn.ntmps - args.length) (AV.v undef), h0, fr⟩ (endsIn (.leaf none) .ite C.P fn fun r s => .leaf (some (r, s)))).mapO
            fun x => mkEff R h0 fr x.1 x.2
        else .leaf none
    | none => none
  | none => none

theorem look_map {g : Nat → Option AB} : ∀ {l : List Nat} {n : Nat}, look (l.map fun n => (n, g n)) n = if n ∈ l then g n else none
  | [], n => by simp [look]
  | m :: l, n => by
    simp only [List.map_cons, look]
    cases hb : Nat.beq m n with
    | true => have := Nat.eq_of_beq_eq_true hb; subst this; simp
    | false =>
      have hne : ¬ n = m := by intro e; subst e; simp at hb
      simp [look_map (l := l) (n := n), hne]
theorem lookO_map {g : Nat → Option AB} : ∀ {l : List Nat} {n : Nat}, lookO (l.map fun n => (n, g n)) n = if n ∈ l then some (g n) else none
  | [], n => by simp [lookO]
  | m :: l, n => by
    simp only [List.map_cons, lookO]
    cases hb : Nat.beq m n with
    | true => have := Nat.eq_of_beq_eq_true hb; subst this; simp
    | false =>
      have hne : ¬ n = m := by intro e; subst e; simp at hb
      simp [lookO_map (l := l) (n := n), hne]
theorem keepB_some {o : Option AB} {b : AB} (h : keepB o = some b) : o = some b ∧ ∀ p, b.old p = none := by
  unfold keepB at h
  split at h
  · cases h
  · rename_i hne
    refine ⟨h, fun p => ?_⟩
    subst h
    cases b with
    | ro x => exact (hne x rfl).elim
    | _ => rfl

theorem inl_ok {C : Cx} (hK : KOk C) (hm : C.P.follows .mixedOrders = true) {fuel : Nat} {f : FuncId} {s : Spec} (h : inl C fuel f = some s) : SpecOk C.P f s := by
  unfold inl at h
  split at h
  case h_2 => cases h
  rename_i fn hfn
  split at h
  case h_2 => cases h
  rename_i c hc
  cases hname : (fn.name == "runtime.NumGoroutine") with
  | true => rw [hname] at h; cases h
  | false =>
    rw [hname] at h
    simp only [cond_false, Option.some.injEq] at h
    subst h
    refine ⟨⟨fn, hfn, hname, by rw [hc]; rfl⟩, ?_, ?_⟩
    · -- locality
      intro args lk lk' fr e he hl
      try simp only at he ⊢
      cases hb : ((reach lk fuelR (namesL args) []).all (fun n => Nat.blt n fr) && closedB lk (reach lk fuelR (namesL args) []) && (namesL args).all (reach lk fuelR (namesL args) []).contains) with
      | false => rw [hb] at he; simp [T.get] at he
      | true =>
        rw [hb] at he
        simp only [cond_true] at he
        obtain ⟨x, hx, hxe⟩ := T.get_mapO he
        have hreads : e.reads = reach lk fuelR (namesL args) [] := by rw [← hxe]; rfl
        rw [hreads] at hl
        have hR := reach_loc fuelR (namesL args) [] hl
        have hh : heapOf lk' (reach lk fuelR (namesL args) []) = heapOf lk (reach lk fuelR (namesL args) []) := by
          unfold heapOf
          exact List.map_congr_left fun n hn => by rw [hl n hn]
        have hcl : closedB lk' (reach lk fuelR (namesL args) []) = closedB lk (reach lk fuelR (namesL args) []) := by
          unfold closedB
          rw [Bool.eq_iff_iff, List.all_eq_true, List.all_eq_true]
          constructor <;> intro h n hn
          · have := h n hn; rwa [hl n hn] at this
          · have := h n hn; rwa [hl n hn]
        rw [hR, hh, hcl, hb]
        exact he
    · intro W0 S E hp w args vs fr e G he ha hfr
      try simp only at he
      cases hb : ((reach hp fuelR (namesL args) []).all (fun n => Nat.blt n fr) && closedB hp (reach hp fuelR (namesL args) []) && (namesL args).all (reach hp fuelR (namesL args) []).contains) with
      | false => rw [hb] at he; simp [T.get] at he
      | true =>
        rw [hb] at he
        simp only [cond_true] at he
        obtain ⟨x, hx, rfl⟩ := T.get_mapO he
        simp only [Bool.and_eq_true] at hb
        obtain ⟨⟨hb1, hb2⟩, hb3⟩ := hb
        generalize hRdef : reach hp fuelR (namesL args) [] = R at *
        have hRlt : ∀ n ∈ R, n < fr := fun n hn => by have := List.all_eq_true.1 hb1 n hn; simpa using this
        have hRcl : ∀ n ∈ R, ∀ b, hp n = some b → ∀ m ∈ b.names, m ∈ R := by
          intro n hn b hbn m hm
          have := List.all_eq_true.1 hb2 n hn
          rw [hbn] at this
          have := List.all_eq_true.1 this m hm
          simpa using this
        have hRargs : ∀ n ∈ namesL args, n ∈ R := fun n hn => by have := List.all_eq_true.1 hb3 n hn; simpa using this
        -- the names that the callee may see
        let E1 : Env := fun n => if n ∈ R then E n else none
        have hE1 : ∀ n ∈ R, E1 n = E n := fun n hn => by simp [E1, hn]
        have hE1' : ∀ n p, E1 n = some p → n ∈ R ∧ E n = some p := by
          intro n p h
          simp only [E1] at h
          split at h
          · rename_i hn; exact ⟨hn, h⟩
          · cases h
        let S1 : Nat → Prop := fun k => ∃ n ∈ R, ∃ b p, hp n = some b ∧ E n = some p ∧ b.foot p = some k
        have hlk : ∀ n b, look (heapOf hp R) n = some b → n ∈ R ∧ hp n = some b := by
          intro n b h
          unfold heapOf at h
          rw [look_map] at h
          split at h
          · rename_i hn; exact ⟨hn, h⟩
          · cases h
        have ha1 : concs E1 args = some vs := by rw [concs_congr args (fun n hn => hE1 n (hRargs n hn))]; exact ha
        have G1 : Gam w S1 E1 (look (heapOf hp R)) w := by
          refine ⟨Fr.refl _ _, ?_, ?_, ?_, ?_⟩
          · intro n b h
            obtain ⟨hn, hb⟩ := hlk n b h
            obtain ⟨p, hp1, hh⟩ := G.holds n b hb
            exact ⟨p, by rw [hE1 n hn]; exact hp1, AB.congr (fun m hm => hE1 m (hRcl n hn b hb m hm)) hh⟩
          · intro n b p k h hp1 hf
            obtain ⟨hn, hb⟩ := hlk n b h
            exact .inl ⟨n, hn, b, p, hb, (hE1' n p hp1).2, hf⟩
          · intro n b p k h hp1 ho
            obtain ⟨hn, hb⟩ := hlk n b h
            obtain ⟨g1, g2⟩ := G.old n b p k hb (hE1' n p hp1).2 ho
            refine ⟨Nat.lt_of_lt_of_le g1 G.fr.size, ?_⟩
            rintro ⟨m, hm, b', p', hb', hp', hf'⟩
            rcases G.feet m b' p' k hb' hp' hf' with h1 | h1
            · exact g2 h1
            · omega
          · intro n m b c' p q k h h' hp1 hq1 hf hg
            obtain ⟨_, hb⟩ := hlk n b h
            obtain ⟨_, hb'⟩ := hlk m c' h'
            exact G.dist n m b c' p q k hb hb' (hE1' n p hp1).2 (hE1' m q hq1).2 hf hg
        have hfr1 : ∀ n, fr ≤ n → E1 n = none := by
          intro n hn
          simp only [E1]
          split
          · rename_i hR; have := hRlt n hR; omega
          · rfl
        have hcall := calls_of_avc (A := TA (fun y : AV × AS => y = x)) hK hm (unr_ok fuel) (f := f) (R := fun r s => .leaf (some (r, s))) hfn hc ha1 G1 hfr1 ⟨x, hx, rfl⟩
        refine Calls.mono hcall ?_
        rintro en w' ⟨r, s, E', V, ⟨y, hy, hyx⟩, rfl, hV, hanc, G', hfresh, hnx⟩
        simp only [T.get, Option.some.injEq] at hy
        rw [hyx] at hy
        subst hy
        -- the names as the caller has them
        let E2 : Env := fun n => if fr ≤ n ∧ n < s.nx then E' n else E n
        have hnn : fr + (s.nx - fr) = s.nx := by omega
        have hE2 : E.le E2 := by
          intro n p hp1
          simp only [E2]
          split
          · rename_i hin
            have := hfr n hin.1 (by show n < fr + (s.nx - fr); omega)
            rw [hp1] at this; cases this
          · exact hp1
        have hE' : ∀ n p, E' n = some p → E2 n = some p ∧ (n < fr → n ∈ R ∧ E n = some p) := by
          intro n p h
          have hlt : n < s.nx := by
            rcases Nat.lt_or_ge n s.nx with h1 | h1
            · exact h1
            · rw [hfresh n h1] at h; cases h
          rcases Nat.lt_or_ge n fr with h1 | h1
          · cases hE1n : E1 n with
            | none => rw [hanc.low n h1 hE1n] at h; cases h
            | some q =>
              have := hanc.le n q hE1n
              rw [h] at this
              cases this
              obtain ⟨g1, g2⟩ := hE1' n p hE1n
              refine ⟨?_, fun _ => ⟨g1, g2⟩⟩
              simp only [E2]
              rw [if_neg (by omega)]
              exact g2
          · refine ⟨?_, fun h2 => by omega⟩
            simp only [E2]
            rw [if_pos ⟨h1, hlt⟩]
            exact h
        have hle2 : E'.le E2 := fun n p h => (hE' n p h).1
        have hput : ∀ n b, lookO (mkEff R (heapOf hp R) fr r s).put n = some (some b) → look s.h n = some b ∧ ∀ p, b.old p = none := by
          intro n b h
          have h1 : keepB (look s.h n) = some b := by
            unfold Eff.put mkEff at h
            simp only at h
            rw [lookO_append, lookO_map, lookO_map] at h
            split at h
            · rename_i x' hx'
              split at hx'
              · simp only [Option.some.injEq] at hx' h; rw [hx']; exact h
              · cases hx'
            · split at h
              · simpa using h
              · cases h
          exact keepB_some h1
        have htouch : ∀ k, S1 k → touched E hp (mkEff R (heapOf hp R) fr r s) k := by
          rintro k ⟨n, hn, b, p, hbn, hp1, hf⟩
          refine ⟨n, b, p, ?_, hbn, hp1, hf⟩
          show (lookO ((R.filter fun n => isOwn (look (heapOf hp R) n)).map fun n => (n, keepB (look s.h n))) n).isSome = true
          rw [lookO_map]
          have hin : n ∈ R.filter fun n => isOwn (look (heapOf hp R) n) := by
            rw [List.mem_filter]
            refine ⟨hn, ?_⟩
            unfold heapOf
            rw [look_map, if_pos hn, hbn]
            cases b <;> simp [AB.foot] at hf <;> rfl
          rw [if_pos hin]
          rfl
        refine ⟨V, E2, rfl, conc_mono hle2 _ _ hV, ⟨hE2, ?_, ?_, ?_, ?_, ?_, ?_⟩⟩
        · intro n h1 h2
          simp only [E2] at h2
          split at h2
          · rename_i hin; exact ⟨hin.1, by show n < fr + (s.nx - fr); omega⟩
          · exact (h2 h1).elim
        · exact ⟨G'.fr.os, G'.fr.tape, G'.fr.output, G'.fr.size, fun k hk hnt => G'.fr.block k hk (fun hs => hnt (htouch k hs))⟩
        · intro n b h
          obtain ⟨h1, _⟩ := hput n b h
          obtain ⟨p, g1, g2⟩ := G'.holds n b h1
          exact ⟨p, hle2 n p g1, AB.mono hle2 g2⟩
        · intro n b p k h hp1 hf
          obtain ⟨h1, _⟩ := hput n b h
          obtain ⟨p', g1, _⟩ := G'.holds n b h1
          have := hle2 n p' g1
          rw [hp1] at this
          cases this
          rcases G'.feet n b p k h1 g1 hf with h2 | h2
          · exact .inl (htouch k h2)
          · exact .inr h2
        · intro n b p h
          exact (hput n b h).2 p
        · intro n m b c' p q k h h' hp1 hq1 hf hg
          obtain ⟨h1, _⟩ := hput n b h
          obtain ⟨h2, _⟩ := hput m c' h'
          obtain ⟨p', g1, _⟩ := G'.holds n b h1
          obtain ⟨q', g2, _⟩ := G'.holds m c' h2
          have e1 := hle2 n p' g1
          rw [hp1] at e1
          cases e1
          have e2 := hle2 m q' g2
          rw [hq1] at e2
          cases e2
          exact G'.dist n m b c' p q k h1 h2 g1 g2 hf hg

/-- Callees within callees, d deep, above a table of summaries. -/
def tower (P : Program) (base : FuncId → Option Spec) (fuel : Nat) : Nat → Cx
  | 0 => ⟨P, base⟩
  | d + 1 => ⟨P, fun f => match base f with | some s => some s | none => inl (tower P base fuel d) fuel f⟩
theorem tower_P {P : Program} {base : FuncId → Option Spec} {fuel d : Nat} : (tower P base fuel d).P = P := by cases d <;> rfl
theorem tower_ok {P : Program} {base : FuncId → Option Spec} {fuel : Nat} (hb : KOk ⟨P, base⟩) (hm : P.follows .mixedOrders = true) : ∀ d, KOk (tower P base fuel d)
  | 0 => hb
  | d + 1 => by
    intro f s h
    simp only [tower] at h
    split at h
    · rename_i s' hs
      cases h
      exact hb f _ hs
    · have := inl_ok (tower_ok hb hm d) (by rw [tower_P]; exact hm) h
      rw [tower_P] at this
      exact this
theorem none_ok (P : Program) : KOk ⟨P, fun _ => none⟩ := fun _ _ h => by cases h

/-- A law without inputs. -/
def saysTrue (t : Te) : Bool :=
  match t.get with
  | some e => (match e.val with | .v (.bool b) => b | _ => false) && (match e.upd with | [] => true | _ => false)
  | none => false
theorem closed_law {C : Cx} (hK : KOk C) {f : FuncId} (h : (match C.K f with | some s => saysTrue (s [] (fun _ => none) 1) | none => false) = true) (w : World) :
    Calls C.P f #[] w fun e w' => e = .returned (.bool true) ∧ Below w.heap.size w w' := by
  split at h
  case h_2 => cases h
  rename_i s hs
  unfold saysTrue at h
  split at h
  case h_2 => cases h
  rename_i e he
  simp only [Bool.and_eq_true] at h
  obtain ⟨h1, h2⟩ := h
  have hup : e.upd = [] := by
    split at h2
    · assumption
    · cases h2
  have hv : e.val = .v (.bool true) := by
    split at h1
    · rename_i b hb; rw [hb, h1]
    · cases h1
  have G : Gam w (fun _ => False) (fun _ => none) (fun _ => none) w := ⟨Fr.refl _ _, (fun n b h => by cases h), (fun n b p k h => by cases h), (fun n b p k h => by cases h), (fun n m b c p q k h => by cases h)⟩
  refine Calls.mono ((hK f s hs).run w _ _ _ w [] [] 1 e G he rfl (fun n _ _ => rfl)) ?_
  rintro en w' ⟨V, E', rfl, hV, hpost⟩
  rw [hv] at hV
  simp only [conc, Option.some.injEq] at hV
  subst hV
  refine ⟨rfl, hpost.fr.os, hpost.fr.tape, hpost.fr.output, hpost.fr.size, fun k hk => hpost.fr.block k hk ?_⟩
  rintro ⟨n, b, p, hn, _⟩
  rw [hup] at hn
  simp [lookO] at hn
end Go.Proofs.Ytemggodhikpmdaa.Sx
