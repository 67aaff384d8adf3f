/- The engine, part D: whole bodies, results, calls; callees carried out in their caller's place; laws without inputs. -/
import Derived.Scope
import Derived.Test.YtpfbpcaehmhefaaDoorBZU
namespace Go.Proofs.YtpfbpcaehmhefaaDoorB.Sx
open Go.RowKit
set_option linter.unusedSimpArgs false
set_option linter.unusedVariables false

/-- A temporary that is known to be a bool, written out. -/
def asKnown (v : AV) (b : Bool) : AV :=
  match v with
  | .nm n _ => .nm n (.v (.bool b))
  | _ => .v (.bool b)
def known (t : Tm) (c : Operand) (b : Bool) : Tm :=
  match c with
  | .tmp d => t.set d (asKnown (slots t d) b)
  | _ => t
def fKnown {β : Type} (t : Tm) (c : Operand) (b : Bool) (K : Tm → β) : β :=
  match c with
  | .tmp d => match slots t d with
    | .nm n _ => fTm t d (.nm n (.v (.bool b))) K
    | _ => fTm t d (.v (.bool b)) K
  | _ => K t
theorem fKnown_eq {β : Type} (t : Tm) (c : Operand) (b : Bool) (K : Tm → β) : fKnown t c b K = K (known t c b) := by
  cases c with
  | tmp d =>
    unfold fKnown known asKnown
    simp only
    split
    · rename_i n v h
      rw [fTm_eq]
    · rename_i hne
      rw [fTm_eq]
  | _ => rfl
theorem known_same {gl : Nat → Option Nat} {t : Tm} {c : Operand} {b : Bool} (h : aval gl (slots t) c = .v (.bool b)) : slots (known t c b) = slots t ∧ (known t c b).n = t.n := by
  cases c with
  | tmp d =>
    have h : strip (slots t d) = .v (.bool b) := h
    have : slots t d = asKnown (slots t d) b := by
      unfold asKnown
      split
      · rename_i n v hs
        rw [hs] at h ⊢
        simp only [strip] at h
        rw [h]
      · rename_i hne
        cases hs : slots t d <;> rw [hs] at h <;> first | exact h | (exact (hne _ _ hs).elim)
    exact ⟨set_same this, Tm.set_n _ _ _⟩
  | _ => exact ⟨rfl, rfl⟩
theorem Holds.same {gl : Nat → Option Nat} {W0 : World} {S : Reg} {N n0 : Nat} {E0 E : Env} {s : AS} {t : Tm} {a : Act} {w : World} (H : Holds gl W0 S N n0 E0 E s a w) (h1 : slots t = slots s.t) (h2 : t.n = s.t.n) : Holds gl W0 S N n0 E0 E ⟨t, s.h, s.nx⟩ a w :=
  ⟨H.anc, H.gam, by show Sl gl E (slots t) N a; rw [h1]; exact H.sl, H.fresh, h2.trans H.len, H.nx⟩
/-- Slots filled from a place on. -/
def setAll : Tm → Nat → List AV → Tm
  | t, _, [] => t
  | t, i, v :: vs => setAll (t.set i v) (i + 1) vs
def fSetAll {β : Type} : Tm → Nat → List AV → (Tm → β) → β
  | t, _, [], K => K t
  | t, i, v :: vs, K => fTm t i v fun t => fSetAll t (i + 1) vs K
theorem fSetAll_eq {β : Type} : ∀ (t : Tm) (i : Nat) (vs : List AV) (K : Tm → β), fSetAll t i vs K = K (setAll t i vs)
  | t, i, [], K => rfl
  | t, i, v :: vs, K => by rw [fSetAll, fTm_eq, fSetAll_eq]; rfl
theorem setAll_n : ∀ (t : Tm) (i : Nat) (vs : List AV), (setAll t i vs).n = t.n
  | t, i, [] => rfl
  | t, i, v :: vs => by rw [setAll, setAll_n, Tm.set_n]
theorem setAll_get : ∀ (t : Tm) (k : Nat) (vs : List AV) (i : Nat), k + vs.length ≤ t.n → (setAll t k vs).get i = if k ≤ i ∧ i < k + vs.length then vs.getD (i - k) (.v undef) else t.get i
  | t, k, [], i, h => by
    have : ¬ (k ≤ i ∧ i < k + ([] : List AV).length) := by simp
    rw [if_neg this]; rfl
  | t, k, v :: vs, i, h => by
    simp only [List.length_cons] at h ⊢
    rw [setAll, setAll_get _ _ _ _ (by rw [Tm.set_n]; omega), Tm.get_set]
    by_cases hi : i = k
    · subst hi
      rw [if_neg (by omega), if_pos ⟨rfl, by omega⟩, if_pos (by omega)]
      simp
    · by_cases h1 : k + 1 ≤ i ∧ i < k + 1 + vs.length
      · rw [if_pos h1, if_pos (by omega)]
        obtain ⟨j, hj⟩ : ∃ j, i - k = j + 1 := ⟨i - k - 1, by omega⟩
        rw [hj, show i - (k + 1) = j by omega]
        simp
      · rw [if_neg h1, if_neg (fun e => hi e.1), if_neg (by omega)]
/-- A body's beginning. -/
def enter {β : Type} (fail : β) (ntmps : Nat) (args : List AV) (h : Hp) (nx : Nat) (K : AS → β) : β :=
  if hn : args.length + (ntmps - args.length) ≤ 1000000 then fSetAll ⟨args.length + (ntmps - args.length), .v undef, .nil, hn⟩ 0 args fun t => K ⟨t, h, nx⟩ else fail
def startT (args : List AV) (n : Nat) (hn : n ≤ 1000000) : Tm := setAll ⟨n, .v undef, .nil, hn⟩ 0 args
theorem enter_eq {β : Type} {fail : β} {ntmps : Nat} {args : List AV} {h : Hp} {nx : Nat} {K : AS → β} (hn : args.length + (ntmps - args.length) ≤ 1000000) : enter fail ntmps args h nx K = K ⟨startT args _ hn, h, nx⟩ := by
  unfold enter
  rw [dif_pos hn, fSetAll_eq]
  rfl
theorem enter_den {β : Type} {A : Ans β} {ntmps : Nat} {args : List AV} {h : Hp} {nx : Nat} {K : AS → β} (hd : A.den (enter A.fail ntmps args h nx K)) : ∃ hn : args.length + (ntmps - args.length) ≤ 1000000, A.den (K ⟨startT args _ hn, h, nx⟩) := by
  by_cases hn : args.length + (ntmps - args.length) ≤ 1000000
  · exact ⟨hn, by rw [enter_eq hn] at hd; exact hd⟩
  · unfold enter at hd
    rw [dif_neg hn] at hd
    exact (A.fail_den hd).elim
theorem startT_slot {args : List AV} {n : Nat} {hn : n ≤ 1000000} (hl : args.length ≤ n) (i : Nat) : slots (startT args n hn) i = args.getD i (.v undef) := by
  unfold slots startT
  rw [setAll_get _ _ _ _ (by simpa using hl)]
  by_cases h : i < args.length
  · rw [if_pos (by omega)]; simp
  · rw [if_neg (by omega)]
    unfold Tm.get
    have : args.getD i (.v undef) = .v undef := by rw [List.getD_eq_getElem?_getD, List.getElem?_eq_none (by omega)]; rfl
    rw [this]
    cases Nat.blt i n <;> rfl
/-- What says what a loop comes to: of its first region's number, its body, where it begins. -/
abbrev Lh (β : Type) := Nat → (AS → (Exit → AS → β) → β) → AS → (Exit → AS → β) → β
/-- The first region. -/
def firstR : Code → Nat
  | .region id _ _ => id
  | .seq x y => bif Nat.beq (firstR x) 1000000 then firstR y else firstR x
  | .cond _ x y => bif Nat.beq (firstR x) 1000000 then firstR y else firstR x
  | .block _ c => firstR c
  | .loop c => firstR c
  | .scope c => firstR c
  | _ => 1000000
def PlanOk (P : Program) : Plan → Code → Prop
  | .none, _ => True
  | .unit u, c => UnOk P u c
  | .node l r, c => match c with
    | .seq x y => PlanOk P l x ∧ PlanOk P r y
    | .cond _ x y => PlanOk P l x ∧ PlanOk P r y
    | .block _ x => PlanOk P l x
    | .loop x => PlanOk P l x
    | .scope x => PlanOk P l x
    | _ => True
theorem PlanOk.left2 {P : Program} {p : Plan} {c x y : Code} (h : PlanOk P p c) (hu : ∀ u, p ≠ .unit u) (hc : c = .seq x y ∨ ∃ z, c = .cond z x y) : PlanOk P p.l x ∧ PlanOk P p.r y := by
  cases p with
  | none => exact ⟨trivial, trivial⟩
  | unit u => exact (hu u rfl).elim
  | node l r => rcases hc with rfl | ⟨z, rfl⟩ <;> exact h
theorem PlanOk.left1 {P : Program} {p : Plan} {c x : Code} (h : PlanOk P p c) (hu : ∀ u, p ≠ .unit u) (hc : (∃ id, c = .block id x) ∨ c = .loop x ∨ c = .scope x) : PlanOk P p.l x := by
  cases p with
  | none => exact trivial
  | unit u => exact (hu u rfl).elim
  | node l r => rcases hc with ⟨id, rfl⟩ | rfl | rfl <;> exact h
/-- At a piece of code that is a function of data; else. -/
def atU {β : Type} (O : Op3 β) (p : Plan) (s : AS) (Q : Exit → AS → β) (k : β) : β :=
  match p with
  | .unit u => unitC O u s Q
  | _ => k
/-- A row of one's own behind a pointer, told cell by cell from now on. -/
def openN {β : Type} (O : Op3 β) (n : Nat) (s : AS) (K : AS → β) : β :=
  match look s.h n with
  | some (.own (.rows e sh [d])) => bif sh.flat then K s else onT O ((scat false sh d (s.nx + 1)).map some) fun x =>
      fHs ((n, some (.own (.hol e sh [d] 0 s.nx x.1))) :: (s.nx, some (.al n)) :: x.2.1) s.h fun h => K ⟨s.t, h, x.2.2⟩
  | _ => K s
def openAll {β : Type} (O : Op3 β) : List Nat → AS → (AS → β) → β
  | [], s, K => K s
  | n :: ns, s, K => openN O n s fun s => openAll O ns s K
/-- The pointers that a region's operations name. -/
def ptrOf (t : Tm) : Operand → List Nat
  | .tmp j => match strip (slots t j) with
    | .ptr n 0 0 => [n]
    | _ => []
  | _ => []
def ptrsOf (t : Tm) : List Oper → List Nat
  | [] => []
  | o :: os => (match o.op with
    | .move x => ptrOf t x
    | .nilCheck x => ptrOf t x
    | .fieldAddr _ x _ => ptrOf t x
    | .load _ x => ptrOf t x
    | _ => []) ++ ptrsOf t os
/-- A row, told cell by cell from now on. -/
def openR {β : Type} (O : Op3 β) (n r : Nat) (s : AS) (K : AS → β) : β :=
  match look s.h n with
  | some (.own (.rows e sh l)) => bif sh.flat then K s else onT O (T.when (decide (r < l.length)) ((scat false sh (getR l r) (s.nx + 1)).map some)) fun x =>
      fHs ((n, some (.own (.hol e sh l r s.nx x.1))) :: (s.nx, some (.al n)) :: x.2.1) s.h fun h => K ⟨s.t, h, x.2.2⟩
  | _ => K s
def openRs {β : Type} (O : Op3 β) : List (Nat × Nat) → AS → (AS → β) → β
  | [], s, K => K s
  | x :: xs, s, K => openR O x.1 x.2 s fun s => openRs O xs s K
/-- The rows that are told cell by cell. -/
def holsIn : Hp → List (Nat × Nat)
  | [] => []
  | (n, b) :: r => (match b with | some (.own (.hol _ _ _ i _ _)) => [(n, i)] | _ => []) ++ holsIn r
/-- A region that draws its order: as it stands; else with its rows told cell by cell ahead of it. -/
def rvd {β : Type} (O : Op3 β) (C : Cx) (ops : Array Oper) (s : AS) (Q : AS → β) : β :=
  rrun O C ops.toList (fun t h rs nx => bif apartAll ops (masks [] ops.toList) rs 0 && edgesBack ops.toList 0 then Q ⟨t, h, nx⟩
    else openRs O (holsIn h) s fun s => rvc O C ops true s Q) ops.toList s.nx s.t s.h []
/-- A region; where it draws its order, rows behind its pointers are told cell by cell ahead of it. -/
def rvo {β : Type} (O : Op3 β) (C : Cx) (ops : Array Oper) (draw : Bool) (s : AS) (Q : AS → β) : β :=
  bif draw then openAll O (ptrsOf s.t ops.toList) s fun s => rvd O C ops s Q else rvc O C ops draw s Q
theorem openR_den {β : Type} {A : Ans β} {n r : Nat} {s : AS} {K : AS → β} (h : A.den (openR A.toOp3 n r s K)) {gl : Nat → Option Nat} {W0 : World} {S : Reg} {N n0 : Nat} {E0 E : Env} {a : Act} {w : World} (H : Holds gl W0 S N n0 E0 E s a w) :
    ∃ s' E', A.den (K s') ∧ Holds gl W0 S N n0 E0 E' s' a w := by
  unfold openR at h
  split at h
  case h_2 => exact ⟨s, E, h, H⟩
  rename_i el sh l hb
  cases hf : sh.flat with
  | true => rw [hf] at h; exact ⟨s, E, h, H⟩
  | false =>
    rw [hf] at h
    simp only [cond_false] at h
    obtain ⟨x, hx, h⟩ := onT_den h
    obtain ⟨hr, hx⟩ := T.get_when hx
    have hr : r < l.length := by simpa using hr
    rw [T.get_map, Option.some.injEq] at hx
    rw [fHs_eq] at h
    obtain ⟨F, R, G⟩ := H.gam
    have hge := scat_ge (lx := false) sh (getR l r) (s.nx + 1)
    rw [hx] at hge
    let ef : Eff := { val := .v undef, upd := [(n, some (.own (.hol el sh l r s.nx x.1)))], news := (s.nx, some (.al n)) :: x.2.1, nn := x.2.2 - s.nx }
    obtain ⟨p, E', F', R', us, hp1, hpost, _, _, _⟩ := open_row G hb (r := r) hr (fr := s.nx) (x := x) hx (e := ef) rfl rfl rfl (fun m h1 _ => H.fresh m h1)
    have hnn : s.nx + ef.nn = x.2.2 := by show s.nx + (x.2.2 - s.nx) = x.2.2; omega
    have hdom := hpost.dom
    rw [hnn] at hdom
    refine ⟨_, E', h, H.anc.step hpost.ext (fun m k1 k2 => by have := (hdom m k1 k2).1; have := H.nx; omega), ?_, H.sl.mono hpost.ext, ?_, H.len, by have := H.nx; show n0 ≤ x.2.2; omega⟩
    · have e : look (putH ((n, some (.own (.hol el sh l r s.nx x.1))) :: (s.nx, some (.al n)) :: x.2.1) s.h) = after (look s.h) ef := by
        rw [look_putH]
        funext m
        rw [look_append]
        rfl
      show Gam W0 S E' (look (putH ((n, some (.own (.hol el sh l r s.nx x.1))) :: (s.nx, some (.al n)) :: x.2.1) s.h)) w
      rw [e]
      exact G.apply hpost
    · intro m hm
      have hm : x.2.2 ≤ m := hm
      cases hE : E' m with
      | none => rfl
      | some q =>
        have := hdom m (H.fresh m (by omega)) (by rw [hE]; exact fun h => by cases h)
        omega
theorem openRs_den {β : Type} {A : Ans β} : ∀ {ns : List (Nat × Nat)} {s : AS} {K : AS → β}, A.den (openRs A.toOp3 ns s K) → ∀ {gl : Nat → Option Nat} {W0 : World} {S : Reg} {N n0 : Nat} {E0 E : Env} {a : Act} {w : World}, Holds gl W0 S N n0 E0 E s a w →
    ∃ s' E', A.den (K s') ∧ Holds gl W0 S N n0 E0 E' s' a w
  | [], s, K, h, _, _, _, _, _, _, E, _, _, H => ⟨s, E, h, H⟩
  | n :: ns, s, K, h, _, _, _, _, _, _, E, _, _, H => by
    obtain ⟨s1, E1, h1, H1⟩ := openR_den h H
    exact openRs_den h1 H1
theorem openN_den {β : Type} {A : Ans β} {n : Nat} {s : AS} {K : AS → β} (h : A.den (openN A.toOp3 n s K)) {gl : Nat → Option Nat} {W0 : World} {S : Reg} {N n0 : Nat} {E0 E : Env} {a : Act} {w : World} (H : Holds gl W0 S N n0 E0 E s a w) :
    ∃ s' E', A.den (K s') ∧ Holds gl W0 S N n0 E0 E' s' a w := by
  unfold openN at h
  split at h
  case h_2 => exact ⟨s, E, h, H⟩
  rename_i el sh d hb
  cases hf : sh.flat with
  | true => rw [hf] at h; exact ⟨s, E, h, H⟩
  | false =>
    rw [hf] at h
    simp only [cond_false] at h
    obtain ⟨x, hx, h⟩ := onT_den h
    rw [T.get_map, Option.some.injEq] at hx
    rw [fHs_eq] at h
    obtain ⟨F, R, G⟩ := H.gam
    have hge := scat_ge (lx := false) sh d (s.nx + 1)
    rw [hx] at hge
    let ef : Eff := { val := .v undef, upd := [(n, some (.own (.hol el sh [d] 0 s.nx x.1)))], news := (s.nx, some (.al n)) :: x.2.1, nn := x.2.2 - s.nx }
    obtain ⟨p, E', F', R', us, hp1, hpost, _, _, _⟩ := open_row G hb (r := 0) (by simp) (fr := s.nx) (x := x) hx (e := ef) rfl rfl rfl (fun m h1 _ => H.fresh m h1)
    have hnn : s.nx + ef.nn = x.2.2 := by show s.nx + (x.2.2 - s.nx) = x.2.2; omega
    have hdom := hpost.dom
    rw [hnn] at hdom
    refine ⟨_, E', h, H.anc.step hpost.ext (fun m k1 k2 => by have := (hdom m k1 k2).1; have := H.nx; omega), ?_, H.sl.mono hpost.ext, ?_, H.len, by have := H.nx; show n0 ≤ x.2.2; omega⟩
    · have e : look (putH ((n, some (.own (.hol el sh [d] 0 s.nx x.1))) :: (s.nx, some (.al n)) :: x.2.1) s.h) = after (look s.h) ef := by
        rw [look_putH]
        funext m
        rw [look_append]
        rfl
      show Gam W0 S E' (look (putH ((n, some (.own (.hol el sh [d] 0 s.nx x.1))) :: (s.nx, some (.al n)) :: x.2.1) s.h)) w
      rw [e]
      exact G.apply hpost
    · intro m hm
      have hm : x.2.2 ≤ m := hm
      cases hE : E' m with
      | none => rfl
      | some q =>
        have := hdom m (H.fresh m (by omega)) (by rw [hE]; exact fun h => by cases h)
        omega
theorem openAll_den {β : Type} {A : Ans β} : ∀ {ns : List Nat} {s : AS} {K : AS → β}, A.den (openAll A.toOp3 ns s K) → ∀ {gl : Nat → Option Nat} {W0 : World} {S : Reg} {N n0 : Nat} {E0 E : Env} {a : Act} {w : World}, Holds gl W0 S N n0 E0 E s a w →
    ∃ s' E', A.den (K s') ∧ Holds gl W0 S N n0 E0 E' s' a w
  | [], s, K, h, _, _, _, _, _, _, E, _, _, H => ⟨s, E, h, H⟩
  | n :: ns, s, K, h, _, _, _, _, _, _, E, _, _, H => by
    obtain ⟨s1, E1, h1, H1⟩ := openN_den h H
    exact openAll_den h1 H1
theorem rvo_sound {β : Type} {A : Ans β} {C : Cx} (hK : KOk C) (hm : C.P.follows .mixedOrders = true) {id : Nat} {ops : Array Oper} {draw : Bool} {s : AS} {Q : AS → β}
    (h : A.den (rvo A.toOp3 C ops draw s Q)) : Runs A C (.region id ops draw) s (fun e s' => match e with | .normal => Q s' | _ => A.fail) := by
  unfold rvo at h
  cases draw with
  | false => exact rvc_sound hK hm h
  | true =>
    intro W0 S N n0 E0 E a w H
    obtain ⟨s1, E1, h1, H1⟩ := openAll_den h H
    unfold rvd at h1
    obtain ⟨recs, t', h', hrun, hq, hfin, hlen⟩ := rrun_sound (N := N) (i := 0) H1.len h1
    simp only [List.reverse_nil, List.nil_append] at hq
    cases hb : (apartAll ops (masks [] ops.toList) recs 0 && edgesBack ops.toList 0) with
    | true =>
      rw [hb] at hq
      exact drawn_sound (Q := fun e s' => match e with | .normal => Q s' | _ => A.fail) hK hm H1 hrun hfin hlen hb hq
    | false =>
      rw [hb] at hq
      obtain ⟨s2, E2, h2, H2⟩ := openRs_den hq H1
      exact rvc_sound hK hm h2 W0 S N n0 E0 E2 a w H2
/-- A piece of code. -/
def avc {β : Type} (O : Op3 β) (L : Lh β) (C : Cx) : Code → Plan → AS → (Exit → AS → β) → β
  | .skip, p, s, Q => atU O p s Q (Q .normal s)
  | .region _ ops draw, p, s, Q => atU O p s Q (rvo O C ops draw s (Q .normal))
  | .seq x y, p, s, Q => atU O p s Q (avc O L C x p.l s (fun e s' => match e with | .normal => avc O L C y p.r s' Q | e => Q e s'))
  | .cond c x y, p, s, Q => atU O p s Q (
    match aval C.gl (slots s.t) c with
    | .v (.bool b) => O.ite b (fKnown s.t c true fun t => avc O L C x p.l ⟨t, s.h, s.nx⟩ Q) (fKnown s.t c false fun t => avc O L C y p.r ⟨t, s.h, s.nx⟩ Q)
    | _ => O.fail)
  | .block id c, p, s, Q => atU O p s Q (avc O L C c p.l s (fun e s' => match e with | .exit j => bif Nat.beq j id then Q .normal s' else Q (.exit j) s' | e => Q e s'))
  | .loop c, p, s, Q => atU O p s Q (L (firstR c) (avc O L C c p.l) s Q)
  | .exit id, p, s, Q => atU O p s Q (Q (.exit id) s)
  | .ret, p, s, Q => atU O p s Q (Q .ret s)
  | .label _, p, s, Q => atU O p s Q (Q .normal s)
  | .goto l, p, s, Q => atU O p s Q (Q (.goto l) s)
  | .scope c, p, s, Q => atU O p s Q (avc O L C c p.l s (fun e s' => match e with | .goto _ => O.fail | e => Q e s'))
  | _, p, s, Q => atU O p s Q O.fail

/-- A sound handler of loops. -/
def LOk {β : Type} (A : Ans β) (C : Cx) (L : Lh β) : Prop :=
  ∀ id c B, (∀ s Q, A.den (B s Q) → Runs A C c s Q) → ∀ s Q, A.den (L id B s Q) → Runs A C (.loop c) s Q

theorem atU_den {β : Type} {A : Ans β} {C : Cx} {c : Code} {p : Plan} {s : AS} {Q : Exit → AS → β} {k : β} (hp : PlanOk C.P p c) (h : A.den (atU A.toOp3 p s Q k)) (hk : (∀ u, p ≠ .unit u) → A.den k → Runs A C c s Q) : Runs A C c s Q := by
  cases p with
  | unit u => exact unitC_sound hp h
  | none => exact hk (fun u => by simp) h
  | node l r => exact hk (fun u => by simp) h
theorem avc_sound {β : Type} {A : Ans β} {L : Lh β} {C : Cx} (hK : KOk C) (hm : C.P.follows .mixedOrders = true) (hL : LOk A C L) : ∀ (c : Code) (p : Plan) (s : AS) (Q : Exit → AS → β), PlanOk C.P p c → A.den (avc A.toOp3 L C c p s Q) → Runs A C c s Q
  | .skip, p, s, Q, hp, h => atU_den hp h fun _ h W0 S N n0 E0 E a w H => wp_skip ⟨s, E, h, H⟩
  | .region id ops draw, p, s, Q, hp, h => atU_den hp h fun _ h W0 S N n0 E0 E a w H =>
    Code.wp_mono (fun e a' w' ⟨s', E', h1, h2⟩ => by
      cases e with
      | normal => exact ⟨s', E', h1, h2⟩
      | _ => exact (A.fail_den h1).elim) (rvo_sound hK hm h W0 S N n0 E0 E a w H)
  | .seq x y, p, s, Q, hp, h => atU_den hp h fun hu h W0 S N n0 E0 E a w H => by
    have hp' := hp.left2 hu (.inl rfl)
    refine wp_seq (Code.wp_mono ?_ (avc_sound hK hm hL x _ s _ hp'.1 h W0 S N n0 E0 E a w H))
    rintro e a' w' ⟨s', E', h1, h2⟩
    cases e with
    | normal => exact avc_sound hK hm hL y _ s' Q hp'.2 h1 W0 S N n0 E0 E' a' w' h2
    | _ => exact ⟨s', E', h1, h2⟩
  | .cond c x y, p, s, Q, hp, h => atU_den hp h fun hu h W0 S N n0 E0 E a w H => by
    have hp' := hp.left2 hu (.inr ⟨c, rfl⟩)
    split at h
    case h_2 => exact (A.fail_den h).elim
    rename_i b hb
    have hv := H.sl.eval c (by rw [hb]; rfl)
    rw [hb] at hv
    simp only [conc, Option.some.injEq] at hv
    cases b with
    | true =>
      have h := A.true_den h
      rw [fKnown_eq] at h
      exact wp_cond_true hv.symm (avc_sound hK hm hL x _ _ Q hp'.1 h W0 S N n0 E0 E a w (H.same (known_same hb).1 (known_same hb).2))
    | false =>
      have h := A.false_den h
      rw [fKnown_eq] at h
      exact wp_cond_false hv.symm (avc_sound hK hm hL y _ _ Q hp'.2 h W0 S N n0 E0 E a w (H.same (known_same hb).1 (known_same hb).2))
  | .block id c, p, s, Q, hp, h => atU_den hp h fun hu h W0 S N n0 E0 E a w H => by
    refine wp_block (Code.wp_mono ?_ (avc_sound hK hm hL c _ s _ (hp.left1 hu (.inl ⟨id, rfl⟩)) h W0 S N n0 E0 E a w H))
    rintro e a' w' ⟨s', E', h1, h2⟩
    cases e with
    | exit j =>
      simp only [Exit.inBlock]
      simp only at h1
      by_cases hj : j = id
      · subst hj
        rw [if_pos rfl]
        simp only [Nat.beq_refl, cond_true] at h1
        exact ⟨s', E', h1, h2⟩
      · rw [if_neg hj]
        have : Nat.beq j id = false := by
          cases hb : Nat.beq j id with
          | false => rfl
          | true => exact (hj (Nat.eq_of_beq_eq_true hb)).elim
        rw [this] at h1
        exact ⟨s', E', h1, h2⟩
    | _ => exact ⟨s', E', h1, h2⟩
  | .loop c, p, s, Q, hp, h => atU_den hp h fun hu h => hL _ c _ (fun s Q h => avc_sound hK hm hL c _ s Q (hp.left1 hu (.inr (.inl rfl))) h) s Q h
  | .exit id, p, s, Q, hp, h => atU_den hp h fun _ h W0 S N n0 E0 E a w H => wp_exit ⟨s, E, h, H⟩
  | .ret, p, s, Q, hp, h => atU_den hp h fun _ h W0 S N n0 E0 E a w H => wp_ret ⟨s, E, h, H⟩
  | .rangeFunc .., p, s, Q, hp, h => atU_den hp h fun _ h => (A.fail_den h).elim
  | .scope c, p, s, Q, hp, h => atU_den hp h fun hu h => by
    intro W0 S N n0 E0 E a w H
    refine wp_scope_straight (Code.wp_mono ?_ (avc_sound hK hm hL c _ s _ (hp.left1 hu (.inr (.inr rfl))) h W0 S N n0 E0 E a w H))
    rintro e a' w' ⟨s', E', h1, h2⟩
    cases e with
    | goto l => exact (A.fail_den h1).elim
    | _ => exact ⟨s', E', h1, h2⟩
  | .label _, p, s, Q, hp, h => atU_den hp h fun _ h W0 S N n0 E0 E a w H => wp_label ⟨s, E, h, H⟩
  | .goto l, p, s, Q, hp, h => atU_den hp h fun _ h W0 S N n0 E0 E a w H => wp_goto ⟨s, E, h, H⟩
  | .refuse _, p, s, Q, hp, h => atU_den hp h fun _ h => (A.fail_den h).elim

/-- Round by round, at most n of them. -/
def unr {β : Type} (fail : β) : Nat → Lh β
  | 0, _, _, _, _ => fail
  | n + 1, id, B, s, Q => B s (fun e s' => match e with | .normal => unr fail n id B s' Q | e => Q e s')
theorem unr_ok {β : Type} {A : Ans β} {C : Cx} (n : Nat) : LOk A C (unr A.fail n) := by
  intro id c B hB s Q h W0 S N n0 E0 E a w H
  have key : ∀ n s E a w, A.den (unr A.fail n id B s Q) → Holds C.gl W0 S N n0 E0 E s a w → Code.rounds C.P c (fun e a' w' => ∃ s' E', A.den (Q e s') ∧ Holds C.gl W0 S N n0 E0 E' s' a' w') n a w := by
    intro n
    induction n with
    | zero => intro s E a w h; exact (A.fail_den h).elim
    | succ n ih =>
      intro s E a w h H
      rw [rounds_succ]
      refine Code.wp_mono ?_ (hB s _ h W0 S N n0 E0 E a w H)
      rintro e a' w' ⟨s', E', h1, h2⟩
      cases e with
      | normal => exact ih s' E' a' w' h1 h2
      | _ => exact ⟨s', E', h1, h2⟩
  exact wp_loop_rounds n (key n s E a w h H)

/-! ### Results, calls -/
def ares1 (P : Program) (s : AS) : ResultVar → T (Option AV)
  | .tmp t => bif isAny (strip (slots s.t t)) then .leaf none else .leaf (some (strip (slots s.t t)))
  | .cell a t => (effLoad P t (strip (slots s.t a)) (look s.h) s.nx).bindO fun e => match e.upd, e.news, e.nn with | [], [], 0 => .leaf (some e.val) | _, _, _ => .leaf none
def aresL (P : Program) (s : AS) : List ResultVar → T (Option (List AV))
  | [] => .leaf (some [])
  | r :: rs => (ares1 P s r).bindO fun v => (aresL P s rs).mapO fun vs => v :: vs
def ares (P : Program) (fn : Func) (s : AS) : T (Option AV) :=
  (aresL P s fn.results.toList).mapO fun vs => match vs with | [v] => v | vs => .tuple vs

/-- One result's value, as the model reads it. -/
def resOne (tmps : Array Value) : ResultVar → Sem Value
  | .tmp t => pure (tmps.getD t undef)
  | .cell a t => do loadVar t (← asAddr (tmps.getD a undef))
theorem ares1_run {C : Cx} {s : AS} {r : ResultVar} {v : AV} {W0 : World} {S : Reg} {N n0 : Nat} {E0 E : Env} {a : Act} {w : World} (H : Holds C.gl W0 S N n0 E0 E s a w) (h : (ares1 C.P s r).get = some v) :
    ∃ V, conc E v = some V ∧ (resOne a.tmps r).run C.P w = .ok V w := by
  cases r with
  | tmp t =>
    simp only [ares1] at h
    cases hk : isAny (strip (slots s.t t)) with
    | true => rw [hk] at h; exact get_none h
    | false =>
      rw [hk] at h
      simp only [cond_false, T.get, Option.some.injEq] at h
      subst h
      exact ⟨_, H.sl.slot t hk, rfl⟩
  | cell x t =>
    simp only [ares1] at h
    obtain ⟨e, he, h⟩ := T.get_bindO h
    split at h
    case h_2 => exact get_none h
    rename_i hu hn hnn
    simp only [T.get, Option.some.injEq] at h
    subst h
    have hptr : (∃ n r o, strip (slots s.t x) = .ptr n r o) ∨ ∃ A, strip (slots s.t x) = .v (.pointer (some A)) := by
      unfold effLoad at he
      split at he
      · rename_i n r o heq; exact .inl ⟨n, r, o, heq⟩
      · rename_i A heq; exact .inr ⟨A, heq⟩
      · exact get_no he
    have hx := H.sl.slot x (by rcases hptr with ⟨n, r, o, hp⟩ | ⟨A, hp⟩ <;> rw [hp] <;> rfl)
    obtain ⟨V, E', h1, h2, _, _, _, h6⟩ := load_run hx H.gam (fun n h1 h2 => by omega) he
    have hE := h6 hu hn
    subst hE
    refine ⟨V, h1, ?_⟩
    obtain ⟨A, hA⟩ : ∃ A, a.tmps.getD x undef = .pointer (some A) := by
      rcases hptr with ⟨n, r, o, hp⟩ | ⟨A, hp⟩
      · rw [hp] at hx
        simp only [conc, Option.map_eq_some_iff] at hx
        obtain ⟨p, _, hx⟩ := hx
        exact ⟨_, hx.symm⟩
      · rw [hp] at hx
        simp only [conc, Option.some.injEq] at hx
        exact ⟨A, hx.symm⟩
    rw [hA] at h2
    simpa [resOne, hA, asAddr, Instr.loadAt, Instr.sureAddr] using h2

theorem aresL_run {C : Cx} {s : AS} {W0 : World} {S : Reg} {N n0 : Nat} {E0 E : Env} {a : Act} {w : World} (H : Holds C.gl W0 S N n0 E0 E s a w) : ∀ (rs : List ResultVar) (vs : List AV), (aresL C.P s rs).get = some vs →
    ∃ Vs, concs E vs = some Vs ∧ (rs.mapM (resOne a.tmps)).run C.P w = .ok Vs w
  | [], vs, h => by
    simp only [aresL, T.get, Option.some.injEq] at h
    subst h
    exact ⟨[], rfl, rfl⟩
  | r :: rs, vs, h => by
    simp only [aresL] at h
    obtain ⟨v, h1, h⟩ := T.get_bindO h
    obtain ⟨us, h2, rfl⟩ := T.get_mapO h
    obtain ⟨V, g1, g2⟩ := ares1_run H h1
    obtain ⟨Us, g3, g4⟩ := aresL_run H rs us h2
    refine ⟨V :: Us, concs_cons.2 ⟨V, Us, g1, g3, rfl⟩, ?_⟩
    rw [List.mapM_cons]
    simp only [Sem.run_bind, g2, Result.andThen_ok, g4, Sem.run_pure]

theorem ares_run {C : Cx} {fn : Func} {s : AS} {v : AV} {W0 : World} {S : Reg} {N n0 : Nat} {E0 E : Env} {a : Act} {w : World} (H : Holds C.gl W0 S N n0 E0 E s a w) (h : (ares C.P fn s).get = some v) :
    ∃ V, conc E v = some V ∧ (results fn a.tmps).run C.P w = .ok V w := by
  unfold ares at h
  obtain ⟨us, hu, hv⟩ := T.get_mapO h
  obtain ⟨Vs, h1, h2⟩ := aresL_run H _ us hu
  have hres : results fn a.tmps = (fn.results.mapM (resOne a.tmps) >>= fun vs => pure (if h : vs.size = 1 then vs[0] else .tuple vs)) := by
    unfold results
    congr 1
  have hrun : (results fn a.tmps).run C.P w = .ok (if h : Vs.toArray.size = 1 then Vs.toArray[0] else .tuple Vs.toArray) w := by
    rw [hres]
    generalize fn.results = R at hu h2
    obtain ⟨l⟩ := R
    rw [List.mapM_toArray]
    simp only [Sem.run_bind, Sem.run_map]
    rw [h2]
    rfl
  split at hv
  · rename_i u
    subst hv
    obtain ⟨V, Us, g1, g2, rfl⟩ := concs_cons.1 h1
    simp only [concs, Option.some.injEq] at g2
    subst g2
    exact ⟨V, g1, by simpa using hrun⟩
  · rename_i hne
    subst hv
    have hl := concs_length h1
    have : ¬ Vs.toArray.size = 1 := by
      intro e
      have : us.length = 1 := by rw [← hl]; simpa using e
      match us, this with
      | [u], _ => exact hne u rfl
    rw [dif_neg this] at hrun
    exact ⟨.tuple Vs.toArray, by simp [conc, h1], hrun⟩

/-- The rows in which results lie. -/
def resPtrs (t : Tm) : List ResultVar → List Nat
  | [] => []
  | .cell a _ :: rs => (match strip (slots t a) with | .ptr n 0 0 => [n] | _ => []) ++ resPtrs t rs
  | .tmp _ :: rs => resPtrs t rs
/-- Where a body ends with what the caller is told. -/
def endsIn {β : Type} (O : Op3 β) (P : Program) (fn : Func) (R : AV → AS → β) : Exit → AS → β
  | .normal, s | .ret, s => openAll O (resPtrs s.t fn.results.toList) s fun s => onT O (ares P fn s) fun r => R r s
  | _, _ => O.fail

/-- All plans are sound. -/
def PlansOk (C : Cx) : Prop := ∀ f fn c, C.P.funcs[f]? = some fn → fn.body = some c → PlanOk C.P (C.pl f) c
/-- A call, from its body. -/
theorem calls_of_avc {β : Type} {A : Ans β} {L : Lh β} {C : Cx} (hK : KOk C) (hpl : PlansOk C) (hm : C.P.follows .mixedOrders = true) (hL : LOk A C L) {f : FuncId} {fn : Func} {c : Code} {args : List AV} {vs : List Value} {h0 : Hp} {nx : Nat} {E : Env} {w : World} {S : Reg} {R : AV → AS → β}
    (hf : C.P.funcs[f]? = some fn) (hb : fn.body = some c) (ha : concs E args = some vs) (G : Gam w S E (look h0) w) (hgl : GlOk C.gl E) (hfr : ∀ n, nx ≤ n → E n = none)
    (h : A.den (enter A.fail fn.ntmps args h0 nx fun s => avc A.toOp3 L C c (C.pl f) s (endsIn A.toOp3 C.P fn R))) :
    Calls C.P f vs.toArray w fun e w' => ∃ r s E' V, A.den (R r s) ∧ e = .returned V ∧ conc E' r = some V ∧ Anc nx E E' ∧ Gam w S E' (look s.h) w' ∧ (∀ n, s.nx ≤ n → E' n = none) ∧ nx ≤ s.nx := by
  refine calls_of_wp hf hb ?_
  have hvl := concs_length ha
  obtain ⟨hn, h⟩ := enter_den h
  have H : Holds C.gl w S (args.length + (fn.ntmps - args.length)) nx E E ⟨startT args _ hn, h0, nx⟩
      { tmps := vs.toArray ++ Array.replicate (fn.ntmps - vs.toArray.size) undef, defers := [] } w := by
    have nonm : ∀ i, strip (slots (startT args _ hn) i) = slots (startT args _ hn) i := by
      intro i
      rw [startT_slot (by omega), List.getD_eq_getElem?_getD]
      cases hx : args[i]? with
      | none => rfl
      | some v => obtain ⟨V, h1, h2⟩ := concs_get ha hx; exact strip_of h2
    refine ⟨Anc.refl nx E, G, ⟨rfl, by simp [hvl], hgl, fun i _ => ?_, fun i n v e => ?_⟩, hfr, setAll_n _ _ _, Nat.le_refl _⟩
    rotate_left
    · have e : slots (startT args _ hn) i = .nm n v := e
      rw [startT_slot (by omega), List.getD_eq_getElem?_getD] at e
      cases hx : args[i]? with
      | none => rw [hx] at e; cases e
      | some v' => obtain ⟨V, h1, h2⟩ := concs_get ha hx; rw [hx] at e; exact (nm_none h2 n v e).elim
    show conc E (strip (slots (startT args _ hn) i)) = _
    rw [nonm, startT_slot (by omega)]
    have e : (vs.toArray ++ Array.replicate (fn.ntmps - vs.toArray.size) undef) = (vs ++ List.replicate (fn.ntmps - args.length) undef).toArray := by
      apply Array.toList_inj.1
      simp [hvl]
    rw [e]
    simp only [List.getD_eq_getElem?_getD, Array.getD_eq_getD_getElem?, List.getElem?_toArray]
    cases hx : args[i]? with
    | some v =>
      obtain ⟨V, h1, h2⟩ := concs_get ha hx
      rw [List.getElem?_append_left (List.getElem?_eq_some_iff.1 h1).1, h1]
      exact h2
    | none =>
      have hlt : vs.length ≤ i := by rw [hvl]; exact List.getElem?_eq_none_iff.1 hx
      rw [List.getElem?_append_right hlt, List.getElem?_replicate]
      split <;> rfl
  refine Code.wp_mono ?_ (avc_sound hK hm hL c _ _ _ (hpl f fn c hf hb) h w S _ nx E E _ w H)
  rintro e a' w' ⟨s', E', h1, h2⟩
  have fin : A.den (openAll A.toOp3 (resPtrs s'.t fn.results.toList) s' fun s => onT A.toOp3 (ares C.P fn s) fun r => R r s) → a'.defers = [] ∧ ∃ v, (results fn a'.tmps).run C.P w' = .ok v w' ∧ ∃ r s E' V, A.den (R r s) ∧ Ending.returned v = .returned V ∧ conc E' r = some V ∧ Anc nx E E' ∧ Gam w S E' (look s.h) w' ∧ (∀ n, s.nx ≤ n → E' n = none) ∧ nx ≤ s.nx := by
    intro h1
    obtain ⟨s', E', h1, h2⟩ := openAll_den h1 h2
    obtain ⟨r, hr, h1⟩ := onT_den h1
    obtain ⟨V, g1, g2⟩ := ares_run h2 hr
    exact ⟨h2.sl.defers, V, g2, r, s', E', V, h1, rfl, g1, h2.anc, h2.gam, h2.fresh, h2.nx⟩
  cases e with
  | normal => exact fin h1
  | ret => exact fin h1
  | _ => exact (A.fail_den h1).elim

end Go.Proofs.YtpfbpcaehmhefaaDoorB.Sx
