/- The engine, part O: scopes with jumps, as functions of data. -/
import Derived.Test.YtpfbpcaehmhefaaDoorBZN
import Derived.ScopeJumps
namespace Go.Proofs.YtpfbpcaehmhefaaDoorB.Sx
open Go.RowKit
set_option linter.unusedSimpArgs false
set_option linter.unusedVariables false

/-- Code within a scope, carried out to the scope's end. -/
def ScEnds (P : Program) (c : Code) (Q : Exit → Act → World → Prop) (code : Code) (a : Act) (w : World) : Prop :=
  ∀ (b : Frame) (k : List Item) (cs : List Frame), ∃ e a' w', Q e a' w' ∧ Arrives P (lone (b.at a (.code code :: .inScope c :: k)) cs w) b k cs e a' w'
/-- A way out of a piece of a scope's code: a jump within it, or out. -/
def Jmp (P : Program) (c : Code) (Q : Exit → Act → World → Prop) : Exit → Act → World → Prop
  | .goto l, a, w => ∃ rest, findLabel c l = some rest ∧ ScEnds P c Q rest a w
  | e, a, w => Q e a w
theorem scEnds_of_wp {P : Program} {c code : Code} {Q : Exit → Act → World → Prop} {a : Act} {w : World} (h : code.wp P (Jmp P c Q) a w) : ScEnds P c Q code a w := by
  intro b k cs
  obtain ⟨e, a₁, w₁, hq, harr⟩ := h b (.inScope c :: k) cs
  cases e with
  | normal => exact ⟨.normal, a₁, w₁, hq, Steps.trans harr (.one step_inScope)⟩
  | exit id => exact ⟨.exit id, a₁, w₁, hq, fun k' hk => harr k' (by simp [exitTo, hk])⟩
  | goto l =>
    obtain ⟨rest, hf, hs⟩ := hq
    have hg : gotoIn l (.inScope c :: k) = some (.code rest :: .inScope c :: k) := by simp [gotoIn, hf]
    obtain ⟨e₂, a₂, w₂, hq₂, harr₂⟩ := hs b k cs
    exact ⟨e₂, a₂, w₂, hq₂, .of_steps (harr _ hg) harr₂⟩
  | ret => exact ⟨_, a₁, w₁, hq, harr⟩
  | panic ch => exact ⟨_, a₁, w₁, hq, harr⟩
  | outgrown => exact ⟨_, a₁, w₁, hq, harr⟩
theorem wp_scope_ends {P : Program} {c : Code} {Q : Exit → Act → World → Prop} {a : Act} {w : World} (h : ScEnds P c Q c a w) : (Code.scope c).wp P Q a w := by
  intro b k cs
  obtain ⟨e, a₁, w₁, hq, harr⟩ := h b k cs
  exact ⟨e, a₁, w₁, hq, .of_steps (.one step_scope) harr⟩
/-- Jumps are followed, n of them at most; a jump to the label hd is handed on. -/
def goQ {β : Type} (O : Op3 β) (ev : Code → AS → (Exit → AS → β) → β) (c : Code) (hd : Nat) (Q : Exit → AS → β) : Nat → Exit → AS → β
  | 0, e, s => match e with
    | .goto l => bif Nat.beq l hd then Q (.goto l) s else O.fail
    | e => Q e s
  | n + 1, e, s => match e with
    | .goto l => bif Nat.beq l hd then Q (.goto l) s else match findLabel c l with
      | some rest => ev rest s (goQ O ev c hd Q n)
      | none => O.fail
    | e => Q e s
theorem goQ_ok {β : Type} {A : Ans β} {C : Cx} {ev : Code → AS → (Exit → AS → β) → β} (hev : ∀ code s Q, A.den (ev code s Q) → Runs A C code s Q) {c : Code} {hd : Nat} {Q : Exit → AS → β} {QQ : Exit → Act → World → Prop} {W0 : World} {S : Reg} {N n0 : Nat} {E0 : Env}
    (hout : ∀ e s E a w, (∀ l, e ≠ .goto l) → A.den (Q e s) → Holds C.gl W0 S N n0 E0 E s a w → QQ e a w)
    (hhd : ∀ s E a w, A.den (Q (.goto hd) s) → Holds C.gl W0 S N n0 E0 E s a w → ∃ rest, findLabel c hd = some rest ∧ ScEnds C.P c QQ rest a w) :
    ∀ (n : Nat) (e : Exit) (s : AS) (E : Env) (a : Act) (w : World), A.den (goQ A.toOp3 ev c hd Q n e s) → Holds C.gl W0 S N n0 E0 E s a w → Jmp C.P c QQ e a w := by
  intro n
  induction n with
  | zero =>
    intro e s E a w h H
    cases e with
    | goto l =>
      simp only [goQ] at h
      cases hb : Nat.beq l hd with
      | true =>
        rw [hb] at h
        have := Nat.eq_of_beq_eq_true hb
        subst this
        exact hhd s E a w h H
      | false => rw [hb] at h; exact (A.fail_den h).elim
    | _ => exact hout _ s E a w (fun l h => by cases h) h H
  | succ n ih =>
    intro e s E a w h H
    cases e with
    | goto l =>
      simp only [goQ] at h
      cases hb : Nat.beq l hd with
      | true =>
        rw [hb] at h
        have := Nat.eq_of_beq_eq_true hb
        subst this
        exact hhd s E a w h H
      | false =>
        rw [hb] at h
        simp only [cond_false] at h
        split at h
        case h_2 => exact (A.fail_den h).elim
        rename_i rest hf
        refine ⟨rest, hf, scEnds_of_wp (Code.wp_mono ?_ (hev rest s _ h W0 S N n0 E0 E a w H))⟩
        rintro e' a' w' ⟨s', E', h1, h2⟩
        exact ih e' s' E' a' w' h1 h2
    | _ => exact hout _ s E a w (fun l h => by cases h) h H
/-- What stands behind a label. -/
def restOf (c : Code) (l : Nat) : Code := (findLabel c l).getD .skip
/-- The same piece, begun elsewhere. -/
def Un.at (u : Un) (ins : List Nat) (i : Sh) : Un := { n := u.n, kins := u.kins, k := u.k, ins := ins, i := i, outs := u.outs, o := u.o, stay := u.stay, ex := u.ex, F := fun _ _ => none }
/-- At a label. -/
def backV {γ : Type} (v : Un) (ps : List AV) (s : AS) (K : Den v.i → Option γ) : Option γ :=
  bif stayB s.t v.stay 1 && (vals s.t v.ins).all (fun c => !isAny c) then
    onT (FO _) (gat (look s.h) false v.i (vals s.t v.ins)) fun x =>
      bif nodupB x.2.1 && eqNs (ptrNs (ptrs v.i (vals s.t v.ins))) (ptrNs ps) && (x.2.2.all fun m => isRo (look s.h m)) then K x.1 else none
  else none
/-- What comes of a piece of a scope's code, up to the label hd. -/
def jumpF (C : Cx) (fuel m : Nat) (p : Plan) (u v : Un) (c code : Code) (hd : Nat) (kd : Den u.k) (d : Den u.i) : Option (Den v.i ⊕ (Den u.o × Den (posts u.i))) :=
  startU (FO _) u kd d fun cs s => avc (FO _) (unr none fuel) C code p s (goQ (FO _) (fun code s Q => avc (FO _) (unr none fuel) C code .none s Q) c hd (fun e s' => match e with
    | .goto _ => backV v (ptrs u.i cs) s' fun d => some (.inl d)
    | e => exitU u (ptrs u.i cs) e s' fun r => some (.inr r)) m)
theorem backV_ok {γ : Type} {gl : Nat → Option Nat} {u v : Un} (hst : v.stay = u.stay) (hnn : v.n = u.n) {a a' : Act} {w w' : World} {Ps : List Pl} {F R : List Nat} {cs : List AV} {s s' : AS} {E E' : Env} (H : Started gl u a w Ps F R cs s E) {K : Den v.i → Option γ} {g : γ} (h : backV v (ptrs u.i cs) s' K = some g)
    (H' : Holds gl w ⟨fun k => k ∈ F, fun k => k ∈ R⟩ u.n s.nx E E' s' a' w') :
    ∃ d F' R', K d = some g ∧ a'.defers = [] ∧ a'.tmps.size = v.n ∧ (∀ j ∈ v.stay, tm a' j = tm a j) ∧ holdA w' v.i d (v.ins.map (tm a')) Ps F' R' ∧ F'.Nodup ∧ (∀ k ∈ F', k ∈ F ∨ w.heap.size ≤ k) ∧ (∀ k ∈ R', k ∈ R ∨ tabM w k) ∧ Fr (fun k => k ∈ F) w w' := by
  unfold backV at h
  cases hz : (stayB s'.t v.stay 1 && (vals s'.t v.ins).all (fun c => !isAny c)) with
  | false => rw [hz] at h; cases h
  | true =>
  rw [hz] at h
  simp only [cond_true] at h
  simp only [Bool.and_eq_true] at hz
  obtain ⟨hz1, hz2⟩ := hz
  obtain ⟨x, hx, h1⟩ := onT_den (A := FA (fun x => x = g)) ⟨g, h, rfl⟩
  obtain ⟨g', h3, e3⟩ := h1
  clear h
  subst e3
  have h := h3
  cases hc : (nodupB x.2.1 && eqNs (ptrNs (ptrs v.i (vals s'.t v.ins))) (ptrNs (ptrs u.i cs)) && (x.2.2.all fun m => isRo (look s'.h m))) with
  | false => rw [hc] at h; cases h
  | true =>
  rw [hc] at h
  simp only [cond_true] at h
  simp only [Bool.and_eq_true] at hc
  obtain ⟨⟨c1, c2⟩, c3⟩ := hc
  have c1 := nodupB_ok c1
  have c2 := eqNs_ok c2
  obtain ⟨FF, RR, G⟩ := H'.gam
  obtain ⟨Qs, F', R', hq, q⟩ := gatA_ok G.toGc v.i _ _ x (vals_concs H'.sl v.ins hz2) hx
  have hp' := H.ptr.mono H'.anc.le
  have hQ : Qs = Ps := by
    obtain ⟨ns, p1, p2⟩ := hp'
    obtain ⟨ms, q1, q2⟩ := hq
    rw [p1, q1, ptrNs_map, ptrNs_map] at c2
    subst c2
    exact PlOk.uniq ⟨ms, rfl, q2⟩ ⟨ms, rfl, p2⟩
  subst hQ
  refine ⟨x.1, F', R', h, H'.sl.defers, by rw [hnn]; exact H'.sl.size, by rw [hst] at hz1 ⊢; exact stayB_ok H H'.anc.le H'.sl hz1, q.data, q.nodup c1, ?_, ?_, G.fr⟩
  · intro k hk
    obtain ⟨m, hm, s1, k1⟩ := q.inF k hk
    obtain ⟨b', hb'⟩ := Option.isSome_iff_exists.1 s1
    exact G.feet m b' k hb' k1
  · intro k hk
    obtain ⟨m, b', hb', k1⟩ := ro_names (w' := w') G q.inR (ms' := x.2.2) (fun m hm => hm) c3 k hk
    exact G.rd m b' k hb' k1
/-- What was begun, gone on with. -/
def scR {α β : Type} (x : Option (α ⊕ β)) (g : α → Option β) : Option β :=
  match x with
  | none => none
  | some (.inl d) => g d
  | some (.inr r) => some r
theorem scR_none {α β : Type} {g : α → Option β} : scR none g = none := rfl
theorem scR_inl {α β : Type} {d : α} {g : α → Option β} : scR (some (.inl d)) g = g d := rfl
theorem scR_inr {α β : Type} {r : β} {g : α → Option β} : scR (some (.inr r)) g = some r := rfl
theorem iterN_step {α β : Type} {f : α → Option (α ⊕ β)} {n : Nat} {a : α} : iterN f (n + 1) a = scR (f a) (iterN f n) := by
  rw [iterN]
  cases f a with
  | none => rfl
  | some x => cases x <;> rfl
/-- A scope whose code jumps back to the label hd. -/
theorem unOk_scope {C : Cx} (hK : KOk C) (hpl : PlansOk C) (hm : C.P.follows .mixedOrders = true) (hg : C.gl = fun _ => none) {fuel m : Nat} {p q : Plan} {u : Un} {ins : List Nat} {i : Sh} {c rest : Code} {hd : Nat} (hf : findLabel c hd = some rest)
    (hp : PlanOk C.P p c) (hq : PlanOk C.P q rest) (hs : (u.kins.all fun j => u.stay.contains j) = true) {cs : Den u.o × Den (posts i) → Den u.o × Den (posts u.i)}
    (hc : ∀ a w Ps F R r e a' w', UnPost (u.at ins i) a w Ps F R r e a' w' → UnPost u a w Ps F R (cs r) e a' w')
    {ff : Den u.k → Den u.i → Option (Den i ⊕ (Den u.o × Den (posts u.i)))} {rf : Den u.k → Den i → Option (Den i ⊕ (Den u.o × Den (posts i)))}
    (k1 : ∀ kd x, jumpF C fuel m p u (u.at ins i) c c hd kd x = ff kd x) (k2 : ∀ (kd : Den u.k) (x : Den i), jumpF C fuel m q (u.at ins i) (u.at ins i) c rest hd kd x = rf kd x)
    (hF : ∀ kd d, u.F kd d = scR (ff kd d) fun d' => (iterO (rf kd) d').map cs) : UnOk C.P u (.scope c) := by
  intro a w kd d Rk Ps F R r hgw h1 h2 h3 h4 h5 h6 h7
  have hev : ∀ code s (Q : Exit → AS → Option (Den i ⊕ (Den u.o × Den (posts u.i)))) (x : Den i ⊕ (Den u.o × Den (posts u.i))), (FA (fun y => y = x)).den (avc (FO _) (unr none fuel) C code .none s Q) → Runs (FA (fun y => y = x)) C code s Q :=
    fun code s Q x h => avc_sound (A := FA (fun y => y = x)) hK hm (unr_ok fuel) code .none s Q trivial h
  have hev' : ∀ code s (Q : Exit → AS → Option (Den i ⊕ (Den u.o × Den (posts i)))) (x : Den i ⊕ (Den u.o × Den (posts i))), (FA (fun y => y = x)).den (avc (FO _) (unr none fuel) C code .none s Q) → Runs (FA (fun y => y = x)) C code s Q :=
    fun code s Q x h => avc_sound (A := FA (fun y => y = x)) hK hm (unr_ok fuel) code .none s Q trivial h
  have hltR : ∀ k ∈ R ++ Rk, k < w.heap.size := by
    intro k hk
    rcases List.mem_append.1 hk with h | h
    · exact (hold_lt _ _ _ _ _ _ (holdA_hold _ _ _ _ _ _ h4)).2 k h
    · exact (hold_lt _ _ _ _ _ _ h3).2 k h
  have hkins : ∀ j ∈ u.kins, j ∈ u.stay := fun j hj => by have := List.all_eq_true.1 hs j hj; simpa using this
  -- from the label on
  have key : ∀ (n : Nat) (r1 : Den u.o × Den (posts i)) (d : Den i) (a1 : Act) (w1 : World) (F1 R1 : List Nat), iterN (rf kd) n d = some r1 → cs r1 = r → a1.defers = [] → a1.tmps.size = u.n → (∀ j ∈ u.stay, tm a1 j = tm a j) → holdA w1 i d (ins.map (tm a1)) Ps F1 R1 → F1.Nodup →
      (∀ k ∈ F1, k ∈ F ∨ w.heap.size ≤ k) → (∀ k ∈ R1, k ∈ R ++ Rk ∨ tabM w k) → Fr (fun k => k ∈ F) w w1 → ScEnds C.P c (UnPost u a w Ps F (R ++ Rk) r) rest a1 w1 := by
    intro n
    induction n with
    | zero => intro r1 d a1 w1 F1 R1 h; cases h
    | succ n ih =>
      intro r1 d a1 w1 F1 R1 h hr1 g1 g2 g3 g4 g5 g6 g7 g8
      rw [iterN_step] at h
      have hk1 : hold w1 true u.k kd (u.kins.map (tm a1)) [] Rk := by
        have : u.kins.map (tm a1) = u.kins.map (tm a) := List.map_congr_left fun j hj => g3 j (hkins j hj)
        rw [this]
        refine hold_kept _ _ _ _ _ _ h3 (fun k hk => by cases hk) (fun k hk => g8.block k (hltR k (by simp [hk])) (fun hF => h6 k hF (by simp [hk])))
      have hap : ∀ k ∈ F1, k ∉ R1 ++ Rk := by
        intro k hk hk'
        have hR : k ∈ R ++ Rk ∨ tabM w k := by
          rcases List.mem_append.1 hk' with h | h
          · exact g7 k h
          · simp [h]
        rcases hR with hR | hR
        · rcases g6 k hk with h | h
          · exact h6 k h hR
          · have := hltR k hR; omega
        · obtain ⟨t1, t2⟩ := hgw.tab hR
          rcases g6 k hk with h | h
          · exact t2 h
          · omega
      have hRR : ∀ k, (k ∈ R1 ++ Rk ∨ tabM w1 k) → k ∈ R ++ Rk ∨ tabM w k := by
        intro k hk
        rcases hk with hk | hk
        · rcases List.mem_append.1 hk with h | h
          · exact g7 k h
          · simp [h]
        · exact .inr (tabM_back hgw g8 hk)
      have hFF : ∀ k, (k ∈ F1 ∨ w1.heap.size ≤ k) → k ∈ F ∨ w.heap.size ≤ k := by
        intro k hk
        rcases hk with h | h
        · exact g6 k h
        · exact .inr (Nat.le_trans g8.size h)
      cases hb : rf kd d with
      | none => rw [hb, scR_none] at h; cases h
      | some x =>
      rw [hb] at h
      have hb := (k2 kd d).trans hb
      unfold jumpF at hb
      obtain ⟨cs', s, E, hb, H⟩ := startU_den (A := FA (fun y => y = x)) (u := u.at ins i) ⟨x, hb, rfl⟩ g1 g2 hk1 g4 g5 hap (hgw.step g8 g6)
      rw [← hg] at H
      refine scEnds_of_wp (Code.wp_mono ?_ (avc_sound (A := FA (fun y => y = x)) hK hm (unr_ok fuel) rest q s _ hq hb w1 _ u.n s.nx E E a1 w1 H.hold))
      rintro e a2 w2 ⟨s', E', hden, H'⟩
      refine goQ_ok (A := FA (fun y => y = x)) (C := C) (N := u.n) (n0 := s.nx) (E0 := E) (fun code s Q h => hev' code s Q x h) (QQ := UnPost u a w Ps F (R ++ Rk) r) ?_ ?_ m e s' E' a2 w2 hden H'
      · intro e s' E' a2 w2 hne hden H'
        obtain ⟨g, hq', eg⟩ := hden
        have hq' : exitU (u.at ins i) (ptrs i cs') e s' (fun r => some (.inr r)) = some g := by
          cases e with
          | goto l => exact (hne l rfl).elim
          | _ => exact hq'
        obtain ⟨r', hr, hu⟩ := exitU_ok H hq' H'
        cases hr
        subst eg
        have h : r' = r1 := Option.some.inj h
        subst h
        rw [← hr1]
        refine hc _ _ _ _ _ _ _ _ _ ?_
        obtain ⟨n', x', m', zs, F3, R3, ps, F4, R4, e1, e2, e3, e4, e5, e6, e7, e8, e9, e10, e11, e12⟩ := hu.so
        exact ⟨n', x', m', zs, F3, R3, ps, F4, R4, e1, e2, e3, e4, fun j hj => (e5 j hj).trans (g3 j hj), e6, e7, e8, e9, fun k hk => hFF k (e10 k hk), fun k hk => hRR k (e11 k hk), g8.trans e12 (fun i hi => g6 i hi)⟩
      · intro s' E' a2 w2 hden H'
        obtain ⟨g, hq', eg⟩ := hden
        obtain ⟨d2, F2, R2, hr, b1, b2, b3, b4, b5, b6, b7, b8⟩ := backV_ok (u := u.at ins i) (v := u.at ins i) rfl rfl H hq' H'
        cases hr
        subst eg
        exact ⟨rest, hf, ih r1 d2 a2 w2 F2 R2 h hr1 b1 b2 (fun j hj => (b3 j hj).trans (g3 j hj)) b4 b5 (fun k hk => hFF k (b6 k hk)) (fun k hk => hRR k (b7 k hk)) (g8.trans b8 (fun i hi => g6 i hi))⟩
  refine wp_scope_ends ?_
  rw [hF] at h7
  cases hb : ff kd d with
  | none => rw [hb, scR_none] at h7; cases h7
  | some x =>
  rw [hb] at h7
  have hb := (k1 kd d).trans hb
  unfold jumpF at hb
  obtain ⟨cs', s, E, hb, H⟩ := startU_den (A := FA (fun y => y = x)) ⟨x, hb, rfl⟩ h1 h2 h3 h4 h5 h6 hgw
  rw [← hg] at H
  refine scEnds_of_wp (Code.wp_mono ?_ (avc_sound (A := FA (fun y => y = x)) hK hm (unr_ok fuel) c p s _ hp hb w _ u.n s.nx E E a w H.hold))
  rintro e a2 w2 ⟨s', E', hden, H'⟩
  refine goQ_ok (A := FA (fun y => y = x)) (C := C) (N := u.n) (n0 := s.nx) (E0 := E) (fun code s Q h => hev code s Q x h) (QQ := UnPost u a w Ps F (R ++ Rk) r) ?_ ?_ m e s' E' a2 w2 hden H'
  · intro e s' E' a2 w2 hne hden H'
    obtain ⟨g, hq', eg⟩ := hden
    have hq' : exitU u (ptrs u.i cs') e s' (fun r => some (.inr r)) = some g := by
      cases e with
      | goto l => exact (hne l rfl).elim
      | _ => exact hq'
    obtain ⟨r', hr, hu⟩ := exitU_ok H hq' H'
    cases hr
    subst eg
    have h7 : r' = r := Option.some.inj h7
    subst h7
    exact hu
  · intro s' E' a2 w2 hden H'
    obtain ⟨g, hq', eg⟩ := hden
    obtain ⟨d2, F2, R2, hr, b1, b2, b3, b4, b5, b6, b7, b8⟩ := backV_ok (u := u) (v := u.at ins i) rfl rfl H hq' H'
    cases hr
    subst eg
    have h7 : (iterO (rf kd) d2).map cs = some r := h7
    rw [Option.map_eq_some_iff] at h7
    obtain ⟨r1, hr1, hr2⟩ := h7
    obtain ⟨n, hn⟩ := iterO_iff.1 hr1
    exact ⟨rest, hf, key n r1 d2 a2 w2 F2 R2 hn hr2 b1 b2 b3 b4 b5 b6 b7 b8⟩
/-- A scope's piece of code, over a table. -/
theorem scopeT {P : Program} (hm : P.follows .mixedOrders = true) {K : List (FuncId × Spec)} {pl : List (FuncId × Plan)} (hS : AllS P K) (hP : AllP P pl) {fuel depth m : Nat} {p q : Plan} {u : Un} {ins : List Nat} {i : Sh} {c rest d : Code} {hd : Nat} (he : d = .scope c) (hf : findLabel c hd = some rest)
    (hp : PlanOk P p c) (hq : PlanOk P q rest) (hs : (u.kins.all fun j => u.stay.contains j) = true) {cs : Den u.o × Den (posts i) → Den u.o × Den (posts u.i)}
    (hc : ∀ a w Ps F R r e a' w', UnPost (u.at ins i) a w Ps F R r e a' w' → UnPost u a w Ps F R (cs r) e a' w')
    {ff : Den u.k → Den u.i → Option (Den i ⊕ (Den u.o × Den (posts u.i)))} {rf : Den u.k → Den i → Option (Den i ⊕ (Den u.o × Den (posts i)))}
    (h1 : ∀ kd x, jumpF (tabC P K pl fuel depth) fuel m p u (u.at ins i) c c hd kd x = ff kd x) (h2 : ∀ (kd : Den u.k) (x : Den i), jumpF (tabC P K pl fuel depth) fuel m q (u.at ins i) (u.at ins i) c rest hd kd x = rf kd x)
    (hF : u.F = fun kd x => scR (ff kd x) fun d' => (iterO (rf kd) d').map cs) : UnOk P u d := by
  subst he
  have := unOk_scope (C := tabC P K pl fuel depth) (fuel := fuel) (m := m) (p := p) (q := q) (u := u) (ins := ins) (i := i) (c := c) (rest := rest) (hd := hd) (cs := cs) (tabC_ok hm hS hP fuel depth) (tabC_pl hP fuel depth) (by rw [tabC_P]; exact hm) tabC_gl hf (by rw [tabC_P]; exact hp) (by rw [tabC_P]; exact hq) hs hc h1 h2 (fun kd x => by rw [hF])
  rw [tabC_P] at this
  exact this
end Go.Proofs.YtpfbpcaehmhefaaDoorB.Sx
