/- The engine, part U: pieces of code as functions of data: what they say, and what follows where they stand. -/
import Derived.Test.YtpfbpcaehmhefaaDoorBZF
import Derived.LoopN
namespace Go.Proofs.YtpfbpcaehmhefaaDoorB.Sx
open Go.RowKit
set_option linter.unusedSimpArgs false
set_option linter.unusedVariables false

/-- Own pointers alone. -/
def allP : Sh → Bool
  | .nil => true
  | .pt own _ _ r => own && allP r
  | _ => false
theorem posts_allP : ∀ (sh : Sh), allP (posts sh) = true
  | .nil => rfl
  | .sc _ r => posts_allP r
  | .sl _ _ _ r => posts_allP r
  | .pt own _ _ r => by
    cases own with
    | true => simp only [posts, allP, Bool.true_and]; exact posts_allP r
    | false => exact posts_allP r
  | .po _ _ _ r => posts_allP r
  | .ag _ _ r => posts_allP r
  | .mp _ _ _ r => posts_allP r
theorem posts_self : ∀ (sh : Sh), allP sh = true → posts sh = sh
  | .nil, _ => rfl
  | .pt own e row r, h => by
    simp only [allP, Bool.and_eq_true] at h
    obtain ⟨rfl, h⟩ := h
    simp only [posts, posts_self r h]
  | .sc _ _, h => by simp [allP] at h
  | .sl _ _ _ _, h => by simp [allP] at h
  | .po _ _ _ _, h => by simp [allP] at h
  | .ag _ _ _, h => by simp [allP] at h
  | .mp _ _ _ _, h => by simp [allP] at h
theorem ptrs_posts {α : Type} : ∀ (sh : Sh) (cs : List α), ptrs (posts sh) (ptrs sh cs) = ptrs sh cs
  | .nil, _ => rfl
  | .sc _ r, cs => by
    cases cs with
    | nil => simp only [ptrs]; cases posts (.sc _ r) <;> rfl
    | cons v vs => exact ptrs_posts r vs
  | .sl _ _ _ r, cs => by
    cases cs with
    | nil => simp only [ptrs]; cases posts (.sl _ _ _ r) <;> rfl
    | cons v vs => exact ptrs_posts r vs
  | .pt own e row r, cs => by
    cases cs with
    | nil => simp only [ptrs]; cases posts (.pt own e row r) <;> rfl
    | cons v vs =>
      cases own with
      | true => simp only [posts, ptrs, ptrs_posts r vs]
      | false => exact ptrs_posts r vs
  | .po _ _ _ r, cs => by
    cases cs with
    | nil => simp only [ptrs]; cases posts (.po _ _ _ r) <;> rfl
    | cons v vs => exact ptrs_posts r vs
  | .ag _ _ r, cs => by
    cases cs with
    | nil => simp only [ptrs]; cases posts (.ag _ _ r) <;> rfl
    | cons v vs => exact ptrs_posts r vs
  | .mp _ _ _ r, cs => by
    cases cs with
    | nil => simp only [ptrs]; cases posts (.mp _ _ _ r) <;> rfl
    | cons v vs => exact ptrs_posts r vs

/-- The blocks behind own pointers, at their names. -/
def relay : (q : Sh) → Den q → List Nat → Hp
  | .pt _ e row r, d, ns => match ns with
    | n :: ns => (n, some (.own (.rows e row [prHd r d]))) :: relay r (prTl r d) ns
    | [] => []
  | .nil, _, _ => []
  | .sc _ _, _, _ => []
  | .sl _ _ _ _, _, _ => []
  | .po _ _ _ _, _, _ => []
  | .ag _ _ _, _, _ => []
  | .mp _ _ _ _, _, _ => []
structure RelOk (w : World) (E : Env) (F R : List Nat) (ns : List Nat) (h : Hp) (FF RR : Nat → List Nat) : Prop where
  names : ∀ n z, lookO h n = some z → n ∈ ns ∧ z.isSome = true
  gc : Gc E (look h) w FF RR
  inF : ∀ n b k, look h n = some b → k ∈ FF n → k ∈ F
  inR : ∀ n b k, look h n = some b → k ∈ RR n → k ∈ R
theorem relay_ok {w : World} {E : Env} : ∀ (q : Sh) (d : Den q) (vs : List Value) (Ps : List Pl) (F R : List Nat) (ns : List Nat), allP q = true → holdA w q d vs Ps F R → ns.map E = Ps.map some → ns.Nodup → F.Nodup →
    ∃ FF RR, RelOk w E F R ns (relay q d ns) FF RR
  | .nil, d, vs, Ps, F, R, ns, _, h, hE, _, _ => by
    refine ⟨fun _ => [], fun _ => [], ⟨?_, ⟨?_, ?_, ?_⟩, ?_, ?_⟩⟩ <;> intro n <;> intros <;> simp [relay, lookO, look] at *
  | .pt own e row r, d, vs, Ps, F, R, ns, hq, h, hE, hn, hF => by
    simp only [allP, Bool.and_eq_true] at hq
    obtain ⟨rfl, hq⟩ := hq
    obtain ⟨p, Ps', vs', xs, F0, R0, F1, R1, F2, R2, rfl, h1, rfl, h3, h4, h5, rfl, rfl⟩ := h
    cases ns with
    | nil => simp at hE
    | cons n ns =>
      simp only [List.map_cons, List.cons.injEq] at hE
      rw [List.nodup_cons] at hn
      rw [List.nodup_append] at hF
      obtain ⟨FF, RR, g⟩ := relay_ok r _ _ _ _ _ ns hq h5 hE.2 hn.2 hF.2.1
      have hb : (AB.own (.rows e row [prHd r d])).holds E w p F1 R1 := box_holds (own := true) trivial (rowsH_one.2 h3) h4
      have hlk : ∀ m c, look (relay (.pt true e row r) d (n :: ns)) m = some c → (m = n ∧ c = .own (.rows e row [prHd r d])) ∨ (m ≠ n ∧ look (relay r (prTl r d) ns) m = some c) := by
        intro m c hc
        simp only [relay, look] at hc
        cases hq : Nat.beq n m with
        | true => rw [hq] at hc; simp at hc; exact .inl ⟨(Nat.eq_of_beq_eq_true hq).symm, hc.symm⟩
        | false => rw [hq] at hc; exact .inr ⟨fun e => by subst e; simp at hq, hc⟩
      refine ⟨fun m => if m = n then F1 else FF m, fun m => if m = n then R1 else RR m, ⟨?_, ⟨?_, ?_, ?_⟩, ?_, ?_⟩⟩
      · intro m z hz
        simp only [relay, lookO] at hz
        cases hq : Nat.beq n m with
        | true => rw [hq] at hz; simp at hz; subst hz; exact ⟨by simp [(Nat.eq_of_beq_eq_true hq).symm], rfl⟩
        | false => rw [hq] at hz; have := g.names m z hz; exact ⟨by simp [this.1], this.2⟩
      · intro m c hc
        rcases hlk m c hc with ⟨rfl, rfl⟩ | ⟨hne, hc⟩
        · rw [if_pos rfl, if_pos rfl]; exact ⟨p, hE.1, hb⟩
        · rw [if_neg hne, if_neg hne]; exact g.gc.holds m c hc
      · intro m c hc
        rcases hlk m c hc with ⟨rfl, rfl⟩ | ⟨hne, hc⟩
        · rw [if_pos rfl]; exact hF.1
        · rw [if_neg hne]; exact g.gc.nodup m c hc
      · intro m m' c c' k hc hc' hk hk'
        rcases hlk m c hc with ⟨e1, _⟩ | ⟨hne, hc⟩ <;> rcases hlk m' c' hc' with ⟨e2, _⟩ | ⟨hne', hc'⟩
        · rw [e1, e2]
        · rw [if_pos e1] at hk; rw [if_neg hne'] at hk'
          exact (hF.2.2 k hk k (g.inF m' c' k hc' hk') rfl).elim
        · rw [if_neg hne] at hk; rw [if_pos e2] at hk'
          exact (hF.2.2 k hk' k (g.inF m c k hc hk) rfl).elim
        · rw [if_neg hne] at hk; rw [if_neg hne'] at hk'
          exact g.gc.dist m m' c c' k hc hc' hk hk'
      · intro m c k hc hk
        rcases hlk m c hc with ⟨rfl, rfl⟩ | ⟨hne, hc⟩
        · rw [if_pos rfl] at hk; simp [hk]
        · rw [if_neg hne] at hk; simp [g.inF m c k hc hk]
      · intro m c k hc hk
        rcases hlk m c hc with ⟨rfl, rfl⟩ | ⟨hne, hc⟩
        · rw [if_pos rfl] at hk; simp [hk]
        · rw [if_neg hne] at hk; simp [g.inR m c k hc hk]
  | .sc _ _, d, vs, Ps, F, R, ns, hq, _, _, _, _ => by simp [allP] at hq
  | .sl _ _ _ _, d, vs, Ps, F, R, ns, hq, _, _, _, _ => by simp [allP] at hq
  | .po _ _ _ _, d, vs, Ps, F, R, ns, hq, _, _, _, _ => by simp [allP] at hq
  | .ag _ _ _, d, vs, Ps, F, R, ns, hq, _, _, _, _ => by simp [allP] at hq
  | .mp _ _ _ _, d, vs, Ps, F, R, ns, hq, _, _, _, _ => by simp [allP] at hq

/-- Nothing that is read only. -/
def roFree : Sh → Bool
  | .nil => true
  | .sc _ r => roFree r
  | .sl own _ row r => own && roFree row && roFree r
  | .pt own _ row r => own && roFree row && roFree r
  | .po own _ row r => own && roFree row && roFree r
  | .ag _ row r => roFree row && roFree r
  | .mp _ _ row r => roFree row && roFree r
theorem rowsH_nilR {α : Type} {P : α → List Value → List Nat → List Nat → Prop} (hP : ∀ d xs F R, P d xs F R → R = []) : ∀ {l : List α} {xs : List Value} {F R : List Nat}, rowsH P l xs F R → R = []
  | [], xs, F, R, h => h.2.2
  | d :: l, xs, F, R, h => by
    obtain ⟨ys, zs, F1, F2, R1, R2, _, _, rfl, h1, h2⟩ := h
    rw [hP _ _ _ _ h1, rowsH_nilR hP h2]
    rfl
theorem entH_nilR {κ α : Type} {K : κ → Value → Prop} {P : α → List Value → List Nat → List Nat → Prop} (hP : ∀ d xs F R, P d xs F R → R = []) : ∀ {l : List (κ × α)} {es : List MapEntry} {F R : List Nat}, entH K P l es F R → R = []
  | [], es, F, R, h => h.2.2
  | x :: l, es, F, R, h => by
    obtain ⟨e, es', F1, F2, R1, R2, _, _, rfl, _, h1, h2⟩ := h
    rw [hP _ _ _ _ h1, entH_nilR hP h2]
    rfl
theorem objH_nilR {w : World} {κ α : Type} {K : κ → Value → Prop} {P : α → List Value → List Nat → List Nat → Prop} (hP : ∀ d xs F R, P d xs F R → R = []) {F R : List Nat} : ∀ {k : Obk} {d : k.den (List (κ × α))} {v : Value}, objH true w K P k d v F R → R = []
  | .map, l, v, h => by
    obtain ⟨b, es, clk, F0, R0, _, _, h2, _, rfl⟩ := h
    exact entH_nilR hP h2
  | .ob n, d, v, h => by obtain ⟨a, B, _, _, _, rfl⟩ := h; rfl
theorem hold_roFree {w : World} : ∀ (sh : Sh) (d : Den sh) (vs : List Value) (F R : List Nat), hold w false sh d vs F R → roFree sh = true → R = []
  | .nil, d, vs, F, R, h, _ => h.2.2
  | .sc c r, d, vs, F, R, h, hq => by
    obtain ⟨vs', h1, h2, h3⟩ := h
    exact hold_roFree r _ _ _ _ h3 hq
  | .sl own e row r, d, vs, F, R, h, hq => by
    simp only [roFree, Bool.and_eq_true] at hq
    obtain ⟨⟨rfl, q1⟩, q2⟩ := hq
    obtain ⟨p, vs', xs, F0, R0, F1, R1, F2, R2, _, h2, h3, h4, _, rfl⟩ := h
    obtain ⟨_, _, rfl⟩ := h3
    rw [rowsH_nilR (fun d xs F R h => hold_roFree row d xs F R h q1) h2, hold_roFree r _ _ _ _ h4 q2]
    rfl
  | .pt own e row r, d, vs, F, R, h, hq => by
    simp only [roFree, Bool.and_eq_true] at hq
    obtain ⟨⟨rfl, q1⟩, q2⟩ := hq
    obtain ⟨p, vs', xs, F0, R0, F1, R1, F2, R2, _, _, h2, h3, h4, _, rfl⟩ := h
    obtain ⟨_, _, rfl⟩ := h3
    rw [hold_roFree row _ _ _ _ h2 q1, hold_roFree r _ _ _ _ h4 q2]
    rfl
  | .po own e row r, d, vs, F, R, h, hq => by
    simp only [roFree, Bool.and_eq_true] at hq
    obtain ⟨⟨rfl, q1⟩, q2⟩ := hq
    obtain ⟨v, vs', F1, R1, F2, R2, _, _, rfl, h4, h5⟩ := h
    rw [hold_roFree r _ _ _ _ h4 q2]
    split at h5
    · rw [h5.2.2]; rfl
    · obtain ⟨p, xs, F0, R0, _, _, h2, _, _, rfl⟩ := h5
      rw [hold_roFree row _ _ _ _ h2 q1]
      rfl
  | .mp k key row r, d, vs, F, R, h, hq => by
    simp only [roFree, Bool.and_eq_true] at hq
    obtain ⟨v, vs', F1, R1, F2, R2, _, h2, h3, _, rfl⟩ := h
    rw [objH_nilR (fun d xs F R h => hold_roFree row d xs F R h hq.1) h2, hold_roFree r _ _ _ _ h3 hq.2]
    rfl
  | .ag tg row r, d, vs, F, R, h, hq => by
    simp only [roFree, Bool.and_eq_true] at hq
    obtain ⟨us, vs', F1, R1, F2, R2, _, h2, h3, _, rfl⟩ := h
    rw [hold_roFree row _ _ _ _ h2 hq.1, hold_roFree r _ _ _ _ h3 hq.2]
    rfl

/-- Own memory, and other names of it: what a callee may turn. -/
def isOwn : Option AB → Bool
  | some (.own _) | some (.mp _ _) | some (.sit _ _) | some (.al _) => true
  | some (.obj o _ _ _ _) => o
  | some (.mph o _ _ _ _ _) => o
  | _ => false
theorem look_map {g : Nat → Option AB} : ∀ {l : List Nat} {n : Nat}, look (l.map fun n => (n, g n)) n = if n ∈ l then g n else none
  | [], n => by simp [look]
  | m :: l, n => by
    simp only [List.map_cons, look]
    cases hb : Nat.beq m n with
    | true => have := Nat.eq_of_beq_eq_true hb; subst this; simp
    | false =>
      have hne : ¬ n = m := by intro e; subst e; simp at hb
      simp [look_map (l := l) (n := n), hne]
theorem lookO_map {g : Nat → Option AB} : ∀ {l : List Nat} {n : Nat}, lookO (l.map fun n => (n, g n)) n = if n ∈ l then some (g n) else none
  | [], n => by simp [lookO]
  | m :: l, n => by
    simp only [List.map_cons, lookO]
    cases hb : Nat.beq m n with
    | true => have := Nat.eq_of_beq_eq_true hb; subst this; simp
    | false =>
      have hne : ¬ n = m := by intro e; subst e; simp at hb
      simp [lookO_map (l := l) (n := n), hne]
theorem none_own {E : Env} {w : World} {p : Pl} {b : AB} {F R : List Nat} (h : b.holds E w p F R) (hb : isOwn (some b) = false) : F = [] := by
  cases b with
  | own x => simp [isOwn] at hb
  | ro x =>
    obtain ⟨_, vs, F0, R0, _, hbox⟩ := h
    obtain ⟨_, _, _, _, _, _, hF, _⟩ := hbox
    exact hF
  | al m => exact h.1
  | mp es c => simp [isOwn] at hb
  | sit s i => simp [isOwn] at hb
  | nan => exact h.1
  | tb q es => exact h.1
  | obj o k key row d =>
    have hb : o = false := hb
    subst hb
    exact objH_false_nil h
  | mph o key row l i v =>
    have hb : o = false := hb
    subst hb
    obtain ⟨clk, es1, e, es2, F1, R1, F2, R2, x, _, _, _, _, _, _, h7⟩ := h
    exact h7.2.1
  | emp => exact h.1

def isRo (b : Option AB) : Bool := match b with | some (.ro _) => true | some (.obj o _ _ _ _) => !o | some (.mph o _ _ _ _ _) => !o | _ => false
theorem isRo_nil {E : Env} {w : World} {p : Pl} {b : AB} {F R : List Nat} (h : b.holds E w p F R) (hb : isRo (some b) = true) : F = [] := by
  refine none_own h ?_
  cases b <;> simp_all [isRo, isOwn]
def disjB (l m : List Nat) : Bool := l.all fun n => !m.contains n
theorem disjB_ok {l m : List Nat} (h : disjB l m = true) : ∀ n ∈ l, n ∉ m := by
  intro n hn hm
  have := List.all_eq_true.1 h n hn
  simp [hm] at this
def ptrNs : List AV → List Nat
  | [] => []
  | .ptr n _ _ :: us => n :: ptrNs us
  | _ :: us => ptrNs us
theorem ptrNs_map : ∀ (ns : List Nat), ptrNs (ns.map fun n => AV.ptr n 0 0) = ns
  | [] => rfl
  | n :: ns => by simp [ptrNs, ptrNs_map ns]
theorem lookO_spentI {ns : List Nat} {n : Nat} : lookO (spent ns) n = if n ∈ ns then some none else none := lookO_map (g := fun _ => none)
theorem look_none_of {h : Hp} {n : Nat} {b : AB} : look h n = some b ↔ lookO h n = some (some b) := look_of_lookO
/-- What is gathered is apart from what is read only. -/
theorem got_apart {W0 : World} {S : Reg} {E : Env} {hp : Nat → Option AB} {w : World} {FF RR : Nat → List Nat} (G : Gf W0 S E hp w FF RR) {F R ns ms : List Nat} (hF : InF hp FF F ns) (hR : InR hp FF RR R ns ms) (hd : ∀ n ∈ ns, n ∉ ms) : ∀ k ∈ F, k ∉ R := by
  intro k hk hk'
  obtain ⟨m, hm, s1, k1⟩ := hF k hk
  obtain ⟨b, hb⟩ := Option.isSome_iff_exists.1 s1
  have own : ∀ m' b', hp m' = some b' → k ∈ RR m' → False := by
    intro m' b' hb' hr
    obtain ⟨h1, h2⟩ := G.old m' b' k hb' hr
    rcases G.feet m b k hb k1 with h3 | h3
    · exact h2 h3
    · omega
  rcases hR k hk' with ⟨m', hm', s2, k2⟩ | ⟨m', hm', s2, k2⟩
  · obtain ⟨b', hb'⟩ := Option.isSome_iff_exists.1 s2
    rcases k2 with k2 | k2
    · have := G.dist m m' b b' k hb hb' k1 k2
      subst this
      exact hd m hm hm'
    · exact own m' b' hb' k2
  · obtain ⟨b', hb'⟩ := Option.isSome_iff_exists.1 s2
    exact own m' b' hb' k2
theorem PlOk.uniq {E : Env} {Ps Qs : List Pl} {us : List AV} (h : PlOk E Ps us) (k : PlOk E Qs us) : Ps = Qs := by
  obtain ⟨ns, rfl, h2⟩ := h
  obtain ⟨ms, h3, h4⟩ := k
  have : ms = ns := by rw [← ptrNs_map ms, ← h3, ptrNs_map]
  rw [this, h2] at h4
  clear h2 this
  induction Ps generalizing Qs with
  | nil => cases Qs with | nil => rfl | cons _ _ => simp at h4
  | cons p Ps ih => cases Qs with
    | nil => simp at h4
    | cons q Qs =>
      simp only [List.map_cons, List.cons.injEq, Option.some.injEq] at h4
      rw [h4.1, ih h4.2]
theorem PlOk.cells {E : Env} {Ps : List Pl} {us : List AV} (h : PlOk E Ps us) : concs E us = some (Ps.map fun p => .pointer (some (p.addr 0 0))) := by
  obtain ⟨ns, rfl, h2⟩ := h
  induction ns generalizing Ps with
  | nil => cases Ps with | nil => rfl | cons _ _ => simp at h2
  | cons n ns ih =>
    cases Ps with
    | nil => simp at h2
    | cons p Ps =>
      simp only [List.map_cons, List.cons.injEq] at h2
      exact concs_cons.2 ⟨_, _, by simp [conc, h2.1], ih h2.2, rfl⟩
/-- The slots at a head: all unknown but those that stay and those that are laid anew. -/
def setL : Tm → List Nat → List AV → Tm
  | t, j :: js, c :: cs => setL (t.set j c) js cs
  | t, _, _ => t
def fSetL {β : Type} : Tm → List Nat → List AV → (Tm → β) → β
  | t, j :: js, c :: cs, K => fTm t j c fun t => fSetL t js cs K
  | t, _, _, K => K t
theorem fSetL_eq {β : Type} : ∀ (js : List Nat) (t : Tm) (cs : List AV) (K : Tm → β), fSetL t js cs K = K (setL t js cs)
  | [], t, cs, K => by cases cs <;> rfl
  | j :: js, t, [], K => rfl
  | j :: js, t, c :: cs, K => by rw [fSetL, fTm_eq, fSetL_eq js]; rfl
theorem setL_n : ∀ (js : List Nat) (t : Tm) (cs : List AV), (setL t js cs).n = t.n
  | [], t, cs => by cases cs <;> rfl
  | j :: js, t, [] => rfl
  | j :: js, t, c :: cs => by rw [setL, setL_n js, Tm.set_n]
def anyT (n : Nat) (h : n ≤ 1000000) : Tm := ⟨n, .any, .nil, h⟩
theorem anyT_get {n : Nat} {h : n ≤ 1000000} {i : Nat} : (anyT n h).get i = if i < n then .any else .v undef := by
  unfold anyT Tm.get
  have : Nat.blt i n = decide (i < n) := by
    cases hb : Nat.blt i n with
    | true =>
      have := Nat.le_of_ble_eq_true hb
      simp only [true_eq_decide_iff]
      omega
    | false =>
      have : ¬ i < n := fun e => by
        have := Nat.ble_eq_true_of_le (show i + 1 ≤ n from e)
        unfold Nat.blt at hb
        rw [this] at hb
        cases hb
      simp [this]
  simp only [this]
  by_cases hi : i < n <;> simp [hi, Tr.get]

theorem Gf.globF {W0 : World} {S : Reg} {E : Env} {hp : Nat → Option AB} {w : World} {FF RR : Nat → List Nat} (G : Gf W0 S E hp w FF RR) {F ns : List Nat} (hF : InF hp FF F ns) : GlobOk w (fun k => k ∈ F) :=
  G.globIn fun k hk => by
    obtain ⟨m, _, s1, k1⟩ := hF k hk
    obtain ⟨b, hb⟩ := Option.isSome_iff_exists.1 s1
    exact G.feet m b k hb k1
/-! ### What follows a call, or a piece of code -/
theorem got_apart' {W0 : World} {S : Reg} {E : Env} {hp : Nat → Option AB} {w : World} {FF RR : Nat → List Nat} (G : Gf W0 S E hp w FF RR) {F R ns ns' ms ms' : List Nat} (hF : InF hp FF F ns) (hR : InR hp FF RR R ns' ms) (hs : ∀ m ∈ ms, m ∈ ms') (hd : ∀ n ∈ ns, n ∉ ms') : ∀ k ∈ F, k ∉ R := by
  intro k hk hk'
  obtain ⟨m, hm, s1, k1⟩ := hF k hk
  obtain ⟨b, hb⟩ := Option.isSome_iff_exists.1 s1
  have own : ∀ m' b', hp m' = some b' → k ∈ RR m' → False := by
    intro m' b' hb' hr
    obtain ⟨h1, h2⟩ := G.old m' b' k hb' hr
    rcases G.feet m b k hb k1 with h3 | h3
    · exact h2 h3
    · omega
  rcases hR k hk' with ⟨m', hm', s2, k2⟩ | ⟨m', hm', s2, k2⟩
  · obtain ⟨b', hb'⟩ := Option.isSome_iff_exists.1 s2
    rcases k2 with k2 | k2
    · have := G.dist m m' b b' k hb hb' k1 k2
      subst this
      exact hd m hm (hs m hm')
    · exact own m' b' hb' k2
  · obtain ⟨b', hb'⟩ := Option.isSome_iff_exists.1 s2
    exact own m' b' hb' k2
theorem call_post {W0 : World} {S : Reg} {E : Env} {hp : Nat → Option AB} {w w' : World} {FF RR : Nat → List Nat} (G : Gf W0 S E hp w FF RR) {i o : Sh} {ns used : List Nat} {Ps : List Pl} {F : List Nat} {d1 : Den o} {d2 : Den (posts i)} {rs ps : List Value} {F1 R1 F2 R2 : List Nat} {fr : Nat} {e : Eff}
    (hF : InF hp FF F used) (hns : ns.map E = Ps.map some) (b2 : ns.Nodup)
    (h1 : hold w' false o d1 rs F1 R1) (h2 : holdA w' (posts i) d2 ps Ps F2 R2) (h3 : (F1 ++ F2).Nodup) (h4 : ∀ k ∈ F1 ++ F2, k ∈ F ∨ w.heap.size ≤ k) (hro : ∀ k ∈ R1 ++ R2, (∃ m b, hp m = some b ∧ k ∈ RR m) ∨ tabM w k) (h6 : Fr (fun k => k ∈ F) w w')
    (hupd : e.upd = relay (posts i) d2 ns ++ spent used) (hnews : e.news = (scat false o d1 fr).get.2.1) (hnn : e.nn = (scat false o d1 fr).get.2.2 - fr)
    (hfr : ∀ n, fr ≤ n → n < fr + e.nn → E n = none) :
    ∃ E', concs E' (scat false o d1 fr).get.1 = some rs ∧ E.le E' ∧ (∀ n, E n = none → E' n ≠ none → fr ≤ n ∧ n < fr + e.nn) ∧ Gam W0 S E' (after hp e) w' := by
  rw [List.nodup_append] at h3
  generalize hx : (scat false o d1 fr).get = X at hnews hnn ⊢
  have hxge := scat_ge (lx := false) o d1 fr
  rw [hx] at hxge
  have hfresh : ∀ n, fr ≤ n → n < X.2.2 → E n = none := fun n n1 n2 => hfr n n1 (by rw [hnn]; omega)
  obtain ⟨E', FFo, RRo, g⟩ := scat_ok o d1 rs F1 R1 fr E h1 h3.1 (fun n n1 n2 => by rw [hx] at n2; exact hfresh n n1 n2)
  rw [hx] at g
  obtain ⟨FFp, RRp, gp⟩ := relay_ok (E := E') (posts i) d2 ps Ps F2 R2 ns (posts_allP _) h2 (by
    have := (PlOk.mono ⟨ns, rfl, hns⟩ g.ext : PlOk E' Ps (ns.map fun n => AV.ptr n 0 0))
    obtain ⟨ms, m1, m2⟩ := this
    have : ms = ns := by rw [← ptrNs_map ms, ← m1, ptrNs_map]
    rw [this] at m2
    exact m2) b2 h3.2.1
  have hptrs : ∀ n ∈ ns, ∃ p, E n = some p := by
    intro n hn
    have : E n ∈ ns.map E := List.mem_map.2 ⟨n, hn, rfl⟩
    rw [hns] at this
    obtain ⟨p, _, hp'⟩ := List.mem_map.1 this
    exact ⟨p, hp'.symm⟩
  have hput : e.put = (relay (posts i) d2 ns ++ spent used) ++ X.2.1 := by unfold Eff.put; rw [hupd, hnews]
  have hnn' : fr + e.nn = X.2.2 := by rw [hnn]; omega
  have htouch : ∀ k ∈ F, touched hp FF e k := by
    intro k hk
    obtain ⟨m, hm, s1, k1⟩ := hF k hk
    obtain ⟨b, hb⟩ := Option.isSome_iff_exists.1 s1
    refine ⟨m, b, ?_, hb, k1⟩
    rw [hupd, lookO_append]
    cases lookO (relay (posts i) d2 ns) m with
    | some _ => rfl
    | none => simp only; rw [lookO_spentI, if_pos hm]; rfl
  have hcase : ∀ n b, lookO e.put n = some (some b) → (n ∈ ns ∧ look (relay (posts i) d2 ns) n = some b) ∨ (n ∉ ns ∧ look X.2.1 n = some b) := by
    intro n b hb
    rw [hput, lookO_append, lookO_append] at hb
    cases hr : lookO (relay (posts i) d2 ns) n with
    | some z =>
      rw [hr] at hb
      simp only [Option.some.injEq] at hb
      subst hb
      exact .inl ⟨(gp.names n _ hr).1, look_of_lookO.2 hr⟩
    | none =>
      rw [hr, lookO_spentI] at hb
      by_cases hs : n ∈ used
      · rw [if_pos hs] at hb; simp at hb
      · rw [if_neg hs] at hb
        simp only at hb
        have hl := look_of_lookO.2 hb
        refine .inr ⟨fun hn => ?_, hl⟩
        obtain ⟨p, hp'⟩ := hptrs n hn
        have := g.lo n b hl
        rw [hfresh n this.1 this.2] at hp'
        cases hp'
  refine ⟨E', g.cells, g.ext, ?_, G.apply (F' := fun n => if n ∈ ns then FFp n else FFo n) (R' := fun n => if n ∈ ns then RRp n else RRo n) (lo := fr) ⟨g.ext, ?_, ?_, ?_, ?_, ?_, ?_, ?_⟩⟩
  · intro n n1 n2
    rw [hnn']
    exact g.dom n n1 n2
  · intro n n1 n2
    rw [hnn']
    exact g.dom n n1 n2
  · exact h6.mono htouch
  · intro n b hb
    rcases hcase n b hb with ⟨hn, hl⟩ | ⟨hn, hl⟩
    · rw [if_pos hn, if_pos hn]; exact gp.gc.holds n b hl
    · rw [if_neg hn, if_neg hn]; exact g.gc.holds n b hl
  · intro n b hb
    rcases hcase n b hb with ⟨hn, hl⟩ | ⟨hn, hl⟩
    · rw [if_pos hn]; exact gp.gc.nodup n b hl
    · rw [if_neg hn]; exact g.gc.nodup n b hl
  · intro n b k hb hk
    have : k ∈ F1 ++ F2 := by
      rcases hcase n b hb with ⟨hn, hl⟩ | ⟨hn, hl⟩
      · rw [if_pos hn] at hk; exact List.mem_append.2 (.inr (gp.inF n b k hl hk))
      · rw [if_neg hn] at hk; exact List.mem_append.2 (.inl (g.inF n b k hl hk))
    rcases h4 k this with h | h
    · exact .inl (htouch k h)
    · exact .inr h
  · intro n b k hb hk
    have : k ∈ R1 ++ R2 := by
      rcases hcase n b hb with ⟨hn, hl⟩ | ⟨hn, hl⟩
      · rw [if_pos hn] at hk; exact List.mem_append.2 (.inr (gp.inR n b k hl hk))
      · rw [if_neg hn] at hk; exact List.mem_append.2 (.inl (g.inR n b k hl hk))
    exact hro k this
  · intro n m b b' k hb hb' hk hk'
    rcases hcase n b hb with ⟨hn, hl⟩ | ⟨hn, hl⟩ <;> rcases hcase m b' hb' with ⟨hm, hl'⟩ | ⟨hm, hl'⟩
    · rw [if_pos hn] at hk; rw [if_pos hm] at hk'
      exact gp.gc.dist n m b b' k hl hl' hk hk'
    · rw [if_pos hn] at hk; rw [if_neg hm] at hk'
      exact (h3.2.2 k (g.inF m b' k hl' hk') k (gp.inF n b k hl hk) rfl).elim
    · rw [if_neg hn] at hk; rw [if_pos hm] at hk'
      exact (h3.2.2 k (g.inF n b k hl hk) k (gp.inF m b' k hl' hk') rfl).elim
    · rw [if_neg hn] at hk; rw [if_neg hm] at hk'
      exact g.gc.dist n m b b' k hl hl' hk hk'
/-- What results read of other memory, some name holds. -/
theorem ro_names {W0 : World} {S : Reg} {E : Env} {hp : Nat → Option AB} {w w' : World} {FF RR : Nat → List Nat} (G : Gf W0 S E hp w FF RR) {R ns ms ms' : List Nat} (hR : InR hp FF RR R ns ms) (hs : ∀ m ∈ ms, m ∈ ms') (hall : (ms'.all fun m => isRo (hp m)) = true) : ∀ k ∈ R, ∃ m b, hp m = some b ∧ k ∈ RR m := by
  intro k hk
  rcases hR k hk with ⟨m, hm, s, hk'⟩ | ⟨m, hm, s, hk'⟩
  · obtain ⟨b, hb⟩ := Option.isSome_iff_exists.1 s
    rcases hk' with hk' | hk'
    · obtain ⟨p, _, hh⟩ := G.holds m b hb
      have := List.all_eq_true.1 hall m (hs m hm)
      rw [hb] at this
      rw [isRo_nil hh this] at hk'
      simp at hk'
    · exact ⟨m, b, hb, hk'⟩
  · obtain ⟨b, hb⟩ := Option.isSome_iff_exists.1 s
    exact ⟨m, b, hb, hk'⟩

/-! ### Pieces of code -/
def tm (a : Act) (j : Nat) : Value := a.tmps.getD j undef
def vals (t : Tm) (l : List Nat) : List AV := l.map fun j => strip (slots t j)
def XK.toE : XK → Exit
  | .normal => .normal
  | .exit id => .exit id
  | .ret => .ret
def codedB : List (XK × List Bool) → Bool
  | [_] => false
  | _ => true
def outV (coded : Bool) (n : Nat) (zs : List Value) : List Value := match coded with | true => .int .i64 n :: zs | false => zs
structure UnPost (u : Un) (a : Act) (w : World) (Ps : List Pl) (F R : List Nat) (r : Den u.o × Den (posts u.i)) (e : Exit) (a' : Act) (w' : World) : Prop where
  so : ∃ n x m zs F1 R1 ps F2 R2, u.ex[n]? = some (x, m) ∧ e = x.toE ∧ a'.defers = [] ∧ a'.tmps.size = u.n ∧ (∀ j ∈ u.stay, tm a' j = tm a j) ∧
    (∀ (q i : Nat), m[q]? = some true → u.outs[q]? = some i → zs[q]? = some (tm a' i)) ∧
    hold w' false u.o r.1 (outV (codedB u.ex) n zs) F1 R1 ∧ holdA w' (posts u.i) r.2 ps Ps F2 R2 ∧ (F1 ++ F2).Nodup ∧ (∀ k ∈ F1 ++ F2, k ∈ F ∨ w.heap.size ≤ k) ∧ (∀ k ∈ R1 ++ R2, k ∈ R ∨ tabM w k) ∧ Fr (fun k => k ∈ F) w w'
/-- What it says of code. -/
def UnOk (P : Program) (u : Un) (c : Code) : Prop :=
  ∀ (a : Act) (w : World) (kd : Den u.k) (d : Den u.i) (Rk : List Nat) (Ps : List Pl) (F R : List Nat) (r : Den u.o × Den (posts u.i)),
    GlobOk w (fun k => k ∈ F) → a.defers = [] → a.tmps.size = u.n → hold w true u.k kd (u.kins.map (tm a)) [] Rk → holdA w u.i d (u.ins.map (tm a)) Ps F R → F.Nodup → (∀ k ∈ F, k ∉ R ++ Rk) → u.F kd d = some r →
    c.wp P (UnPost u a w Ps F (R ++ Rk) r) a w
/-- Slots filled. -/
def setP : Tm → List (Nat × AV) → Tm
  | t, [] => t
  | t, (j, c) :: l => setP (t.set j c) l
def fSetP {β : Type} : Tm → List (Nat × AV) → (Tm → β) → β
  | t, [], K => K t
  | t, (j, c) :: l, K => fTm t j c fun t => fSetP t l K
theorem fSetP_eq {β : Type} : ∀ (l : List (Nat × AV)) (t : Tm) (K : Tm → β), fSetP t l K = K (setP t l)
  | [], t, K => rfl
  | (j, c) :: l, t, K => by rw [fSetP, fTm_eq, fSetP_eq l]; rfl
theorem setP_n : ∀ (l : List (Nat × AV)) (t : Tm), (setP t l).n = t.n
  | [], t => rfl
  | (j, c) :: l, t => by rw [setP, setP_n l, Tm.set_n]
theorem setP_get : ∀ (l : List (Nat × AV)) (t : Tm) (i : Nat), (setP t l).get i = t.get i ∨ (i < t.n ∧ (i, (setP t l).get i) ∈ l)
  | [], t, i => .inl rfl
  | (j, c) :: l, t, i => by
    rw [setP]
    rcases setP_get l (t.set j c) i with h | ⟨h0, h1⟩
    · rw [h, Tm.get_set]
      by_cases hi : i = j ∧ j < t.n
      · rw [if_pos hi, hi.1]
        exact .inr ⟨hi.2, List.mem_cons_self⟩
      · rw [if_neg hi]; exact .inl rfl
    · exact .inr ⟨by rw [← Tm.set_n t j c]; exact h0, List.mem_cons_of_mem _ h1⟩
def stayL (t : Tm) (l : List Nat) : List (Nat × AV) := l.map fun j => (j, slots t j)
def pick2 : List Bool → List Nat → List AV → List (Nat × AV)
  | b :: m, i :: is, c :: cs => bif b then (i, c) :: pick2 m is cs else pick2 m is cs
  | _, _, _ => []
theorem pick2_mem : ∀ (m : List Bool) (is : List Nat) (cs : List AV) (i : Nat) (c : AV), (i, c) ∈ pick2 m is cs → ∃ q : Nat, m[q]? = some true ∧ is[q]? = some i ∧ cs[q]? = some c
  | [], is, cs, i, c, h => by simp [pick2] at h
  | b :: m, [], cs, i, c, h => by simp [pick2] at h
  | b :: m, j :: is, [], i, c, h => by simp [pick2] at h
  | b :: m, j :: is, d :: cs, i, c, h => by
    simp only [pick2] at h
    have rest : (i, c) ∈ pick2 m is cs → ∃ q : Nat, (b :: m)[q]? = some true ∧ (j :: is)[q]? = some i ∧ (d :: cs)[q]? = some c := by
      intro h
      obtain ⟨q, h1, h2, h3⟩ := pick2_mem m is cs i c h
      exact ⟨q + 1, by simpa using h1, by simpa using h2, by simpa using h3⟩
    cases b with
    | false => exact rest h
    | true =>
      simp only [cond_true, List.mem_cons, Prod.mk.injEq] at h
      rcases h with ⟨rfl, rfl⟩ | h
      · exact ⟨0, rfl, rfl, rfl⟩
      · exact rest h
/-- Told apart by number. -/
def waysC {β : Type} (O : Op3 β) (k : Int) (K : XK → List Bool → β) : List (XK × List Bool) → Nat → β
  | [], _ => O.fail
  | (x, m) :: l, n => O.ite (decide (k = n)) (K x m) (waysC O k K l (n + 1))
def ways {β : Type} (O : Op3 β) (ex : List (XK × List Bool)) (cs : List AV) (K : XK → List Bool → List AV → β) : β :=
  match ex with
  | [(x, m)] => K x m cs
  | l => match cs with
    | .v (.int _ k) :: cs => waysC O k (fun x m => K x m cs) l 0
    | _ => O.fail
def unChk (u : Un) (lk : Nat → Option AB) (ps : List AV) (ns ms : List Nat) : Bool :=
  nodupB ns && nodupB (ptrNs ps) && disjB ns ms && ((roFree u.o && roFree (posts u.i)) || ms.all fun m => isRo (lk m))
/-- A piece of code, where it stands. -/
def unitC {β : Type} (O : Op3 β) (u : Un) (s : AS) (Q : Exit → AS → β) : β :=
  bif Nat.beq s.t.n u.n && (vals s.t (u.kins ++ u.ins)).all (fun c => !isAny c) then
    onT O (gat (look s.h) true u.k (vals s.t u.kins)) fun a0 => onT O (gat (look s.h) false u.i (vals s.t u.ins)) fun a =>
      bif unChk u (look s.h) (ptrs u.i (vals s.t u.ins)) a.2.1 (a.2.2 ++ a0.2.2) then
        fNs (ptrNs (ptrs u.i (vals s.t u.ins))) fun ns => fNs a.2.1 fun us =>
          O.bnd u.o (posts u.i) (u.F a0.1 a.1) (fun r => onT O ((scat false u.o r.1 s.nx).map some) fun x =>
            fHs ((relay (posts u.i) r.2 ns ++ spent us) ++ x.2.1) s.h fun h =>
              fSetP (anyT s.t.n s.t.small) (stayL s.t u.stay) fun t => ways O u.ex x.1 fun e m cs => fSetP t (pick2 m u.outs cs) fun t => Q e.toE ⟨t, h, x.2.2⟩) O.fail
      else O.fail
  else O.fail
theorem vals_concs {gl : Nat → Option Nat} {E : Env} {t : Tm} {N : Nat} {a : Act} (h : Sl gl E (slots t) N a) : ∀ (l : List Nat), (vals t l).all (fun c => !isAny c) = true → concs E (vals t l) = some (l.map (tm a))
  | [], _ => rfl
  | j :: l, hl => by
    simp only [vals, List.map_cons, List.all_cons, Bool.and_eq_true, Bool.not_eq_true'] at hl
    exact concs_cons.2 ⟨_, _, h.slot j hl.1, vals_concs h l hl.2, rfl⟩
theorem waysC_den {β : Type} {A : Ans β} {k : Int} {K : XK → List Bool → β} : ∀ {l : List (XK × List Bool)} {n : Nat}, A.den (waysC A.toOp3 k K l n) → ∀ (j : Nat) (x : XK) (m : List Bool), l[j]? = some (x, m) → k = ((n + j : Nat) : Int) → A.den (K x m)
  | [], n, h, j, x, m, hj, hk => by simp at hj
  | (x', m') :: l, n, h, j, x, m, hj, hk => by
    simp only [waysC] at h
    cases j with
    | zero =>
      simp only [List.getElem?_cons_zero, Option.some.injEq, Prod.mk.injEq] at hj
      rw [hj.1, hj.2, show decide (k = ((n : Nat) : Int)) = true by simpa using hk] at h
      exact A.true_den h
    | succ j =>
      have hf : decide (k = ((n : Nat) : Int)) = false := by
        rw [decide_eq_false_iff_not]
        omega
      rw [hf] at h
      exact waysC_den (A.false_den h) j x m (by simpa using hj) (by rw [hk]; congr 1; omega)
theorem coded_of {ex : List (XK × List Bool)} (h : ∀ x m, ex ≠ [(x, m)]) : codedB ex = true := by
  match ex with
  | [] => rfl
  | [(x, m)] => exact (h x m rfl).elim
  | _ :: _ :: _ => rfl
theorem ways_den {β : Type} {A : Ans β} {ex : List (XK × List Bool)} {cs : List AV} {K : XK → List Bool → List AV → β} (h : A.den (ways A.toOp3 ex cs K)) {n : Nat} {x : XK} {m : List Bool} (hn : ex[n]? = some (x, m)) {E : Env} {zs : List Value} (hc : concs E cs = some (outV (codedB ex) n zs)) :
    ∃ ds, concs E ds = some zs ∧ A.den (K x m ds) := by
  unfold ways at h
  split at h
  · rename_i x' m'
    cases n with
    | zero =>
      simp only [List.getElem?_cons_zero, Option.some.injEq, Prod.mk.injEq] at hn
      rw [hn.1, hn.2] at h
      exact ⟨cs, hc, h⟩
    | succ n => simp at hn
  · rename_i hne
    rw [coded_of (fun x m e => hne x m e)] at hc
    split at h
    case h_2 => exact (A.fail_den h).elim
    rename_i ki k cs'
    obtain ⟨V, Vs, h1, h2, h3⟩ := concs_cons.1 hc
    simp only [outV, List.cons.injEq] at h3
    obtain ⟨rfl, rfl⟩ := h3
    simp only [conc, Option.some.injEq, Value.int.injEq] at h1
    exact ⟨cs', h2, waysC_den h n x m hn (by rw [h1.2]; simp)⟩
/-- What code runs to, from an abstract state. -/
theorem unitC_sound {β : Type} {A : Ans β} {C : Cx} {u : Un} {c : Code} (hu : UnOk C.P u c) {s : AS} {Q : Exit → AS → β} (h : A.den (unitC A.toOp3 u s Q)) : Runs A C c s Q := by
  intro W0 S N n0 E0 E a w H
  unfold unitC at h
  cases hz : (Nat.beq s.t.n u.n && (vals s.t (u.kins ++ u.ins)).all (fun c => !isAny c)) with
  | false => rw [hz] at h; exact (A.fail_den h).elim
  | true =>
  rw [hz] at h
  simp only [cond_true] at h
  simp only [Bool.and_eq_true] at hz
  obtain ⟨hz1, hz2⟩ := hz
  have hz1 := Nat.eq_of_beq_eq_true hz1
  have hvv : vals s.t (u.kins ++ u.ins) = vals s.t u.kins ++ vals s.t u.ins := List.map_append
  rw [hvv, List.all_append, Bool.and_eq_true] at hz2
  obtain ⟨a0, ha0, h⟩ := onT_den h
  obtain ⟨a1, ha1, h⟩ := onT_den h
  cases hck : unChk u (look s.h) (ptrs u.i (vals s.t u.ins)) a1.2.1 (a1.2.2 ++ a0.2.2) with
  | false => rw [hck] at h; exact (A.fail_den h).elim
  | true =>
  rw [hck] at h
  simp only [cond_true, fNs_eq] at h
  unfold unChk at hck
  simp only [Bool.and_eq_true, Bool.or_eq_true] at hck
  obtain ⟨⟨⟨b1, b2⟩, b3⟩, b4⟩ := hck
  have b1 := nodupB_ok b1
  have b2 := nodupB_ok b2
  have b3 := disjB_ok b3
  cases hr : u.F a0.1 a1.1 with
  | none => rw [hr] at h; exact (A.fail_den (A.none_den h)).elim
  | some r =>
  rw [hr] at h
  have h := A.some_den h
  obtain ⟨x, hx, h⟩ := onT_den h
  rw [T.get_map, Option.some.injEq] at hx
  rw [fHs_eq, fSetP_eq] at h
  obtain ⟨FF, RR, G⟩ := H.gam
  have hk := vals_concs H.sl u.kins hz2.1
  have hi := vals_concs H.sl u.ins hz2.2
  obtain ⟨Fk, Rk, qk⟩ := (gat_ok G.toGc true u.k).1 _ _ a0 hk ha0
  have hFk : Fk = [] := hold_true_nil _ _ _ _ _ qk.data
  subst hFk
  obtain ⟨Ps, F, R, ⟨ns, hptr, hns⟩, q⟩ := gatA_ok G.toGc u.i _ _ a1 hi ha1
  rw [hptr, ptrNs_map] at b2 h
  have hnd := q.nodup b1
  have hap1 := got_apart' G q.inF q.inR (ms' := a1.2.2 ++ a0.2.2) (fun m hm => by simp [hm]) b3
  have hap2 := got_apart' G q.inF qk.inR (ms' := a1.2.2 ++ a0.2.2) (fun m hm => by simp [hm]) b3
  have hap : ∀ k ∈ F, k ∉ R ++ Rk := by
    intro k hk hk'
    rcases List.mem_append.1 hk' with h | h
    · exact hap1 k hk h
    · exact hap2 k hk h
  refine Code.wp_mono ?_ (hu a w a0.1 a1.1 Rk Ps F R r (G.globF q.inF) H.sl.defers (by rw [H.sl.size, ← H.len]; exact hz1) qk.data q.data hnd hap hr)
  rintro e a' w' ⟨n, xk, m, zs, F1, R1, ps, F2, R2, e1, rfl, e3, e4, e5, e6, e7, e8, e9, e10, e11, e12⟩
  have hro : ∀ k ∈ R1 ++ R2, (∃ m b, look s.h m = some b ∧ k ∈ RR m) ∨ tabM w k := by
    intro k hk
    rcases b4 with ⟨f1, f2⟩ | hall
    · rw [hold_roFree _ _ _ _ _ e7 f1, hold_roFree _ _ _ _ _ (holdA_hold _ _ _ _ _ _ e8) f2] at hk
      simp at hk
    · rcases e11 k hk with h | h
      case inr => exact .inr h
      left
      rcases List.mem_append.1 h with h | h
      · exact ro_names (w' := w') G q.inR (ms' := a1.2.2 ++ a0.2.2) (fun m hm => by simp [hm]) hall k h
      · exact ro_names (w' := w') G qk.inR (ms' := a1.2.2 ++ a0.2.2) (fun m hm => by simp [hm]) hall k h
  have hxge := scat_ge (lx := false) u.o r.1 s.nx
  let ef : Eff := { val := .v undef, upd := relay (posts u.i) r.2 ns ++ spent a1.2.1, news := (scat false u.o r.1 s.nx).get.2.1, nn := (scat false u.o r.1 s.nx).get.2.2 - s.nx }
  obtain ⟨E', g1, g2, g3, g4⟩ := call_post (fr := s.nx) (e := ef) G q.inF hns b2 e7 e8 e9 e10 hro e12 rfl rfl rfl (fun n hn _ => H.fresh n hn)
  rw [hx] at g1 hxge
  have hnn : s.nx + ef.nn = x.2.2 := by show s.nx + ((scat false u.o r.1 s.nx).get.2.2 - s.nx) = x.2.2; rw [hx]; omega
  rw [hnn] at g3
  obtain ⟨ds, d1, d2⟩ := ways_den h e1 g1
  rw [fSetP_eq] at d2
  refine ⟨_, E', d2, H.anc.step g2 (fun n k1 k2 => by have := (g3 n k1 k2).1; have := H.nx; omega), ?_, ⟨e3, by rw [e4, ← hz1]; exact H.len, H.sl.glob.mono g2, ?_, ?_⟩, ?_, ?_, Nat.le_trans H.nx hxge⟩
  · show Gam W0 S E' (look (putH ((relay (posts u.i) r.2 ns ++ spent a1.2.1) ++ x.2.1) s.h)) w'
    have : look (putH ((relay (posts u.i) r.2 ns ++ spent a1.2.1) ++ x.2.1) s.h) = after (look s.h) ef := by
      rw [look_putH, ← hx]
      funext n
      rw [look_append]
      rfl
    rw [this]
    exact g4
  · intro j hj
    have get := setP_get (pick2 m u.outs ds) (setP (anyT s.t.n s.t.small) (stayL s.t u.stay)) j
    have get2 := setP_get (stayL s.t u.stay) (anyT s.t.n s.t.small) j
    show conc E' (strip ((setP (setP (anyT s.t.n s.t.small) (stayL s.t u.stay)) (pick2 m u.outs ds)).get j)) = _
    have hj : isAny (strip ((setP (setP (anyT s.t.n s.t.small) (stayL s.t u.stay)) (pick2 m u.outs ds)).get j)) = false := hj
    rcases get with get | ⟨_, get⟩
    · rw [get] at hj ⊢
      rcases get2 with get2 | ⟨_, get2⟩
      · rw [get2, anyT_get] at hj ⊢
        by_cases hlt : j < s.t.n
        · rw [if_pos hlt] at hj; simp [strip, isAny] at hj
        · rw [if_neg hlt]
          simp only [strip, conc]
          rw [Array.getD_eq_getD_getElem?, Array.getElem?_eq_none (by rw [e4, ← hz1]; omega)]
          rfl
      · obtain ⟨j', hj', hjj⟩ := List.mem_map.1 get2
        simp only [Prod.mk.injEq] at hjj
        obtain ⟨rfl, hjj⟩ := hjj
        rw [← hjj] at hj ⊢
        have := H.sl.slot j' hj
        rw [show a'.tmps.getD j' undef = a.tmps.getD j' undef from e5 j' hj']
        exact conc_mono g2 _ _ this
    · obtain ⟨q', m1, m2, m3⟩ := pick2_mem _ _ _ _ _ get
      have hz := e6 q' j m1 m2
      obtain ⟨V, v1, v2⟩ := concs_get d1 m3
      rw [hz] at v1
      cases v1
      rw [strip_of v2]
      exact v2
  · intro j nn v hj
    have hj : (setP (setP (anyT s.t.n s.t.small) (stayL s.t u.stay)) (pick2 m u.outs ds)).get j = .nm nn v := hj
    rcases setP_get (pick2 m u.outs ds) (setP (anyT s.t.n s.t.small) (stayL s.t u.stay)) j with get | ⟨_, get⟩
    · rw [get] at hj
      rcases setP_get (stayL s.t u.stay) (anyT s.t.n s.t.small) j with get2 | ⟨_, get2⟩
      · rw [get2, anyT_get] at hj
        split at hj <;> cases hj
      · obtain ⟨j', hj', hjj⟩ := List.mem_map.1 get2
        simp only [Prod.mk.injEq] at hjj
        obtain ⟨rfl, hjj⟩ := hjj
        rw [← hjj] at hj
        obtain ⟨p, p1, p2⟩ := H.sl.named j' nn v hj
        exact ⟨p, g2 nn p p1, by rw [p2]; exact (e5 j' hj').symm⟩
    · rw [hj] at get
      obtain ⟨q', m1, m2, m3⟩ := pick2_mem _ _ _ _ _ get
      obtain ⟨V, v1, v2⟩ := concs_get d1 m3
      exact (nm_none v2 nn v rfl).elim
  · intro n hn
    have hn : x.2.2 ≤ n := hn
    cases hE : E' n with
    | none => rfl
    | some q' =>
      have := g3 n (H.fresh n (by omega)) (by rw [hE]; simp)
      omega
  · show (setP (setP (anyT s.t.n s.t.small) (stayL s.t u.stay)) (pick2 m u.outs ds)).n = N
    rw [setP_n, setP_n]
    exact H.len
end Go.Proofs.YtpfbpcaehmhefaaDoorB.Sx
