/- The engine, part A: a region's operations in the text's order, and, where their footprints lie apart, in every order that the model may draw. -/
import Derived.Test.YtpfbpcaehmhefaaDoorBZ9
namespace Go.Proofs.YtpfbpcaehmhefaaDoorB.Sx
open Go.RowKit
set_option linter.unusedSimpArgs false
set_option linter.unusedVariables false

def aval (gl : Nat → Option Nat) (sl : Nat → AV) : Operand → AV
  | .tmp i => strip (sl i)
  | .const x => .v x
  | .global g => match gl g with | some n => .ptr n 0 0 | none => .v (.pointer (some ⟨g, 0, none⟩))
  | .func f => .v (.func (.func f) #[] #[])
/-- The temporaries stand for what they hold. -/
structure Sl (gl : Nat → Option Nat) (E : Env) (sl : Nat → AV) (N : Nat) (a : Act) : Prop where
  defers : a.defers = []
  size : a.tmps.size = N
  glob : GlOk gl E
  slot : ∀ i, isAny (strip (sl i)) = false → conc E (strip (sl i)) = some (a.tmps.getD i undef)
  named : ∀ i n v, sl i = .nm n v → ∃ p, E n = some p ∧ p.val = a.tmps.getD i undef
theorem strip_of {E : Env} {v : AV} {V : Value} (h : conc E v = some V) : strip v = v := by
  cases v <;> first | rfl | simp [conc] at h
theorem nm_none {E : Env} {v : AV} {V : Value} (h : conc E v = some V) (n : Nat) (u : AV) : v ≠ .nm n u := by
  intro e
  subst e
  simp [conc] at h
theorem Sl.eval {gl : Nat → Option Nat} {E : Env} {sl : Nat → AV} {N : Nat} {a : Act} (h : Sl gl E sl N a) (x : Operand) (hx : isAny (aval gl sl x) = false) : conc E (aval gl sl x) = some (a.eval x) := by
  cases x with
  | tmp i => exact h.slot i hx
  | const v => rfl
  | global g =>
    cases hg : gl g with
    | none => simp only [aval, hg]; rfl
    | some n =>
      obtain ⟨p, h1, h2⟩ := h.glob g n hg
      simp only [aval, hg, conc, h1, Option.map_some, h2]
      rfl
  | func f => rfl
theorem Sl.mono {gl : Nat → Option Nat} {E E' : Env} {sl : Nat → AV} {N : Nat} {a : Act} (h : Sl gl E sl N a) (hE : E.le E') : Sl gl E' sl N a := ⟨h.defers, h.size, h.glob.mono hE, fun i hi => conc_mono hE _ _ (h.slot i hi), fun i n v e => by obtain ⟨p, h1, h2⟩ := h.named i n v e; exact ⟨p, hE n p h1, h2⟩⟩

/-- What one operation of a region has done. -/
structure Rec where
  dst : Option Nat
  v : AV
  rn : List Nat
  put : Hp
  lo : Nat
  nn : Nat
def Rec.sl (N : Nat) (r : Rec) (sl : Nat → AV) (i : Nat) : AV := if r.dst = some i ∧ i < N then r.v else sl i
def Rec.hp (r : Rec) (hp : Nat → Option AB) (n : Nat) : Option AB :=
  match lookO r.put n with
  | some x => x
  | none => hp n
theorem Sl.put {gl : Nat → Option Nat} {E : Env} {sl : Nat → AV} {N : Nat} {a : Act} {r : Rec} {V : Value} (h : Sl gl E sl N a) (hv : conc E r.v = some V) : Sl gl E (r.sl N sl) N (a.put r.dst V) := by
  have away : ∀ i d, r.dst = some d → ¬ (d = i ∧ i < N) → (a.put r.dst V).tmps.getD i undef = a.tmps.getD i undef := by
    intro i d hd hi
    rw [hd]
    by_cases hdi : d = i
    · subst hdi
      have hge : ¬ d < a.tmps.size := by rw [h.size]; intro h2; exact hi ⟨rfl, h2⟩
      simp [Act.put, Array.getD, hge]
    · simp [Act.put, Array.getD_eq_getD_getElem?, Array.getElem?_setIfInBounds_ne hdi]
  refine ⟨?_, ?_, h.glob, ?_, ?_⟩
  · cases hd : r.dst <;> simp [Act.put, h.defers]
  · cases hd : r.dst <;> simp [Act.put, h.size]
  · intro i
    unfold Rec.sl
    cases hd : r.dst with
    | none => intro hk; simpa [Act.put] using h.slot i (by simpa using hk)
    | some d =>
      by_cases hi : d = i ∧ i < N
      · obtain ⟨rfl, hi⟩ := hi
        rw [if_pos ⟨rfl, hi⟩, strip_of hv, hv]
        intro _
        have hlt : d < a.tmps.size := by rw [h.size]; exact hi
        simp [Act.put, Array.getD, hlt]
      · have hne : ¬ (some d = some i ∧ i < N) := fun ⟨h1, h2⟩ => hi ⟨Option.some.inj h1, h2⟩
        rw [if_neg hne]
        intro hk
        rw [h.slot i hk, ← hd, away i d hd hi]
  · intro i n v
    unfold Rec.sl
    cases hd : r.dst with
    | none => intro hk; simpa [Act.put] using h.named i n v (by simpa using hk)
    | some d =>
      by_cases hi : d = i ∧ i < N
      · obtain ⟨rfl, hi⟩ := hi
        rw [if_pos ⟨rfl, hi⟩]
        intro e
        exact (nm_none hv n v e).elim
      · have hne : ¬ (some d = some i ∧ i < N) := fun ⟨h1, h2⟩ => hi ⟨Option.some.inj h1, h2⟩
        rw [if_neg hne]
        intro hk
        rw [← hd, away i d hd hi]
        exact h.named i n v hk

/-- Is an operation carried out? -/
def guardOf (ops : List Oper) (sl : Nat → AV) (o : Oper) : Option Bool :=
  match o.guard with
  | none => some true
  | some (g, want) =>
    match (ops[g]?).bind (·.dst) with
    | some d => match sl d with
      | .v (.bool b) => some (b == want)
      | .v (.tuple _) => some false
      | _ => none
    | none => none
theorem guard_wanted {gl : Nat → Option Nat} {ops : Array Oper} {E : Env} {sl : Nat → AV} {N : Nat} {a : Act} {o : Oper} {b : Bool} (h : Sl gl E sl N a) (hg : guardOf ops.toList sl o = some b) : Region.wanted o (yielded ops a.tmps) = b := by
  unfold guardOf at hg
  unfold Region.wanted
  split at hg
  · rename_i he
    simp only [Option.some.injEq] at hg
    simp [he, hg]
  · rename_i g want he
    split at hg
    case h_2 => cases hg
    rename_i d hd
    have hd' : (ops[g]?).bind (·.dst) = some d := by simpa using hd
    split at hg
    · rename_i c hc
      simp only [Option.some.injEq] at hg
      have hs := h.slot d (by rw [hc]; rfl)
      rw [hc] at hs
      simp only [strip, conc, Option.some.injEq] at hs
      have hget : a.tmps[d]? = some (.bool c) := by
        rw [Array.getD_eq_getD_getElem?] at hs
        cases hx : a.tmps[d]? with
        | none => rw [hx] at hs; simp [undef] at hs
        | some x => rw [hx] at hs; simp at hs; rw [← hs]
      have hy : yielded ops a.tmps g = some c := by
        unfold yielded
        rw [hd']
        simp [hget]
      simp only [he, hy]
      rw [← hg]
      cases c <;> cases want <;> rfl
    · rename_i c hc
      simp only [Option.some.injEq] at hg
      have hs := h.slot d (by rw [hc]; rfl)
      rw [hc] at hs
      simp only [strip, conc, Option.some.injEq] at hs
      have hy : yielded ops a.tmps g = none := by
        unfold yielded
        rw [hd']
        rw [Array.getD_eq_getD_getElem?] at hs
        cases hx : a.tmps[d]? with
        | none => simp [hx]
        | some x => rw [hx] at hs; simp only [Option.getD_some] at hs; subst hs; simp [hx]
      simp only [he, hy]
      rw [← hg]
      cases want <;> rfl
    · cases hg

def StepOk (C : Cx) (ops : List Oper) (o : Oper) (sl : Nat → AV) (hp : Nat → Option AB) (r : Rec) : Prop :=
  r.dst = o.dst ∧ ((guardOf ops sl o = some true ∧ ∃ e, (eff C o (aval C.gl sl) hp r.lo).get = some e ∧ r.v = e.val ∧ r.rn = e.reads ∧ r.put = e.put ∧ r.nn = e.nn) ∨
    (guardOf ops sl o = some false ∧ r.v = .v undef ∧ r.rn = [] ∧ r.put = [] ∧ r.nn = 0))

theorem step_ok {C : Cx} (hK : KOk C) {ops : Array Oper} {i : Nat} {o : Oper} {sl : Nat → AV} {hp : Nat → Option AB} {r : Rec} {N : Nat} {W0 : World} {S : Reg} {E : Env} {a : Act} {w : World} {K : Act → World → Prop} {Q : Exit → Act → World → Prop}
    (ho : ops[i]? = some o) (hs : StepOk C ops.toList o sl hp r) (G : Gam W0 S E hp w) (Hs : Sl C.gl E sl N a) (hfr : ∀ n, r.lo ≤ n → n < r.lo + r.nn → E n = none)
    (hnext : ∀ a' w' E', E.le E' → (∀ n, E n = none → E' n ≠ none → r.lo ≤ n ∧ n < r.lo + r.nn) → Gam W0 S E' (r.hp hp) w' → Sl C.gl E' (r.sl N sl) N a' → K a' w') : wpOp C.P ops Q i K a w := by
  unfold wpOp
  simp only [ho]
  obtain ⟨hdst, ⟨hg, e, he, hv, hrn, hput, hnn⟩ | ⟨hg, hv, hrn, hput, hnn⟩⟩ := hs
  · rw [if_pos (guard_wanted Hs hg)]
    refine .inl (eff_ok hK (fun x _ hx => Hs.eval x hx) G Hs.glob (fun n h1 h2 => hfr n h1 (by rw [hnn]; exact h2)) he _ _ ?_)
    intro V w' E' hV hext hdom hgam
    rw [← hdst]
    refine hnext _ w' E' hext (fun n h1 h2 => by rw [hnn]; exact hdom n h1 h2) ?_ ((Hs.mono hext).put (by rw [hv]; exact hV))
    have := hgam
    have heq : after hp e = r.hp hp := by
      funext n
      unfold after Rec.hp
      rw [hput]
      cases lookO e.put n <;> rfl
    rwa [heq] at this
  · have hw := guard_wanted Hs hg
    rw [hw]
    simp only [Bool.false_eq_true, if_false]
    rw [← hdst]
    refine hnext _ w E E.le_refl (fun n h1 h2 => (h2 h1).elim) ?_ (Hs.put (by rw [hv]; rfl))
    have heq : r.hp hp = hp := by
      funext n
      unfold Rec.hp
      rw [hput]
      rfl
    rw [heq]
    exact G

/-- The temporaries that an operation looks at. -/
theorem step_same {C : Cx} (hK : KOk C) {ops : Array Oper} {o : Oper} {sl sl' : Nat → AV} {hp hp' : Nat → Option AB} {r : Rec} (hs : StepOk C ops.toList o sl hp r)
    (h1 : ∀ i ∈ o.looksAt ops, sl' i = sl i) (h2 : ∀ n ∈ r.rn, hp' n = hp n) : StepOk C ops.toList o sl' hp' r := by
  have hg : guardOf ops.toList sl' o = guardOf ops.toList sl o := by
    unfold guardOf
    cases he : o.guard with
    | none => rfl
    | some gw =>
      obtain ⟨g, want⟩ := gw
      simp only
      cases hd : (ops.toList[g]?).bind (·.dst) with
      | none => rfl
      | some d =>
        have hm : d ∈ o.looksAt ops := by
          unfold Oper.looksAt
          have hd' : (ops[g]?).bind (·.dst) = some d := by simpa using hd
          simp [he, hd']
        simp only [h1 d hm]
  have hval : ∀ x ∈ o.op.operands, aval C.gl sl' x = aval C.gl sl x := by
    intro x hx
    cases x with
    | tmp t => exact congrArg strip (h1 t (List.mem_append_left _ (List.mem_filterMap.2 ⟨.tmp t, by simpa using hx, rfl⟩)))
    | _ => rfl
  obtain ⟨hdst, ⟨hgt, e, he, hv, hrn, hput, hnn⟩ | ⟨hgf, hv, hrn, hput, hnn⟩⟩ := hs
  · refine ⟨hdst, .inl ⟨hg.trans hgt, e, ?_, hv, hrn, hput, hnn⟩⟩
    rw [eff_congr hval]
    exact eff_loc hK he (fun n hn => h2 n (by rw [hrn]; exact hn))
  · exact ⟨hdst, .inr ⟨hg.trans hgf, hv, hrn, hput, hnn⟩⟩

abbrev St := (Nat → AV) × (Nat → Option AB)
def Rec.app (N : Nat) (r : Rec) (st : St) : St := (r.sl N st.1, r.hp st.2)
/-- Those of the operations that D names, in the text's order. -/
def apD (N : Nat) (D : Nat → Bool) : List Rec → Nat → St → St
  | [], _, st => st
  | r :: rs, k, st => apD N D rs (k + 1) (if D k = true then r.app N st else st)

theorem apD_slot {N : Nat} {D D' : Nat → Bool} {i : Nat} : ∀ {rs : List Rec} {k : Nat} {st st' : St}, (∀ j r, rs[j]? = some r → D (k + j) ≠ D' (k + j) → r.dst ≠ some i) → st.1 i = st'.1 i → (apD N D rs k st).1 i = (apD N D' rs k st').1 i
  | [], k, st, st', _, h => h
  | r :: rs, k, st, st', hd, h => by
    simp only [apD]
    refine apD_slot (fun j s hs hne => hd (j + 1) s (by simpa using hs) (by rwa [show k + 1 + j = k + (j + 1) by omega] at hne)) ?_
    have h0 := hd 0 r rfl
    simp only [Nat.add_zero] at h0
    by_cases h1 : D k = true <;> by_cases h2 : D' k = true
    · rw [if_pos h1, if_pos h2]
      simp only [Rec.app, Rec.sl]
      split
      · rfl
      · exact h
    · rw [if_pos h1, if_neg h2]
      have := h0 (fun e => h2 (by rw [← e]; exact h1))
      simp only [Rec.app, Rec.sl]
      rw [if_neg (fun e => this e.1)]
      exact h
    · rw [if_neg h1, if_pos h2]
      have := h0 (fun e => h1 (by rw [e]; exact h2))
      simp only [Rec.app, Rec.sl]
      rw [if_neg (fun e => this e.1)]
      exact h
    · rw [if_neg h1, if_neg h2]
      exact h
theorem apD_name {N : Nat} {D D' : Nat → Bool} {n : Nat} : ∀ {rs : List Rec} {k : Nat} {st st' : St}, (∀ j r, rs[j]? = some r → D (k + j) ≠ D' (k + j) → hasName r.put n = false) → st.2 n = st'.2 n → (apD N D rs k st).2 n = (apD N D' rs k st').2 n
  | [], k, st, st', _, h => h
  | r :: rs, k, st, st', hd, h => by
    simp only [apD]
    refine apD_name (fun j s hs hne => hd (j + 1) s (by simpa using hs) (by rwa [show k + 1 + j = k + (j + 1) by omega] at hne)) ?_
    have h0 := hd 0 r rfl
    simp only [Nat.add_zero] at h0
    by_cases h1 : D k = true <;> by_cases h2 : D' k = true
    · rw [if_pos h1, if_pos h2]
      simp only [Rec.app, Rec.hp]
      split
      · rfl
      · exact h
    · rw [if_pos h1, if_neg h2]
      have := h0 (fun e => h2 (by rw [← e]; exact h1))
      simp only [Rec.app, Rec.hp, lookO_none.2 this]
      exact h
    · rw [if_neg h1, if_pos h2]
      have := h0 (fun e => h1 (by rw [e]; exact h2))
      simp only [Rec.app, Rec.hp, lookO_none.2 this]
      exact h
    · rw [if_neg h1, if_neg h2]
      exact h
/-- What the last writer wrote stands. -/
theorem apD_slot_at {N : Nat} {D : Nat → Bool} {i : Nat} : ∀ {rs : List Rec} {k j : Nat} {r : Rec} {st : St}, rs[j]? = some r → D (k + j) = true → r.dst = some i → i < N →
    (∀ j' r', j < j' → rs[j']? = some r' → D (k + j') = true → r'.dst ≠ some i) → (apD N D rs k st).1 i = r.v
  | [], k, j, r, st, h, _, _, _, _ => by simp at h
  | s :: rs, k, 0, r, st, h, hD, hd, hN, hl => by
    simp only [List.getElem?_cons_zero, Option.some.injEq] at h
    subst h
    simp only [apD, Nat.add_zero] at hD ⊢
    rw [if_pos hD]
    have h1 := apD_slot (N := N) (D := D) (D' := fun _ => false) (i := i) (rs := rs) (k := k + 1) (st := s.app N st) (st' := s.app N st)
      (fun j r' hr hne => hl (j + 1) r' (by omega) (by simpa using hr) (by
        rw [show k + (j + 1) = k + 1 + j by omega]
        cases hb : D (k + 1 + j) with
        | true => rfl
        | false => rw [hb] at hne; exact (hne rfl).elim)) rfl
    rw [h1]
    have : ∀ (rs : List Rec) (k : Nat) (st : St), apD N (fun _ => false) rs k st = st := by
      intro rs
      induction rs with
      | nil => intro k st; rfl
      | cons r rs ih => intro k st; simp [apD, ih]
    rw [this]
    simp [Rec.app, Rec.sl, hd, hN]
  | s :: rs, k, j + 1, r, st, h, hD, hd, hN, hl => by
    simp only [apD]
    refine apD_slot_at (by simpa using h) (by rwa [show k + 1 + j = k + (j + 1) by omega]) hd hN ?_
    intro j' r' hj hr hD'
    exact hl (j' + 1) r' (by omega) (by simpa using hr) (by rwa [show k + (j' + 1) = k + 1 + j' by omega])
theorem apD_false {N : Nat} : ∀ (rs : List Rec) (k : Nat) (st : St), apD N (fun _ => false) rs k st = st := by
  intro rs
  induction rs with
  | nil => intro k st; rfl
  | cons r rs ih => intro k st; simp [apD, ih]
theorem apD_name_at {N : Nat} {D : Nat → Bool} {n : Nat} : ∀ {rs : List Rec} {k j : Nat} {r : Rec} {st : St} {x : Option AB}, rs[j]? = some r → D (k + j) = true → lookO r.put n = some x →
    (∀ j' r', j < j' → rs[j']? = some r' → D (k + j') = true → hasName r'.put n = false) → (apD N D rs k st).2 n = x
  | [], k, j, r, st, x, h, _, _, _ => by simp at h
  | s :: rs, k, 0, r, st, x, h, hD, hd, hl => by
    simp only [List.getElem?_cons_zero, Option.some.injEq] at h
    subst h
    simp only [apD, Nat.add_zero] at hD ⊢
    rw [if_pos hD]
    have h1 := apD_name (N := N) (D := D) (D' := fun _ => false) (n := n) (rs := rs) (k := k + 1) (st := s.app N st) (st' := s.app N st)
      (fun j r' hr hne => hl (j + 1) r' (by omega) (by simpa using hr) (by
        rw [show k + (j + 1) = k + 1 + j by omega]
        cases hb : D (k + 1 + j) with
        | true => rfl
        | false => rw [hb] at hne; exact (hne rfl).elim)) rfl
    rw [h1, apD_false]
    simp [Rec.app, Rec.hp, hd]
  | s :: rs, k, j + 1, r, st, x, h, hD, hd, hl => by
    simp only [apD]
    refine apD_name_at (by simpa using h) (by rwa [show k + 1 + j = k + (j + 1) by omega]) hd ?_
    intro j' r' hj hr hD'
    exact hl (j' + 1) r' (by omega) (by simpa using hr) (by rwa [show k + (j' + 1) = k + 1 + j' by omega])

/-- The operations in the text's order. -/
def TRun (C : Cx) (ops : List Oper) (N : Nat) : List Oper → Nat → Nat → St → List Rec → Prop
  | [], _, _, _, rs => rs = []
  | o :: os, i, fr, st, rs => ∃ r rs', rs = r :: rs' ∧ r.lo = fr ∧ StepOk C ops o st.1 st.2 r ∧ TRun C ops N os (i + 1) (fr + r.nn) (r.app N st) rs'
/-- The first name behind operations. -/
def hiOf : List Rec → Nat → Nat
  | [], n => n
  | r :: rs, n => hiOf rs (n + r.nn)
theorem hiOf_ge : ∀ (rs : List Rec) (n : Nat), n ≤ hiOf rs n
  | [], n => Nat.le_refl _
  | r :: rs, n => Nat.le_trans (Nat.le_add_right _ _) (hiOf_ge rs (n + r.nn))
theorem TRun.length {C : Cx} {ops : List Oper} {N : Nat} : ∀ {os : List Oper} {i fr : Nat} {st : St} {rs : List Rec}, TRun C ops N os i fr st rs → rs.length = os.length
  | [], i, fr, st, rs, h => by simp only [TRun] at h; subst h; rfl
  | o :: os, i, fr, st, rs, h => by
    obtain ⟨r, rs', rfl, _, _, h2⟩ := h
    simp [TRun.length h2]
theorem apD_none {N : Nat} {D : Nat → Bool} : ∀ (rs : List Rec) (k : Nat) (st : St), (∀ m, k ≤ m → D m = false) → apD N D rs k st = st := by
  intro rs
  induction rs with
  | nil => intro k st _; rfl
  | cons r rs ih =>
    intro k st h
    simp only [apD]
    rw [h k (Nat.le_refl _)]
    simpa using ih (k + 1) st (fun m hm => h m (by omega))
theorem TRun.at {C : Cx} {ops : List Oper} {N : Nat} : ∀ {os : List Oper} {k fr : Nat} {st : St} {rs : List Rec}, TRun C ops N os k fr st rs → ∀ j o, os[j]? = some o →
    ∃ r, rs[j]? = some r ∧ StepOk C ops o (apD N (fun m => decide (m < k + j)) rs k st).1 (apD N (fun m => decide (m < k + j)) rs k st).2 r
  | [], k, fr, st, rs, h, j, o, ho => by simp at ho
  | o :: os, k, fr, st, rs, h, 0, o', ho => by
    obtain ⟨r, rs', rfl, _, h1, _⟩ := h
    simp only [List.getElem?_cons_zero, Option.some.injEq] at ho
    subst ho
    refine ⟨r, rfl, ?_⟩
    rw [apD_none _ _ _ (fun m hm => by simp; omega)]
    exact h1
  | o :: os, k, fr, st, rs, h, j + 1, o', ho => by
    obtain ⟨r, rs', rfl, _, _, h2⟩ := h
    obtain ⟨r', h3, h4⟩ := TRun.at h2 j o' (by simpa using ho)
    refine ⟨r', by simpa using h3, ?_⟩
    have : (apD N (fun m => decide (m < k + (j + 1))) (r :: rs') k st) = apD N (fun m => decide (m < k + 1 + j)) rs' (k + 1) (r.app N st) := by
      simp only [apD]
      rw [if_pos (by simp)]
      simp only [show k + (j + 1) = k + 1 + j by omega]
    rw [this]
    exact h4
/-- The names of operation j: behind those of the earlier ones, ahead of those of the later ones. -/
theorem TRun.names {C : Cx} {ops : List Oper} {N : Nat} : ∀ {os : List Oper} {k fr : Nat} {st : St} {rs : List Rec}, TRun C ops N os k fr st rs → ∀ (j : Nat) (r : Rec), rs[j]? = some r →
    fr ≤ r.lo ∧ r.lo + r.nn ≤ hiOf rs fr ∧ ∀ (j' : Nat) (r' : Rec), j < j' → rs[j']? = some r' → r.lo + r.nn ≤ r'.lo
  | [], k, fr, st, rs, h, j, r, hr => by simp only [TRun] at h; subst h; simp at hr
  | o :: os, k, fr, st, rs, h, 0, r, hr => by
    obtain ⟨r0, rs', rfl, hlo, _, h2⟩ := h
    simp only [List.getElem?_cons_zero, Option.some.injEq] at hr
    subst hr
    refine ⟨by omega, by rw [hlo]; exact hiOf_ge _ _, fun j' r' hj hr' => ?_⟩
    obtain ⟨m, rfl⟩ : ∃ m, j' = m + 1 := ⟨j' - 1, by omega⟩
    have := (TRun.names h2 m r' (by simpa using hr')).1
    omega
  | o :: os, k, fr, st, rs, h, j + 1, r, hr => by
    obtain ⟨r0, rs', rfl, hlo, _, h2⟩ := h
    obtain ⟨g1, g2, g3⟩ := TRun.names h2 j r (by simpa using hr)
    refine ⟨by omega, g2, fun j' r' hj hr' => ?_⟩
    obtain ⟨m, rfl⟩ : ∃ m, j' = m + 1 := ⟨j' - 1, by omega⟩
    exact g3 m r' (by omega) (by simpa using hr')
end Go.Proofs.YtpfbpcaehmhefaaDoorB.Sx
