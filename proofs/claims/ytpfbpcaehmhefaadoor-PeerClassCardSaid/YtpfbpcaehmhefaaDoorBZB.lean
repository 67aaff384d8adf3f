/- The engine, part B: a region that draws its order: where footprints lie apart, every order comes to what the text's order comes to. -/
import Derived.Test.YtpfbpcaehmhefaaDoorBZA
namespace Go.Proofs.YtpfbpcaehmhefaaDoorB.Sx
open Go.RowKit
set_option linter.unusedSimpArgs false
set_option linter.unusedVariables false

def maskStep (acc : List Nat) (s : Nat) (e : Edge) : Nat := bif Region.binds .any e then s ||| 2 ^ e.on ||| acc.getD e.on 0 else s
def maskOf (acc : List Nat) (o : Oper) : Nat := o.after.toList.foldl (maskStep acc) 0
/-- Of each operation the bits of those that stand ahead of it in every order. -/
def masks : List Nat → List Oper → List Nat
  | acc, [] => acc
  | acc, o :: os => masks (acc ++ [maskOf acc o]) os

theorem fold_bit {acc : List Nat} {i : Nat} : ∀ (es : List Edge) (s : Nat), (es.foldl (maskStep acc) s).testBit i = true → s.testBit i = true ∨ ∃ e ∈ es, Region.binds .any e = true ∧ (e.on = i ∨ (acc.getD e.on 0).testBit i = true)
  | [], s, h => .inl h
  | e :: es, s, h => by
    rcases fold_bit es _ h with h1 | ⟨e', h1, h2⟩
    · unfold maskStep at h1
      cases hb : Region.binds .any e with
      | false => rw [hb] at h1; exact .inl h1
      | true =>
        rw [hb] at h1
        simp only [cond_true, Nat.testBit_or, Bool.or_eq_true] at h1
        rcases h1 with (h1 | h1) | h1
        · exact .inl h1
        · exact .inr ⟨e, by simp, hb, .inl (by simpa [Nat.testBit_two_pow] using h1)⟩
        · exact .inr ⟨e, by simp, hb, .inr h1⟩
    · exact .inr ⟨e', by simp [h1], h2⟩

theorem masks_prefix : ∀ (os : List Oper) (acc : List Nat) (i : Nat), i < acc.length → (masks acc os)[i]? = acc[i]?
  | [], acc, i, _ => rfl
  | o :: os, acc, i, h => by
    simp only [masks]
    rw [masks_prefix os _ i (by simp; omega)]
    rw [List.getElem?_append_left h]
theorem masks_at : ∀ (os : List Oper) (acc : List Nat) (j : Nat) (o : Oper), os[j]? = some o → ∃ acc', (masks acc os)[acc.length + j]? = some (maskOf acc' o) ∧ acc'.length = acc.length + j ∧ ∀ i, i < acc'.length → (masks acc os)[i]? = acc'[i]?
  | [], acc, j, o, h => by simp at h
  | p :: os, acc, 0, o, h => by
    simp only [List.getElem?_cons_zero, Option.some.injEq] at h
    subst h
    refine ⟨acc, ?_, rfl, fun i hi => ?_⟩
    · simp only [masks, Nat.add_zero]
      rw [masks_prefix _ _ _ (by simp)]
      simp
    · exact masks_prefix (p :: os) acc i hi
  | p :: os, acc, j + 1, o, h => by
    obtain ⟨acc', h1, h2, h3⟩ := masks_at os (acc ++ [maskOf acc p]) j o (by simpa using h)
    refine ⟨acc', ?_, by rw [h2]; simp; omega, h3⟩
    simp only [masks]
    rw [← h1]
    congr 1
    simp
    omega

/-- A set of operations that lies ahead-closed. -/
def Closed (ops : Array Oper) (D : Nat → Bool) : Prop := ∀ j o, ops[j]? = some o → D j = true → ∀ e ∈ o.after, Region.binds .any e = true → D e.on = true

theorem mask_in {ops : Array Oper} {D : Nat → Bool} (hD : Closed ops D) : ∀ (n j : Nat), j < n → ∀ o, ops[j]? = some o → (∀ e ∈ o.after, Region.binds .any e = true → D e.on = true) →
    ∀ i, ((masks [] ops.toList).getD j 0).testBit i = true → D i = true
  | 0, j, h, _, _, _, _, _ => by omega
  | n + 1, j, h, o, ho, he, i, hb => by
    obtain ⟨acc, h1, h2, h3⟩ := masks_at ops.toList [] j o (by simpa using ho)
    simp only [List.length_nil, Nat.zero_add] at h1 h2
    rw [List.getD_eq_getElem?_getD, h1] at hb
    simp only [Option.getD_some, maskOf] at hb
    rcases fold_bit _ _ hb with hz | ⟨e, hm, hbind, hi⟩
    · simp at hz
    · have hin := he e (by simpa using hm) hbind
      rcases hi with hi | hi
      · rw [← hi]; exact hin
      · by_cases hlt : e.on < acc.length
        · have hlt' : e.on < j := by omega
          have hsz : j < ops.size := (Array.getElem?_eq_some_iff.1 ho).1
          have hex : ops[e.on]? = some (ops[e.on]'(by omega)) := by simp
          refine mask_in hD n e.on (by omega) _ hex (hD _ _ hex hin) i ?_
          rw [List.getD_eq_getElem?_getD, h3 _ hlt, ← List.getD_eq_getElem?_getD]
          exact hi
        · rw [List.getD_eq_getElem?_getD, List.getElem?_eq_none (by omega)] at hi
          simp at hi

def disj (a b : List Nat) : Bool := a.all fun x => !b.contains x
def namesOf : Hp → List Nat
  | [] => []
  | (n, _) :: r => n :: namesOf r
theorem mem_namesOf {h : Hp} {n : Nat} : n ∈ namesOf h ↔ hasName h n = true := by
  induction h with
  | nil => simp [namesOf, hasName]
  | cons x h ih =>
    obtain ⟨m, b⟩ := x
    simp only [namesOf, List.mem_cons, hasName, Bool.or_eq_true, ih]
    constructor
    · rintro (rfl | h)
      · exact .inl (by simp)
      · exact .inr h
    · rintro (h | h)
      · exact .inl (Nat.eq_of_beq_eq_true h).symm
      · exact .inr h
/-- The footprints of two operations lie apart. -/
def indep (lx : List Nat) (x : Rec) (ly : List Nat) (y : Rec) : Bool :=
  (match x.dst with | some d => !ly.contains d && !(y.dst == some d) | none => true) &&
  (match y.dst with | some d => !lx.contains d | none => true) &&
  disj (namesOf x.put) y.rn && disj (namesOf y.put) x.rn && disj (namesOf x.put) (namesOf y.put)
theorem disj_spec {a b : List Nat} (h : disj a b = true) : ∀ n, n ∈ a → n ∉ b := by
  intro n hn hb
  have := List.all_eq_true.1 h n hn
  simp [hb] at this

structure Apart (lx : List Nat) (x : Rec) (ly : List Nat) (y : Rec) : Prop where
  s1 : ∀ d, x.dst = some d → d ∉ ly
  s2 : ∀ d, x.dst = some d → y.dst ≠ some d
  s3 : ∀ d, y.dst = some d → d ∉ lx
  n1 : ∀ n, hasName x.put n = true → n ∉ y.rn
  n2 : ∀ n, hasName y.put n = true → n ∉ x.rn
  n3 : ∀ n, hasName x.put n = true → hasName y.put n = false
theorem indep_spec {lx ly : List Nat} {x y : Rec} (h : indep lx x ly y = true) : Apart lx x ly y := by
  simp only [indep, Bool.and_eq_true] at h
  obtain ⟨⟨⟨⟨h1, h2⟩, h3⟩, h4⟩, h5⟩ := h
  refine ⟨fun d hd => ?_, fun d hd => ?_, fun d hd => ?_, fun n hn => disj_spec h3 n (mem_namesOf.2 hn), fun n hn => disj_spec h4 n (mem_namesOf.2 hn), fun n hn => ?_⟩
  · rw [hd] at h1; simp at h1; exact h1.1
  · rw [hd] at h1; simp at h1; exact h1.2
  · rw [hd] at h2; simp at h2; exact h2
  · have := disj_spec h5 n (mem_namesOf.2 hn)
    cases hb : hasName y.put n with
    | false => rfl
    | true => exact (this (mem_namesOf.2 hb)).elim
theorem Apart.symm {lx ly : List Nat} {x y : Rec} (h : Apart lx x ly y) : Apart ly y lx x :=
  ⟨h.s3, fun d hd he => h.s2 d he hd, h.s1, h.n2, h.n1, fun n hn => by
    cases hb : hasName x.put n with
    | false => rfl
    | true => have := h.n3 n hb; rw [hn] at this; cases this⟩

/-- One operation against those behind it. -/
def apartFrom (ops : Array Oper) (bf : List Nat) (i : Nat) (lx : List Nat) (x : Rec) : List Rec → Nat → Bool
  | [], _ => true
  | y :: ys, j => ((bf.getD j 0).testBit i || indep lx x (((ops[j]?).map (·.looksAt ops)).getD []) y) && apartFrom ops bf i lx x ys (j + 1)
def apartAll (ops : Array Oper) (bf : List Nat) : List Rec → Nat → Bool
  | [], _ => true
  | x :: xs, i => apartFrom ops bf i (((ops[i]?).map (·.looksAt ops)).getD []) x xs (i + 1) && apartAll ops bf xs (i + 1)
theorem apartFrom_spec {ops : Array Oper} {bf : List Nat} {i : Nat} {lx : List Nat} {x : Rec} : ∀ {ys : List Rec} {k : Nat}, apartFrom ops bf i lx x ys k = true → ∀ j y o, ys[j]? = some y → ops[k + j]? = some o → (bf.getD (k + j) 0).testBit i = false → Apart lx x (o.looksAt ops) y
  | [], k, _, j, y, o, hy, _, _ => by simp at hy
  | z :: ys, k, h, 0, y, o, hy, ho, hb => by
    simp only [List.getElem?_cons_zero, Option.some.injEq] at hy
    subst hy
    simp only [apartFrom, Bool.and_eq_true, Bool.or_eq_true, Nat.add_zero] at h hb ho
    rcases h.1 with h1 | h1
    · rw [hb] at h1; cases h1
    · rw [ho] at h1; exact indep_spec h1
  | z :: ys, k, h, j + 1, y, o, hy, ho, hb => by
    simp only [apartFrom, Bool.and_eq_true] at h
    exact apartFrom_spec h.2 j y o (by simpa using hy) (by rwa [show k + 1 + j = k + (j + 1) by omega]) (by rwa [show k + 1 + j = k + (j + 1) by omega])
theorem apartAll_spec {ops : Array Oper} {bf : List Nat} : ∀ {xs : List Rec} {k : Nat}, apartAll ops bf xs k = true → ∀ i j x y o p, i < j → xs[i]? = some x → xs[j]? = some y → ops[k + i]? = some o → ops[k + j]? = some p → (bf.getD (k + j) 0).testBit (k + i) = false →
    Apart (o.looksAt ops) x (p.looksAt ops) y
  | [], k, _, i, j, x, y, o, p, _, hx, _, _, _, _ => by simp at hx
  | z :: xs, k, h, 0, j, x, y, o, p, hij, hx, hy, ho, hp, hb => by
    simp only [List.getElem?_cons_zero, Option.some.injEq] at hx
    subst hx
    simp only [apartAll, Bool.and_eq_true, Nat.add_zero] at h ho hb
    obtain ⟨j, rfl⟩ : ∃ m, j = m + 1 := ⟨j - 1, by omega⟩
    have h1 := h.1
    rw [ho] at h1
    exact apartFrom_spec h1 j y p (by simpa using hy) (by rwa [show k + 1 + j = k + (j + 1) by omega]) (by rwa [show k + 1 + j = k + (j + 1) by omega])
  | z :: xs, k, h, i + 1, j, x, y, o, p, hij, hx, hy, ho, hp, hb => by
    simp only [apartAll, Bool.and_eq_true] at h
    obtain ⟨j, rfl⟩ : ∃ m, j = m + 1 := ⟨j - 1, by omega⟩
    exact apartAll_spec h.2 i j x y o p (by omega) (by simpa using hx) (by simpa using hy) (by rwa [show k + 1 + i = k + (i + 1) by omega]) (by rwa [show k + 1 + j = k + (j + 1) by omega])
      (by rwa [show k + 1 + j = k + (j + 1) by omega, show k + 1 + i = k + (i + 1) by omega])

/-- Edges lead back. -/
def edgesBack (ops : List Oper) : Nat → Bool
  | k => match ops with
    | [] => true
    | o :: os => o.after.toList.all (fun e => !Region.binds .any e || Nat.blt e.on k) && edgesBack os (k + 1)
theorem edgesBack_spec : ∀ {ops : List Oper} {k : Nat}, edgesBack ops k = true → ∀ j o, ops[j]? = some o → ∀ e ∈ o.after, Region.binds .any e = true → e.on < k + j
  | [], k, _, j, o, ho, _, _, _ => by simp at ho
  | p :: ops, k, h, 0, o, ho, e, he, hb => by
    simp only [List.getElem?_cons_zero, Option.some.injEq] at ho
    subst ho
    simp only [edgesBack, Bool.and_eq_true] at h
    have := List.all_eq_true.1 h.1 e (by simpa using he)
    rw [hb] at this
    simpa using this
  | p :: ops, k, h, j + 1, o, ho, e, he, hb => by
    simp only [edgesBack, Bool.and_eq_true] at h
    have := edgesBack_spec h.2 j o (by simpa using ho) e he hb
    omega

/-- What has come of an anchor: it stands, and below n0 nothing else has come. -/
structure Anc (n0 : Nat) (E0 E : Env) : Prop where
  le : E0.le E
  low : ∀ n, n < n0 → E0 n = none → E n = none
theorem Anc.refl (n0 : Nat) (E : Env) : Anc n0 E E := ⟨E.le_refl, fun _ _ h => h⟩
theorem Anc.step {n0 : Nat} {E0 E E' : Env} (h : Anc n0 E0 E) (hE : E.le E') (hd : ∀ n, E n = none → E' n ≠ none → n0 ≤ n) : Anc n0 E0 E' := by
  refine ⟨Env.le_trans h.le hE, fun n hn h0 => ?_⟩
  have h1 := h.low n hn h0
  cases h2 : E' n with
  | none => rfl
  | some p => have := hd n h1 (by rw [h2]; simp); omega

def listedFn (l : Array Bool) (i : Nat) : Bool := l.getD i false

theorem any_order {C : Cx} (hK : KOk C) {ops : Array Oper} {N fr : Nat} {st0 : St} {recs : List Rec} {Q : Exit → Act → World → Prop} {W0 : World} {S : Reg} {n0 : Nat} {E0 : Env} (hn0 : n0 ≤ fr)
    (hrun : TRun C ops.toList N ops.toList 0 fr st0 recs) (hap : apartAll ops (masks [] ops.toList) recs 0 = true) (hback : edgesBack ops.toList 0 = true)
    (hQ : ∀ a w E, Gam W0 S E (apD N (fun _ => true) recs 0 st0).2 w → Sl C.gl E (apD N (fun _ => true) recs 0 st0).1 N a → (∀ n, hiOf recs fr ≤ n → E n = none) → Anc n0 E0 E → Q .normal a w) :
    ∀ (fuel : Nat) (listed : Array Bool) (a : Act) (w : World) (E : Env), listed.size = ops.size → (listed.toList.countP (fun b => !b)) = fuel → Closed ops (listedFn listed) →
      Gam W0 S E (apD N (listedFn listed) recs 0 st0).2 w → Sl C.gl E (apD N (listedFn listed) recs 0 st0).1 N a →
      (∀ i r, recs[i]? = some r → listedFn listed i = false → ∀ n, r.lo ≤ n → n < r.lo + r.nn → E n = none) → (∀ n, hiOf recs fr ≤ n → E n = none) → Anc n0 E0 E →
      wpAny C.P .any ops Q fuel listed a w := by
  have hlen : recs.length = ops.size := by simpa using hrun.length
  -- an operation that is ready: those ahead of it are listed
  have ready_spec : ∀ (listed : Array Bool) i, listed.size = ops.size → i ∈ Region.ready .any ops listed → ∃ o, ops[i]? = some o ∧ listedFn listed i = false ∧ ∀ e ∈ o.after, Region.binds .any e = true → listedFn listed e.on = true := by
    intro listed i hsz hi
    obtain ⟨h1, o, ho, h2⟩ := mem_ready.1 hi
    refine ⟨o, ho, ?_, fun e he hb => h2 e he hb⟩
    have hlt : i < listed.size := by rw [hsz]; exact (Array.getElem?_eq_some_iff.1 ho).1
    unfold listedFn
    simp [Array.getD, hlt] at h1 ⊢
    exact h1
  -- none ready: all are listed
  have none_ready : ∀ (listed : Array Bool), listed.size = ops.size → Region.ready .any ops listed = [] → ∀ i, i < ops.size → listedFn listed i = true := by
    intro listed hsz hr i
    induction i using Nat.strongRecOn with
    | _ i ih =>
      intro hi
      cases hb : listedFn listed i with
      | true => rfl
      | false =>
        exfalso
        have hex : ops[i]? = some (ops[i]) := by simp [hi]
        have : i ∈ Region.ready .any ops listed := by
          refine mem_ready.2 ⟨?_, _, hex, fun e he hbind => ?_⟩
          · have hlt : i < listed.size := by omega
            unfold listedFn at hb
            simp [Array.getD, hlt] at hb ⊢
            exact hb
          · have hlt := edgesBack_spec hback i (ops[i]) (by simp [hi]) e he hbind
            exact ih e.on (by omega) (by omega)
        rw [hr] at this
        cases this
  have done : ∀ (listed : Array Bool) a w E, listed.size = ops.size → (∀ i, i < ops.size → listedFn listed i = true) → Gam W0 S E (apD N (listedFn listed) recs 0 st0).2 w → Sl C.gl E (apD N (listedFn listed) recs 0 st0).1 N a → (∀ n, hiOf recs fr ≤ n → E n = none) → Anc n0 E0 E → Q .normal a w := by
    intro listed a w E hsz hall G Hs hB hanc
    have e1 : (apD N (listedFn listed) recs 0 st0).1 = (apD N (fun _ => true) recs 0 st0).1 := by
      funext i
      refine apD_slot (fun j r hr hne => ?_) rfl
      have hj := (List.getElem?_eq_some_iff.1 hr).1
      exact (hne (by rw [Nat.zero_add]; exact hall j (by omega))).elim
    have e2 : (apD N (listedFn listed) recs 0 st0).2 = (apD N (fun _ => true) recs 0 st0).2 := by
      funext n
      refine apD_name (fun j r hr hne => ?_) rfl
      have hj := (List.getElem?_eq_some_iff.1 hr).1
      exact (hne (by rw [Nat.zero_add]; exact hall j (by omega))).elim
    rw [e1] at Hs
    rw [e2] at G
    exact hQ a w E G Hs hB hanc
  intro fuel
  induction fuel with
  | zero =>
    intro listed a w E hsz hcount hcl G Hs hfr hB hanc
    have hall : ∀ i, i < ops.size → listedFn listed i = true := by
      intro i hi
      have h0 := List.countP_eq_zero.1 hcount
      have hlt : i < listed.size := by omega
      have := h0 listed[i] (by simp)
      unfold listedFn
      simp [Array.getD, hlt]
      simpa using this
    refine ⟨?_, done listed a w E hsz hall G Hs hB hanc⟩
    cases hr : Region.ready .any ops listed with
    | nil => rfl
    | cons i l =>
      obtain ⟨o, ho, h1, _⟩ := ready_spec listed i hsz (by rw [hr]; simp)
      rw [hall i (Array.getElem?_eq_some_iff.1 ho).1] at h1
      cases h1
  | succ fuel ih =>
    intro listed a w E hsz hcount hcl G Hs hfr hB hanc
    refine ⟨fun hr => done listed a w E hsz (none_ready listed hsz hr) G Hs hB hanc, fun i hi => ?_⟩
    obtain ⟨o, ho, hun, hpre⟩ := ready_spec listed i hsz hi
    have hilt : i < ops.size := (Array.getElem?_eq_some_iff.1 ho).1
    obtain ⟨r, hr, hstep⟩ := hrun.at i o (by simpa using ho)
    simp only [Nat.zero_add] at hstep
    -- whoever parts the two sets lies apart from operation i
    have apart_ : ∀ (j : Nat) s p, recs[j]? = some s → ops[j]? = some p → listedFn listed j ≠ decide (j < i) → j ≠ i → Apart (o.looksAt ops) r (p.looksAt ops) s := by
      intro j s p hs hp hne hji
      rcases Nat.lt_or_ge j i with hlt | hge
      · have hf : listedFn listed j = false := by
          cases hb : listedFn listed j with
          | false => rfl
          | true => rw [hb] at hne; simp [hlt] at hne
        refine (apartAll_spec hap j i s r p o hlt hs hr (by simpa using hp) (by simpa using ho) ?_).symm
        cases hb : ((masks [] ops.toList).getD (0 + i) 0).testBit (0 + j) with
        | false => rfl
        | true =>
          have := mask_in hcl (i + 1) i (by omega) o ho hpre j (by simpa using hb)
          rw [this] at hf
          cases hf
      · have hgt : i < j := by omega
        have ht : listedFn listed j = true := by
          cases hb : listedFn listed j with
          | true => rfl
          | false => rw [hb] at hne; simp [Nat.not_lt.2 hge] at hne
        refine apartAll_spec hap i j r s o p hgt hr hs (by simpa using ho) (by simpa using hp) ?_
        cases hb : ((masks [] ops.toList).getD (0 + j) 0).testBit (0 + i) with
        | false => rfl
        | true =>
          have := mask_in hcl (j + 1) j (by omega) p hp (hcl j p hp ht) i (by simpa using hb)
          rw [this] at hun
          cases hun
    have getp : ∀ (j : Nat) s, recs[j]? = some s → ∃ p, ops[j]? = some p := by
      intro j s hs
      have hj := (List.getElem?_eq_some_iff.1 hs).1
      exact ⟨ops[j], by simp⟩
    have hsame : StepOk C ops.toList o (apD N (listedFn listed) recs 0 st0).1 (apD N (listedFn listed) recs 0 st0).2 r := by
      refine step_same hK hstep (fun m hm => ?_) (fun n hn => ?_)
      · refine apD_slot (fun j s hs hne => ?_) rfl
        simp only [Nat.zero_add] at hne
        by_cases hji : j = i
        · subst hji; rw [hun] at hne; simp at hne
        · obtain ⟨p, hp⟩ := getp j s hs
          exact fun he => (apart_ j s p hs hp hne hji).s3 m he hm
      · refine apD_name (fun j s hs hne => ?_) rfl
        simp only [Nat.zero_add] at hne
        by_cases hji : j = i
        · subst hji; rw [hun] at hne; simp at hne
        · obtain ⟨p, hp⟩ := getp j s hs
          cases hb : hasName s.put n with
          | false => rfl
          | true => exact ((apart_ j s p hs hp hne hji).n2 n hb hn).elim
    refine step_ok hK ho hsame G Hs (hfr i r hr hun) ?_
    intro a' w' E' hE hdom G' Hs'
    have hset : ∀ j, listedFn (listed.setIfInBounds i true) j = if j = i then true else listedFn listed j := by
      intro j
      unfold listedFn
      by_cases hji : j = i
      · subst hji
        have : j < listed.size := by omega
        simp [Array.getD, this]
      · have hij : i ≠ j := fun e => hji e.symm
        rw [if_neg hji, Array.getD_eq_getD_getElem?, Array.getElem?_setIfInBounds_ne hij, ← Array.getD_eq_getD_getElem?]
    have e1 : (apD N (listedFn (listed.setIfInBounds i true)) recs 0 st0).1 = r.sl N (apD N (listedFn listed) recs 0 st0).1 := by
      funext m
      unfold Rec.sl
      by_cases hm : r.dst = some m ∧ m < N
      · rw [if_pos hm]
        refine apD_slot_at (j := i) hr (by rw [Nat.zero_add, hset, if_pos rfl]) hm.1 hm.2 ?_
        intro j s hj hs hD
        rw [Nat.zero_add, hset, if_neg (by omega)] at hD
        obtain ⟨p, hp⟩ := getp j s hs
        exact (apart_ j s p hs hp (by rw [hD]; simp; omega) (by omega)).s2 m hm.1
      · rw [if_neg hm]
        by_cases hmN : m < N
        · refine apD_slot (fun j s hs hne => ?_) rfl
          simp only [Nat.zero_add, hset] at hne
          by_cases hji : j = i
          · subst hji
            rw [hr] at hs
            cases hs
            exact fun he => hm ⟨he, hmN⟩
          · rw [if_neg hji] at hne
            exact (hne rfl).elim
        · have out : ∀ (D : Nat → Bool) (rs : List Rec) (k : Nat) (st : St), (apD N D rs k st).1 m = st.1 m := by
            intro D rs
            induction rs with
            | nil => intro k st; rfl
            | cons r rs ih2 =>
              intro k st
              simp only [apD]
              rw [ih2]
              split
              · simp only [Rec.app, Rec.sl]
                rw [if_neg (fun e => hmN e.2)]
              · rfl
          rw [out, out]
    have e2 : (apD N (listedFn (listed.setIfInBounds i true)) recs 0 st0).2 = r.hp (apD N (listedFn listed) recs 0 st0).2 := by
      funext n
      unfold Rec.hp
      cases hl : lookO r.put n with
      | some x =>
        simp only
        refine apD_name_at (j := i) hr (by rw [Nat.zero_add, hset, if_pos rfl]) hl ?_
        intro j s hj hs hD
        rw [Nat.zero_add, hset, if_neg (by omega)] at hD
        obtain ⟨p, hp⟩ := getp j s hs
        refine (apart_ j s p hs hp (by rw [hD]; simp; omega) (by omega)).n3 n ?_
        cases hb : hasName r.put n with
        | true => rfl
        | false => rw [lookO_none.2 hb] at hl; cases hl
      | none =>
        simp only
        refine apD_name (fun j s hs hne => ?_) rfl
        simp only [Nat.zero_add, hset] at hne
        by_cases hji : j = i
        · subst hji
          rw [hr] at hs
          cases hs
          exact lookO_none.1 hl
        · rw [if_neg hji] at hne
          exact (hne rfl).elim
    refine ih (listed.setIfInBounds i true) a' w' E' (by simpa using hsz) ?_ ?_ (by rw [e2]; exact G') (by rw [e1]; exact Hs') ?_ ?_ (hanc.step hE (fun n h1 h2 => by have := (hdom n h1 h2).1; have := (hrun.names i r hr).1; omega))
    · have hlt : i < listed.toList.length := by simp; omega
      have hval : listed.toList[i] = false := by
        unfold listedFn at hun
        have : i < listed.size := by omega
        simp [Array.getD, this] at hun ⊢
        exact hun
      have : (listed.setIfInBounds i true).toList = listed.toList.set i true := by simp
      rw [this]
      have hc := List.countP_set (p := fun b => !b) hlt (a := true)
      rw [hc, hcount, hval]
      simp
    · intro j p hp hD e he hb
      rw [hset] at hD ⊢
      split
      · rfl
      · split at hD
        · rename_i hji
          subst hji
          rw [ho] at hp
          cases hp
          exact hpre e he hb
        · exact hcl j p hp hD e he hb
    · intro j s hs hun' n hn1 hn2
      rw [hset] at hun'
      split at hun'
      · cases hun'
      · rename_i hji
        cases hEn : E' n with
        | none => rfl
        | some q =>
          exfalso
          have h1 := hfr j s hs hun' n hn1 hn2
          have h2 := hdom n h1 (by rw [hEn]; simp)
          rcases Nat.lt_or_ge i j with hlt | hge
          · have := (hrun.names i r hr).2.2 j s hlt hs
            omega
          · have := (hrun.names j s hs).2.2 i r (by omega) hr
            omega
    · intro n hn
      cases hEn : E' n with
      | none => rfl
      | some q =>
        exfalso
        have h2 := hdom n (hB n hn) (by rw [hEn]; simp)
        have := (hrun.names i r hr).2.1
        omega
end Go.Proofs.YtpfbpcaehmhefaaDoorB.Sx
