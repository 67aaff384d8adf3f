/- The engine, part C: the evaluator: regions. Its answers: a proposition, or a tree of results. -/
import Derived.Test.YtpfbpcaehmhefaaDoorBZB
import Derived.Test.YtpfbpcaehmhefaaDoorBZT
import Derived.LoopN
namespace Go.Proofs.YtpfbpcaehmhefaaDoorB.Sx
open Go.RowKit
set_option linter.unusedSimpArgs false
set_option linter.unusedVariables false

/-- Answers: none; a choice; what hangs on what a callee comes to. -/
structure Op3 (β : Type) where
  fail : β
  ite : Bool → β → β → β
  bnd : (o p : Sh) → Option (Den o × Den p) → (Den o × Den p → β) → β → β
/-- A kind of answers. -/
structure Ans (β : Type) extends Op3 β where
  den : β → Prop
  fail_den : ¬ den fail
  true_den : ∀ {x y}, den (ite true x y) → den x
  false_den : ∀ {x y}, den (ite false x y) → den y
  some_den : ∀ {o p r f d}, den (bnd o p (some r) f d) → den (f r)
  none_den : ∀ {o p f d}, den (bnd o p none f d) → den d
/-- Propositions. -/
def PO : Op3 Prop where
  fail := False
  ite b x y := match b with | true => x | false => y
  bnd _ _ x f d := match x with | some r => f r | none => d
def PA : Ans Prop where
  toOp3 := PO
  den := id
  fail_den h := h
  true_den h := h
  false_den h := h
  some_den h := h
  none_den h := h
/-- Results. -/
def TO (γ : Type) : Op3 (T (Option γ)) where
  fail := .leaf none
  ite := .ite
  bnd := .bnd
def TA {γ : Type} (R : γ → Prop) : Ans (T (Option γ)) where
  toOp3 := TO γ
  den t := ∃ g, t.get = some g ∧ R g
  fail_den := fun ⟨g, h, _⟩ => by simp [TO, T.get] at h
  true_den h := h
  false_den h := h
  some_den h := h
  none_den h := h
/-- Functions' answers. -/
def FO (γ : Type) : Op3 (Option γ) where
  fail := none
  ite b x y := match b with | true => x | false => y
  bnd _ _ x f d := match x with | some r => f r | none => d
def FA {γ : Type} (R : γ → Prop) : Ans (Option γ) where
  toOp3 := FO γ
  den t := ∃ g, t = some g ∧ R g
  fail_den := fun ⟨g, h, _⟩ => by simp [FO] at h
  true_den h := h
  false_den h := h
  some_den h := h
  none_den h := h
def onT {α β : Type} (O : Op3 β) : T (Option α) → (α → β) → β
  | .leaf (some a), k => k a
  | .leaf none, _ => O.fail
  | .ite b l r, k => O.ite b (onT O l k) (onT O r k)
  | .bnd o p x f d, k => O.bnd o p x (fun r => onT O (f r) k) (onT O d k)
theorem onT_den {α β : Type} {A : Ans β} : ∀ {t : T (Option α)} {k : α → β}, A.den (onT A.toOp3 t k) → ∃ a, t.get = some a ∧ A.den (k a)
  | .leaf (some a), k, h => ⟨a, rfl, h⟩
  | .leaf none, k, h => (A.fail_den h).elim
  | .ite true l r, k, h => onT_den (t := l) (A.true_den h)
  | .ite false l r, k, h => onT_den (t := r) (A.false_den h)
  | .bnd o p none f d, k, h => onT_den (t := d) (A.none_den h)
  | .bnd o p (some r) f d, k, h => onT_den (t := f r) (A.some_den h)
/-- An abstract state: the temporaries, the named blocks, the first name that is not yet given. -/
structure AS where
  t : Tm
  h : Hp
  nx : Nat
def slots (t : Tm) (i : Nat) : AV := t.get i
def putA (t : Tm) (dst : Option Nat) (v : AV) : Tm :=
  match dst with
  | some d => t.set d v
  | none => t

/-! Values are brought to their heads before they are kept: so that what is kept stays small. 'f.. x K' is 'K x'. -/
section
variable {β : Type}
def fN (n : Nat) (K : Nat → β) : β :=
  match n with
  | 0 => K 0
  | m + 1 => K (Nat.succ m)
theorem fN_eq (n : Nat) (K : Nat → β) : fN n K = K n := by cases n <;> rfl
def fB2 (b : Bool) (K : Bool → β) : β := K b
def fV (x : Value) (K : Value → β) : β :=
  match x with
  | .bool b => K (.bool b)
  | .int k n => K (.int k n)
  | .float k n => K (.float k n)
  | .complex k a b => K (.complex k a b)
  | .string s => K (.string s)
  | .pointer p => K (.pointer p)
  | .slice a l c => K (.slice a l c)
  | .map r => K (.map r)
  | .chan r => K (.chan r)
  | .func f a b => K (.func f a b)
  | .nilFunc => K .nilFunc
  | .iface t v => K (.iface t v)
  | .nilIface => K .nilIface
  | .agg cs => K (.agg cs)
  | .tuple vs => K (.tuple vs)
theorem fV_eq (x : Value) (K : Value → β) : fV x K = K x := by cases x <;> rfl
mutual
def fA : AV → (AV → β) → β
  | .v x, K => fV x fun x => K (.v x)
  | .any, K => K .any
  | .fl n, K => K (.fl n)
  | .cx a b, K => fA a fun a => fA b fun b => K (.cx a b)
  | .ptr n r o, K => K (.ptr n r o)
  | .sl n r o l c, K => K (.sl n r o l c)
  | .se n r0 r, K => K (.se n r0 r)
  | .mapr n, K => K (.mapr n)
  | .un n, K => K (.un n)
  | .agg cs, K => fL cs fun cs => K (.agg cs)
  | .func f a b, K => fL a fun a => fL b fun b => K (.func f a b)
  | .tuple vs, K => fL vs fun vs => K (.tuple vs)
  | .iface t x, K => fA x fun x => K (.iface t x)
  | .nm n v, K => fA v fun v => K (.nm n v)
def fL : List AV → (List AV → β) → β
  | [], K => K []
  | v :: r, K => fA v fun v => fL r fun r => K (v :: r)
end
mutual
theorem fA_eq : ∀ (v : AV) (K : AV → β), fA v K = K v
  | .v x, K => by rw [fA, fV_eq]
  | .any, K => by rw [fA]
  | .fl n, K => by rw [fA]
  | .cx a b, K => by rw [fA, fA_eq, fA_eq]
  | .ptr n r o, K => by rw [fA]
  | .sl n r o l c, K => by rw [fA]
  | .se n r0 r, K => by rw [fA]
  | .mapr n, K => by rw [fA]
  | .un n, K => by rw [fA]
  | .agg cs, K => by rw [fA, fL_eq]
  | .func f a b, K => by rw [fA, fL_eq, fL_eq]
  | .tuple vs, K => by rw [fA, fL_eq]
  | .iface t x, K => by rw [fA, fA_eq]
  | .nm n v, K => by rw [fA, fA_eq]
theorem fL_eq : ∀ (l : List AV) (K : List AV → β), fL l K = K l
  | [], K => by rw [fL]
  | v :: r, K => by rw [fL, fA_eq, fL_eq]
end
def fS (t : Tm) (dst : Option Nat) (v : AV) (K : Tm → β) : β :=
  match dst with
  | some d => fTm t d v K
  | none => K t
theorem fS_eq (t : Tm) (dst : Option Nat) (v : AV) (K : Tm → β) : fS t dst v K = K (putA t dst v) := by
  cases dst with
  | none => rfl
  | some d => exact fTm_eq t d v K
def fE : List (AV × AV × Nat) → (List (AV × AV × Nat) → β) → β
  | [], K => K []
  | (k, v, b) :: r, K => fA k fun k => fA v fun v => fE r fun r => K ((k, v, b) :: r)
theorem fE_eq : ∀ (l : List (AV × AV × Nat)) (K : List (AV × AV × Nat) → β), fE l K = K l
  | [], K => rfl
  | (k, v, b) :: r, K => by rw [fE, fA_eq, fA_eq, fE_eq]
def fM (x : M) (K : M → β) : β :=
  match x with
  | .raw e s cs => fL cs fun cs => K (.raw e s cs)
  | .rows e sh l => K (.rows e sh l)
  | .hol e sh l i q cs => fL cs fun cs => K (.hol e sh l i q cs)
theorem fM_eq (x : M) (K : M → β) : fM x K = K x := by
  cases x with
  | raw e s cs => exact fL_eq cs _
  | rows e sh l => rfl
  | hol e sh l i q cs => exact fL_eq cs _
def fB (b : Option AB) (K : Option AB → β) : β :=
  match b with
  | none => K none
  | some (.own x) => fM x fun x => K (some (.own x))
  | some (.ro x) => fM x fun x => K (some (.ro x))
  | some (.al m) => fN m fun m => K (some (.al m))
  | some (.mp es c) => fE es fun es => K (some (.mp es c))
  | some (.sit s i) => K (some (.sit s i))
  | some .nan => K (some .nan)
  | some (.tb q f) => K (some (.tb q f))
  | some (.obj o k key row d) => K (some (.obj o k key row d))
  | some (.mph o key row l i v) => fA v fun v => K (some (.mph o key row l i v))
  | some .emp => K (some .emp)
theorem fB_eq (b : Option AB) (K : Option AB → β) : fB b K = K b := by
  match b with
  | none => rfl
  | some (.own x) => exact fM_eq x (fun x => K (some (.own x)))
  | some (.ro x) => exact fM_eq x (fun x => K (some (.ro x)))
  | some (.al m) => exact fN_eq m (fun m => K (some (.al m)))
  | some (.mp es c) => exact fE_eq es (fun es => K (some (.mp es c)))
  | some (.sit s i) => rfl
  | some .nan => rfl
  | some (.tb q f) => rfl
  | some (.obj o k key row d) => rfl
  | some (.mph o key row l i v) => exact fA_eq v (fun v => K (some (.mph o key row l i v)))
  | some .emp => rfl
/-- Brought to its head alone. -/
def fBs (b : Option AB) (K : Option AB → β) : β :=
  match b with
  | none => K none
  | some (.own x) => match x with
    | .raw e s cs => K (some (.own (.raw e s cs)))
    | .rows e sh l => K (some (.own (.rows e sh l)))
    | .hol e sh l i q cs => K (some (.own (.hol e sh l i q cs)))
  | some (.ro x) => match x with
    | .raw e s cs => K (some (.ro (.raw e s cs)))
    | .rows e sh l => K (some (.ro (.rows e sh l)))
    | .hol e sh l i q cs => K (some (.ro (.hol e sh l i q cs)))
  | some (.al m) => K (some (.al m))
  | some (.mp es c) => K (some (.mp es c))
  | some (.sit s i) => K (some (.sit s i))
  | some .nan => K (some .nan)
  | some (.tb q f) => K (some (.tb q f))
  | some (.obj o k key row d) => K (some (.obj o k key row d))
  | some (.mph o key row l i v) => fA v fun v => K (some (.mph o key row l i v))
  | some .emp => K (some .emp)
theorem fBs_eq (b : Option AB) (K : Option AB → β) : fBs b K = K b := by
  match b with
  | none => rfl
  | some (.own x) => cases x <;> rfl
  | some (.ro x) => cases x <;> rfl
  | some (.al m) => rfl
  | some (.mp es c) => rfl
  | some (.sit s i) => rfl
  | some .nan => rfl
  | some (.tb q f) => rfl
  | some (.obj o k key row d) => rfl
  | some (.mph o key row l i v) => exact fA_eq v (fun v => K (some (.mph o key row l i v)))
  | some .emp => rfl
/-- A name taken out of a heap. -/
def fD (n : Nat) : Hp → (Hp → β) → β
  | [], K => K []
  | (m, b) :: r, K => bif Nat.beq m n then fD n r K else fD n r fun r => K ((m, b) :: r)
def delH (n : Nat) : Hp → Hp
  | [] => []
  | (m, b) :: r => bif Nat.beq m n then delH n r else (m, b) :: delH n r
theorem fD_eq (n : Nat) : ∀ (h : Hp) (K : Hp → β), fD n h K = K (delH n h)
  | [], K => rfl
  | (m, b) :: r, K => by
    unfold fD delH
    cases Nat.beq m n with
    | true => exact fD_eq n r K
    | false => exact fD_eq n r _
/-- Blocks put into a heap, in place of those of the same names. -/
def fH : Hp → Hp → (Hp → β) → β
  | [], h, K => K h
  | (n, b) :: r, h, K => fN n fun n => fB b fun b => fH r h fun r => fD n r fun r => match b with | none => K r | some b => K ((n, some b) :: r)
/-- The same, where what is put has been brought to its head before. -/
def fHs : Hp → Hp → (Hp → β) → β
  | [], h, K => K h
  | (n, b) :: r, h, K => fN n fun n => fBs b fun b => fHs r h fun r => fD n r fun r => match b with | none => K r | some b => K ((n, some b) :: r)
def putH : Hp → Hp → Hp
  | [], h => h
  | (n, b) :: r, h => match b with | none => delH n (putH r h) | some b => (n, some b) :: delH n (putH r h)
theorem fH_eq : ∀ (a h : Hp) (K : Hp → β), fH a h K = K (putH a h)
  | [], h, K => rfl
  | (n, b) :: r, h, K => by
    rw [fH, fN_eq, fB_eq, fH_eq, fD_eq]
    cases b <;> rfl
theorem fHs_eq : ∀ (a h : Hp) (K : Hp → β), fHs a h K = K (putH a h)
  | [], h, K => rfl
  | (n, b) :: r, h, K => by
    rw [fHs, fN_eq, fBs_eq, fHs_eq, fD_eq]
    cases b <;> rfl
def isCall : Op → Bool
  | .call ⟨.value _, _, _⟩ => true
  | _ => false
def fHc (c : Bool) (a h : Hp) (K : Hp → β) : β := match c with | true => fHs a h K | false => fH a h K
theorem fHc_eq (c : Bool) (a h : Hp) (K : Hp → β) : fHc c a h K = K (putH a h) := by
  cases c with
  | true => exact fHs_eq a h K
  | false => exact fH_eq a h K
end

theorem look_del (n : Nat) : ∀ (h : Hp) (m : Nat), look (delH n h) m = if m = n then none else look h m
  | [], m => by simp [delH, look]
  | (k, b) :: r, m => by
    unfold delH
    cases hk : Nat.beq k n with
    | true =>
      have := Nat.eq_of_beq_eq_true hk
      subst this
      simp only [cond_true, look_del k r m, look]
      by_cases h : m = k
      · simp [h]
      · have : Nat.beq k m = false := by
          cases hb : Nat.beq k m with
          | false => rfl
          | true => exact (h (Nat.eq_of_beq_eq_true hb).symm).elim
        simp [h, this]
    | false =>
      simp only [cond_false, look, look_del n r m]
      cases hb : Nat.beq k m with
      | true =>
        have := Nat.eq_of_beq_eq_true hb
        subst this
        have : ¬ k = n := fun e => by subst e; simp at hk
        simp [this]
      | false => rfl
theorem look_putH : ∀ (a h : Hp), look (putH a h) = look (a ++ h)
  | [], h => rfl
  | (n, b) :: r, h => by
    funext m
    have ih := look_putH r h
    have hne : Nat.beq n m = false → ¬ m = n := fun hb e => by subst e; simp at hb
    cases b with
    | none =>
      simp only [putH, look_del, ih, List.cons_append, look]
      cases hb : Nat.beq n m with
      | true => simp [(Nat.eq_of_beq_eq_true hb).symm]
      | false => simp [hne hb]
    | some b =>
      simp only [putH, look, look_del, ih, List.cons_append]
      cases hb : Nat.beq n m with
      | true => rfl
      | false => simp [hne hb]


/-- Names, and the blocks of names, brought to their heads. -/
def fNs {β : Type} : List Nat → (List Nat → β) → β
  | [], K => K []
  | n :: r, K => fN n fun n => fNs r fun r => K (n :: r)
theorem fNs_eq {β : Type} : ∀ (l : List Nat) (K : List Nat → β), fNs l K = K l
  | [], K => rfl
  | n :: r, K => by rw [fNs, fN_eq, fNs_eq]
def fR {β : Type} (lk : Nat → Option AB) : List Nat → (Hp → β) → β
  | [], K => K []
  | n :: r, K => fBs (lk n) fun b => fR lk r fun r => K ((n, b) :: r)
theorem fR_eq {β : Type} (lk : Nat → Option AB) : ∀ (l : List Nat) (K : Hp → β), fR lk l K = K (l.map fun n => (n, lk n))
  | [], K => rfl
  | n :: r, K => by rw [fR, fBs_eq, fR_eq]; rfl

/-- A region in the text's order. -/
def rrun {β : Type} (O : Op3 β) (C : Cx) (ops : List Oper) (Q : Tm → Hp → List Rec → Nat → β) : List Oper → Nat → Tm → Hp → List Rec → β
  | [], fr, t, h, rs => Q t h rs.reverse fr
  | o :: os, fr, t, h, rs =>
    let run (t : Tm) : β :=
      onT O (eff C o (aval C.gl (slots t)) (look h) fr) fun e =>
        fA e.val fun v => fS t o.dst v fun t => fHc (isCall o.op) e.put h fun h => fN (fr + e.nn) fun fr' =>
          rrun O C ops Q os fr' t h (⟨o.dst, v, e.reads, e.put, fr, e.nn⟩ :: rs)
    let pass (t : Tm) : β := fS t o.dst (.v undef) fun t => rrun O C ops Q os fr t h (⟨o.dst, .v undef, [], [], fr, 0⟩ :: rs)
    match o.guard with
    | none => run t
    | some (g, want) =>
      match (ops[g]?).bind (·.dst) with
      | some d =>
        match slots t d with
        | .v (.bool b) =>
          O.ite b (fTm t d (.v (.bool true)) fun t => bif want then run t else pass t)
            (fTm t d (.v (.bool false)) fun t => bif want then pass t else run t)
        | .v (.tuple _) => pass t
        | _ => O.fail
      | none => O.fail

def rvc {β : Type} (O : Op3 β) (C : Cx) (ops : Array Oper) (draw : Bool) (s : AS) (Q : AS → β) : β :=
  rrun O C ops.toList (fun t h rs nx =>
    bif draw then bif apartAll ops (masks [] ops.toList) rs 0 && edgesBack ops.toList 0 then Q ⟨t, h, nx⟩ else O.fail
    else Q ⟨t, h, nx⟩) ops.toList s.nx s.t s.h []

/-- What is known where an abstract state holds. -/
structure Holds (gl : Nat → Option Nat) (W0 : World) (S : Reg) (N : Nat) (n0 : Nat) (E0 E : Env) (s : AS) (a : Act) (w : World) : Prop where
  anc : Anc n0 E0 E
  gam : Gam W0 S E (look s.h) w
  sl : Sl gl E (slots s.t) N a
  fresh : ∀ n, s.nx ≤ n → E n = none
  len : s.t.n = N
  nx : n0 ≤ s.nx

theorem slots_put {t : Tm} {dst : Option Nat} {v : AV} {rn : List Nat} {put : Hp} {lo nn : Nat} : slots (putA t dst v) = Rec.sl t.n ⟨dst, v, rn, put, lo, nn⟩ (slots t) := by
  funext i
  unfold slots putA Rec.sl
  cases dst with
  | none => simp
  | some d =>
    simp only [Tm.get_set, Option.some.injEq]
    by_cases h : i = d
    · subst h
      simp
    · have : ¬ (d = i ∧ i < t.n) := fun e => h e.1.symm
      rw [if_neg (fun e => h e.1), if_neg this]
theorem look_put {h : Hp} {dst : Option Nat} {v : AV} {rn : List Nat} {put : Hp} {lo nn : Nat} : look (put ++ h) = Rec.hp ⟨dst, v, rn, put, lo, nn⟩ (look h) := by
  funext n
  unfold Rec.hp
  rw [look_append]
  cases lookO put n <;> rfl
theorem putA_length (t : Tm) (d : Option Nat) (v : AV) : (putA t d v).n = t.n := by
  cases d with
  | none => rfl
  | some d => exact Tm.set_n t d v
theorem set_same {t : Tm} {d : Nat} {v : AV} (h : slots t d = v) : slots (t.set d v) = slots t := by
  funext i
  unfold slots at h ⊢
  rw [Tm.get_set]
  split
  · rename_i e; rw [e.1, h]
  · rfl

theorem rrun_sound {β : Type} {A : Ans β} {C : Cx} {ops : List Oper} {N : Nat} {Q : Tm → Hp → List Rec → Nat → β} : ∀ {os : List Oper} {i fr : Nat} {t : Tm} {h : Hp} {rs : List Rec}, t.n = N → A.den (rrun A.toOp3 C ops Q os fr t h rs) →
    ∃ recs t' h', TRun C ops N os i fr (slots t, look h) recs ∧ A.den (Q t' h' (rs.reverse ++ recs) (hiOf recs fr)) ∧ apD N (fun _ => true) recs i (slots t, look h) = (slots t', look h') ∧ t'.n = N
  | [], i, fr, t, h, rs, ht, hq => ⟨[], t, h, rfl, by simpa [rrun, hiOf] using hq, rfl, ht⟩
  | o :: os, i, fr, t, h, rs, ht, hq => by
    have crun : ∀ t, t.n = N → guardOf ops (slots t) o = some true →
        A.den (onT A.toOp3 (eff C o (aval C.gl (slots t)) (look h) fr) fun e => rrun A.toOp3 C ops Q os (fr + e.nn) (putA t o.dst e.val) (putH e.put h) (⟨o.dst, e.val, e.reads, e.put, fr, e.nn⟩ :: rs)) →
        ∃ recs t' h', TRun C ops N (o :: os) i fr (slots t, look h) recs ∧ A.den (Q t' h' (rs.reverse ++ recs) (hiOf recs fr)) ∧ apD N (fun _ => true) recs i (slots t, look h) = (slots t', look h') ∧ t'.n = N := by
      intro t ht hg hb
      obtain ⟨e, he, hb⟩ := onT_den hb
      obtain ⟨recs, t', h', h1, h2, h3, h4⟩ := rrun_sound (N := N) (i := i + 1) (by rw [putA_length]; exact ht) hb
      have hst : (slots (putA t o.dst e.val), look (putH e.put h)) = Rec.app N ⟨o.dst, e.val, e.reads, e.put, fr, e.nn⟩ (slots t, look h) := by
        unfold Rec.app
        rw [look_putH, slots_put (rn := e.reads) (put := e.put) (lo := fr) (nn := e.nn), look_put (dst := o.dst) (v := e.val) (rn := e.reads) (lo := fr) (nn := e.nn), ht]
      rw [hst] at h1 h3
      refine ⟨⟨o.dst, e.val, e.reads, e.put, fr, e.nn⟩ :: recs, t', h', ⟨_, _, rfl, rfl, ⟨rfl, .inl ⟨hg, e, he, rfl, rfl, rfl, rfl⟩⟩, h1⟩, by simpa [hiOf] using h2, ?_, h4⟩
      simp only [apD, if_true]
      exact h3
    have cpass : ∀ t, t.n = N → guardOf ops (slots t) o = some false → A.den (rrun A.toOp3 C ops Q os fr (putA t o.dst (.v undef)) h (⟨o.dst, .v undef, [], [], fr, 0⟩ :: rs)) →
        ∃ recs t' h', TRun C ops N (o :: os) i fr (slots t, look h) recs ∧ A.den (Q t' h' (rs.reverse ++ recs) (hiOf recs fr)) ∧ apD N (fun _ => true) recs i (slots t, look h) = (slots t', look h') ∧ t'.n = N := by
      intro t ht hg hb
      obtain ⟨recs, t', h', h1, h2, h3, h4⟩ := rrun_sound (N := N) (i := i + 1) (by rw [putA_length]; exact ht) hb
      have hst : (slots (putA t o.dst (.v undef)), look h) = Rec.app N ⟨o.dst, .v undef, [], [], fr, 0⟩ (slots t, look h) := by
        unfold Rec.app
        rw [slots_put (rn := []) (put := []) (lo := fr) (nn := 0), ht]
        rfl
      rw [hst] at h1 h3
      refine ⟨⟨o.dst, .v undef, [], [], fr, 0⟩ :: recs, t', h', ⟨_, _, rfl, rfl, ⟨rfl, .inr ⟨hg, rfl, rfl, rfl, rfl⟩⟩, h1⟩, by simpa [hiOf] using h2, ?_, h4⟩
      simp only [apD, if_true]
      exact h3
    unfold rrun at hq
    simp only [fA_eq, fS_eq, fHc_eq, fN_eq, fTm_eq] at hq
    split at hq
    · rename_i hgd
      exact crun t ht (by simp [guardOf, hgd]) hq
    · rename_i g want hgd
      split at hq
      case h_2 => exact (A.fail_den hq).elim
      rename_i d hd
      split at hq
      · rename_i b hb
        have hguard : guardOf ops (slots t) o = some (b == want) := by
          unfold guardOf
          simp only [hgd, hd, hb]
        have hn : ∀ v, (t.set d v).n = N := fun v => by rw [Tm.set_n]; exact ht
        cases b with
        | true =>
          have hq := A.true_den hq
          have hs := set_same hb
          rw [← hs] at hguard ⊢
          cases want with
          | true => exact crun _ (hn _) (by rw [hguard]; rfl) hq
          | false => exact cpass _ (hn _) (by rw [hguard]; rfl) hq
        | false =>
          have hq := A.false_den hq
          have hs := set_same hb
          rw [← hs] at hguard ⊢
          cases want with
          | true => exact cpass _ (hn _) (by rw [hguard]; rfl) hq
          | false => exact crun _ (hn _) (by rw [hguard]; rfl) hq
      · rename_i vs hb
        have hguard : guardOf ops (slots t) o = some false := by
          unfold guardOf
          simp only [hgd, hd, hb]
        exact cpass t ht hguard hq
      · exact (A.fail_den hq).elim

/-- The text's order, carried out. -/
theorem text_order {C : Cx} (hK : KOk C) {ops : Array Oper} {N n0 : Nat} {Q : Exit → Act → World → Prop} {W0 : World} {S : Reg} {E0 : Env} : ∀ {os : List Oper} {k fr : Nat} {st : St} {recs : List Rec} {a : Act} {w : World} {E : Env},
    n0 ≤ fr → (∀ j o, os[j]? = some o → ops[k + j]? = some o) → TRun C ops.toList N os k fr st recs → Gam W0 S E st.2 w → Sl C.gl E st.1 N a → (∀ n, fr ≤ n → E n = none) → Anc n0 E0 E →
    (∀ a w E, Gam W0 S E (apD N (fun _ => true) recs k st).2 w → Sl C.gl E (apD N (fun _ => true) recs k st).1 N a → (∀ n, hiOf recs fr ≤ n → E n = none) → Anc n0 E0 E → Q .normal a w) →
    wpOps C.P ops Q (List.range' k os.length) a w
  | [], k, fr, st, recs, a, w, E, hn0, _, h, G, Hs, hf, hanc, hQ => by
    simp only [TRun] at h
    subst h
    simp only [List.length_nil, List.range'_zero, wpOps]
    exact hQ a w E G Hs hf hanc
  | o :: os, k, fr, st, recs, a, w, E, hn0, ho, h, G, Hs, hf, hanc, hQ => by
    obtain ⟨r, rs', rfl, hlo, hstep, hrest⟩ := h
    simp only [List.length_cons, List.range'_succ]
    rw [wpOps_cons]
    refine step_ok hK (by simpa using ho 0 o rfl) hstep G Hs (fun n hn _ => hf n (by omega)) ?_
    intro a' w' E' hE hdom G' Hs'
    refine text_order hK (st := r.app N st) (E := E') (fr := fr + r.nn) (by omega) (fun j p hp => by
      have := ho (j + 1) p (by simpa using hp)
      rwa [show k + (j + 1) = k + 1 + j by omega] at this) hrest G' Hs' ?_ (hanc.step hE (fun n h1 h2 => by have := (hdom n h1 h2).1; omega)) ?_
    · intro n hn
      cases hEn : E' n with
      | none => rfl
      | some q =>
        have h1 := hf n (by omega)
        have h2 := hdom n h1 (by rw [hEn]; simp)
        omega
    · intro a w E G Hs hf' hanc'
      refine hQ a w E ?_ ?_ ?_ hanc'
      · simpa only [apD, if_true] using G
      · simpa only [apD, if_true] using Hs
      · simpa only [hiOf] using hf'

theorem Gam.drew {W0 : World} {S : Reg} {E : Env} {hp : Nat → Option AB} {w : World} (G : Gam W0 S E hp w) : Gam W0 S E hp { w with drawn := w.drawn + 1 } := by
  obtain ⟨F, R, G⟩ := G
  refine ⟨F, R, ⟨fun n b hb => ?_, G.nodup, G.dist⟩, ⟨G.fr.os, G.fr.tape, G.fr.output, G.fr.size, G.fr.block⟩, G.feet, G.rd, G.sep, G.glob⟩
  obtain ⟨p, h1, h2⟩ := G.holds n b hb
  exact ⟨p, h1, AB.kept (w' := { w with drawn := w.drawn + 1 }) E.le_refl h2 (fun _ _ => rfl) (fun _ _ => rfl)⟩

/-- What it is that code runs to an answer. -/
def Runs {β : Type} (A : Ans β) (C : Cx) (c : Code) (s : AS) (Q : Exit → AS → β) : Prop :=
  ∀ W0 S N n0 E0 E a w, Holds C.gl W0 S N n0 E0 E s a w → c.wp C.P (fun e a' w' => ∃ s' E', A.den (Q e s') ∧ Holds C.gl W0 S N n0 E0 E' s' a' w') a w

/-- A region that draws its order: what holds behind it. -/
theorem drawn_sound {β : Type} {A : Ans β} {C : Cx} (hK : KOk C) (hm : C.P.follows .mixedOrders = true) {id : Nat} {ops : Array Oper} {W0 : World} {S : Reg} {N n0 : Nat} {E0 E : Env} {s : AS} {a : Act} {w : World} (H : Holds C.gl W0 S N n0 E0 E s a w) {recs : List Rec} {t' : Tm} {h' : Hp}
    (hrun : TRun C ops.toList N ops.toList 0 s.nx (slots s.t, look s.h) recs) (hfin : apD N (fun _ => true) recs 0 (slots s.t, look s.h) = (slots t', look h')) (hlen : t'.n = N) (hb : (apartAll ops (masks [] ops.toList) recs 0 && edgesBack ops.toList 0) = true) {Q : Exit → AS → β} (hq : A.den (Q .normal ⟨t', h', hiOf recs s.nx⟩)) :
    (Code.region id ops true).wp C.P (fun e a' w' => ∃ s' E', A.den (Q e s') ∧ Holds C.gl W0 S N n0 E0 E' s' a' w') a w := by
  have hge : n0 ≤ hiOf recs s.nx := Nat.le_trans H.nx (hiOf_ge _ _)
  simp only [Bool.and_eq_true] at hb
  refine wp_region_any hm ?_
  have zero : apD N (listedFn (Array.replicate ops.size false)) recs 0 (slots s.t, look s.h) = (slots s.t, look s.h) :=
    apD_none _ _ _ (fun m _ => by unfold listedFn; simp only [Array.getD_eq_getD_getElem?, Array.getElem?_replicate]; split <;> rfl)
  refine any_order hK (N := N) (fr := s.nx) (st0 := (slots s.t, look s.h)) (W0 := W0) (S := S) (n0 := n0) (E0 := E0) H.nx hrun hb.1 hb.2 ?_ ops.size (Array.replicate ops.size false) a _ E (by simp) ?_ ?_ ?_ ?_ ?_ ?_ H.anc
  · intro a' w' E' G Hs hf hanc
    rw [hfin] at G Hs
    exact ⟨_, E', hq, hanc, G, Hs, hf, hlen, hge⟩
  · simp [List.countP_replicate]
  · intro j o _ hD
    unfold listedFn at hD
    simp only [Array.getD_eq_getD_getElem?, Array.getElem?_replicate] at hD
    split at hD <;> cases hD
  · rw [zero]; exact H.gam.drew
  · rw [zero]; exact H.sl
  · intro i r hr _ n hn _
    exact H.fresh n (by have := (hrun.names i r hr).1; omega)
  · intro n hn
    exact H.fresh n (by have := hiOf_ge recs s.nx; omega)
theorem rvc_sound {β : Type} {A : Ans β} {C : Cx} (hK : KOk C) (hm : C.P.follows .mixedOrders = true) {id : Nat} {ops : Array Oper} {draw : Bool} {s : AS} {Q : AS → β}
    (h : A.den (rvc A.toOp3 C ops draw s Q)) : Runs A C (.region id ops draw) s (fun e s' => match e with | .normal => Q s' | _ => A.fail) := by
  intro W0 S N n0 E0 E a w H
  unfold rvc at h
  obtain ⟨recs, t', h', hrun, hq, hfin, hlen⟩ := rrun_sound (N := N) (i := 0) H.len h
  simp only [List.reverse_nil, List.nil_append] at hq
  have hge : n0 ≤ hiOf recs s.nx := Nat.le_trans H.nx (hiOf_ge _ _)
  cases draw with
  | false =>
    simp only [cond_false] at hq
    refine wp_region ?_
    have := text_order (Q := fun e a' w' => ∃ s' E', A.den (match e with | .normal => Q s' | _ => A.fail) ∧ Holds C.gl W0 S N n0 E0 E' s' a' w') hK (os := ops.toList) (k := 0) (ops := ops) H.nx (fun j o ho => by simpa using ho) hrun H.gam H.sl H.fresh H.anc ?_
    · rw [List.range_eq_range']
      simpa using this
    · intro a' w' E' G Hs hf hanc
      rw [hfin] at G Hs
      exact ⟨_, E', hq, hanc, G, Hs, hf, hlen, hge⟩
  | true =>
    simp only [cond_true] at hq
    cases hb : (apartAll ops (masks [] ops.toList) recs 0 && edgesBack ops.toList 0) with
    | false => rw [hb] at hq; exact (A.fail_den hq).elim
    | true =>
      rw [hb] at hq
      simp only [cond_true] at hq
      exact drawn_sound (Q := fun e s' => match e with | .normal => Q s' | _ => A.fail) hK hm H hrun hfin hlen hb hq
end Go.Proofs.YtpfbpcaehmhefaaDoorB.Sx
