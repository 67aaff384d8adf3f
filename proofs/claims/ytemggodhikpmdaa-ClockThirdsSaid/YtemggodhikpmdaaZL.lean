/- The engine, part L: laws over plain arguments; callees whose answers are known. -/
import Derived.Test.YtemggodhikpmdaaZE
import Derived.Test.YtemggodhikpmdaaLaw
namespace Go.Proofs.Ytemggodhikpmdaa.Sx
open Go.RowKit
set_option linter.unusedSimpArgs false
set_option linter.unusedVariables false

def plains : List AV → Option (List Value)
  | [] => some []
  | v :: vs => match plain v with
    | some x => match plains vs with
      | some xs => some (x :: xs)
      | none => none
    | none => none
theorem plains_conc (E : Env) : ∀ {l : List AV} {xs : List Value}, plains l = some xs → concs E l = some xs
  | [], xs, h => by simpa [plains, concs] using h
  | v :: vs, xs, h => by
    unfold plains at h
    split at h
    case h_2 => cases h
    rename_i x hx
    split at h
    case h_2 => cases h
    rename_i ys hys
    cases h
    exact concs_cons.2 ⟨x, ys, plain_conc hx E, plains_conc E hys, rfl⟩
/-- A callee that turns nothing; g is its answer on plain arguments. -/
def pureS (g : List Value → Option Value) : Spec := fun args _ _ =>
  match plains args with
  | some vs => match g vs with
    | some r => .leaf (some { val := .v r })
    | none => .leaf none
  | none => .leaf none
theorem same_world {W0 : World} {S : Reg} {E : Env} {hp : Nat → Option AB} {w w' : World} {v : AV} (G : Gam W0 S E hp w) (hb : Below w.heap.size w w') : Gam W0 S E (after hp { val := v }) w' := by
  obtain ⟨F, R, G⟩ := G
  refine G.apply (F' := F) (R' := R) (lo := 0) ⟨Env.le_refl E, ?_, Fr.of_below hb _, ?_, ?_, ?_, ?_, ?_⟩
  · intro n h1 h2; exact (h2 h1).elim
  · intro n b h; simp [Eff.put, lookO] at h
  · intro n b h; simp [Eff.put, lookO] at h
  · intro n b k h; simp [Eff.put, lookO] at h
  · intro n b k h; simp [Eff.put, lookO] at h
  · intro n m b c k h; simp [Eff.put, lookO] at h
theorem pureS_ok {P : Program} {gl : Nat → Option Nat} {f : FuncId} {g : List Value → Option Value} (hfn : (match P.funcs[f]? with | some fn => !(fn.name == "runtime.NumGoroutine") && !fn.body.isNone | none => false) = true)
    (h : ∀ vs r w, g vs = some r → Calls P f vs.toArray w fun e w' => e = .returned r ∧ Below w.heap.size w w') : SpecOk P gl f (pureS g) := by
  refine ⟨?_, ?_, ?_⟩
  · split at hfn
    case h_2 => cases hfn
    rename_i fn hf
    simp only [Bool.and_eq_true, Bool.not_eq_true'] at hfn
    exact ⟨fn, hf, hfn.1, hfn.2⟩
  · intro args lk lk' fr e he _; exact he
  · intro W0 S E hp w args vs fr e G hgl he ha _
    unfold pureS at he
    split at he
    case h_2 => exact get_none he
    rename_i us hus
    split at he
    case h_2 => exact get_none he
    rename_i r hr
    simp only [T.get, Option.some.injEq] at he
    subst he
    have := plains_conc E hus
    rw [ha] at this
    cases this
    refine Calls.mono (h vs r w hr) ?_
    rintro en w' ⟨rfl, hb⟩
    exact ⟨r, E, rfl, rfl, Env.le_refl E, fun n h1 h2 => (h2 h1).elim, same_world G hb⟩
/-- What stands on its own and says true. -/
def saysS : List Value → Option Value
  | [] => some (.bool true)
  | _ => none
/-- A table with one summary more. -/
def Cx.put (C : Cx) (f : FuncId) (s : Spec) : Cx := { C with K := fun g => bif Nat.beq g f then some s else C.K g }
theorem put_ok {C : Cx} (hK : KOk C) {f : FuncId} {s : Spec} (h : SpecOk C.P C.gl f s) : KOk (C.put f s) := by
  intro g t ht
  simp only [Cx.put] at ht
  cases hb : Nat.beq g f with
  | true =>
    rw [hb] at ht
    cases ht
    rw [Nat.eq_of_beq_eq_true hb]
    exact h
  | false => rw [hb] at ht; exact hK g t ht

theorem says_ok {P : Program} {gl : Nat → Option Nat} {f : FuncId} (hfn : (match P.funcs[f]? with | some fn => !(fn.name == "runtime.NumGoroutine") && !fn.body.isNone | none => false) = true)
    (h : ∀ w, Calls P f #[] w (Law.Told w)) : SpecOk P gl f (pureS saysS) :=
  pureS_ok hfn fun vs r w hg => by
    cases vs with
    | nil => simp only [saysS, Option.some.injEq] at hg; subst hg; exact h w
    | cons v vs => simp [saysS] at hg
/-- Summaries of nothing. -/
def base (P : Program) : Cx := { P := P, K := fun _ => none }
theorem base_ok (P : Program) : KOk (base P) := none_ok P
theorem concs_v {E : Env} : ∀ (l : List Value), concs E (l.map AV.v) = some l
  | [] => rfl
  | x :: l => concs_cons.2 ⟨x, l, rfl, concs_v l, rfl⟩
/-- An int, a bool, and what is said of it. -/
def isI (k : IntKind) (r : AV) (φ : Int → Prop) : Prop :=
  match r with
  | .v (.int k' x) => (match decide (k' = k) with | true => φ x | false => False)
  | _ => False
def isB (r : AV) (φ : Bool → Prop) : Prop :=
  match r with
  | .v (.bool x) => φ x
  | _ => False
theorem isI_den {k : IntKind} {r : AV} {φ : Int → Prop} (h : isI k r φ) : ∃ x, r = .v (.int k x) ∧ φ x := by
  unfold isI at h
  split at h
  case h_2 => exact h.elim
  split at h
  case h_2 => exact h.elim
  rename_i hk
  have := of_decide_eq_true hk
  subst this
  exact ⟨_, rfl, h⟩
theorem isB_den {r : AV} {φ : Bool → Prop} (h : isB r φ) : ∃ x, r = .v (.bool x) ∧ φ x := by
  unfold isB at h
  split at h
  case h_2 => exact h.elim
  exact ⟨_, rfl, h⟩
/-- A law over plain arguments. -/
def lawVC (C : Cx) (L : Lh Prop) (f : FuncId) (args : List Value) (R : AV → Prop) : Prop :=
  match C.P.funcs[f]? with
  | some fn => match fn.body with
    | some c => avc False PA.ite L C c ⟨args.map AV.v ++ List.replicate (fn.ntmps - (args.map AV.v).length) (AV.v undef), [], 1⟩ (endsIn False PA.ite C.P fn fun r _ => R r)
    | none => False
  | none => False
theorem pure_of_vc {C : Cx} (hK : KOk C) (hm : C.P.follows .mixedOrders = true) (hg : C.gl = fun _ => none) {L : Lh Prop} (hL : LOk PA C L) {f : FuncId} {args : List Value} {R : AV → Prop} (h : lawVC C L f args R) (w : World) :
    Calls C.P f args.toArray w fun e w' => (∃ r E V, R r ∧ conc E r = some V ∧ e = .returned V) ∧ Below w.heap.size w w' := by
  unfold lawVC at h
  split at h
  case h_2 => exact h.elim
  rename_i fn hf
  split at h
  case h_2 => exact h.elim
  rename_i c hc
  have G : Gam w ⟨fun _ => False, fun _ => False⟩ (fun _ => none) (look []) w :=
    ⟨fun _ => [], fun _ => [], ⟨(fun n b h => by cases h), (fun n b h => by cases h), (fun n m b c k h => by cases h)⟩, Fr.refl _ _, (fun n b k h => by cases h), (fun n b k h => by cases h), (fun k h => by cases h)⟩
  refine Calls.mono (calls_of_avc (A := PA) (R := fun r _ => R r) hK hm hL hf hc (concs_v args) G (by rw [hg]; intro g n h; cases h) (fun n _ => rfl) h) ?_
  rintro en w' ⟨r, s, E', V, hr, rfl, hV, _, ⟨F, R', G'⟩, _, _⟩
  exact ⟨⟨r, E', V, hr, hV, rfl⟩, G'.fr.below⟩
theorem law_of_vc {C : Cx} (hK : KOk C) (hm : C.P.follows .mixedOrders = true) (hg : C.gl = fun _ => none) {L : Lh Prop} (hL : LOk PA C L) {f : FuncId} {args : List Value} (h : lawVC C L f args (fun r => isB r fun b => b = true)) (w : World) :
    Calls C.P f args.toArray w (Law.Told w) := by
  refine Calls.mono (pure_of_vc hK hm hg hL h w) ?_
  rintro en w' ⟨⟨r, E', V, hr, hV, rfl⟩, hb⟩
  obtain ⟨b, rfl, rfl⟩ := isB_den hr
  simp only [conc, Option.some.injEq] at hV
  subst hV
  exact ⟨rfl, hb⟩
/-- A pure callee's answer, an int. -/
theorem int_of_vc {C : Cx} (hK : KOk C) (hm : C.P.follows .mixedOrders = true) (hg : C.gl = fun _ => none) {L : Lh Prop} (hL : LOk PA C L) {f : FuncId} {args : List Value} {k : IntKind} {n : Int} (h : lawVC C L f args (fun r => isI k r fun x => x = n)) (w : World) :
    Calls C.P f args.toArray w fun e w' => e = .returned (.int k n) ∧ Below w.heap.size w w' := by
  refine Calls.mono (pure_of_vc hK hm hg hL h w) ?_
  rintro en w' ⟨⟨r, E', V, hr, hV, rfl⟩, hb⟩
  obtain ⟨x, rfl, rfl⟩ := isI_den hr
  simp only [conc, Option.some.injEq] at hV
  subst hV
  exact ⟨rfl, hb⟩
/-- A pure callee's answer, a bool. -/
theorem bool_of_vc {C : Cx} (hK : KOk C) (hm : C.P.follows .mixedOrders = true) (hg : C.gl = fun _ => none) {L : Lh Prop} (hL : LOk PA C L) {f : FuncId} {args : List Value} {n : Bool} (h : lawVC C L f args (fun r => isB r fun x => x = n)) (w : World) :
    Calls C.P f args.toArray w fun e w' => e = .returned (.bool n) ∧ Below w.heap.size w w' := by
  refine Calls.mono (pure_of_vc hK hm hg hL h w) ?_
  rintro en w' ⟨⟨r, E', V, hr, hV, rfl⟩, hb⟩
  obtain ⟨x, rfl, rfl⟩ := isB_den hr
  simp only [conc, Option.some.injEq] at hV
  subst hV
  exact ⟨rfl, hb⟩
end Go.Proofs.Ytemggodhikpmdaa.Sx
