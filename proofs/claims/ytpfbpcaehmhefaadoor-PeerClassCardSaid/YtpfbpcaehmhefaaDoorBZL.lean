/- The engine, part L: laws over plain arguments; callees whose answers are known. -/
import Derived.Test.YtpfbpcaehmhefaaDoorBZE
import Derived.Test.YtpfbpcaehmhefaaDoorBLaw
namespace Go.Proofs.YtpfbpcaehmhefaaDoorB.Sx
open Go.RowKit
set_option linter.unusedSimpArgs false
set_option linter.unusedVariables false

def plains : List AV → Option (List Value)
  | [] => some []
  | v :: vs => match plain v with
    | some x => match plains vs with
      | some xs => some (x :: xs)
      | none => none
    | none => none
theorem plains_conc (E : Env) : ∀ {l : List AV} {xs : List Value}, plains l = some xs → concs E l = some xs
  | [], xs, h => by simpa [plains, concs] using h
  | v :: vs, xs, h => by
    unfold plains at h
    split at h
    case h_2 => cases h
    rename_i x hx
    split at h
    case h_2 => cases h
    rename_i ys hys
    cases h
    exact concs_cons.2 ⟨x, ys, plain_conc hx E, plains_conc E hys, rfl⟩
/-- A callee that turns nothing; g is its answer on plain arguments. -/
def pureS (g : List Value → Option Value) : Spec := fun args _ _ =>
  match plains args with
  | some vs => match g vs with
    | some r => .leaf (some { val := .v r })
    | none => .leaf none
  | none => .leaf none
theorem same_world {W0 : World} {S : Reg} {E : Env} {hp : Nat → Option AB} {w w' : World} {v : AV} (G : Gam W0 S E hp w) (hb : Below w.heap.size w w') : Gam W0 S E (after hp { val := v }) w' := by
  obtain ⟨F, R, G⟩ := G
  refine G.apply (F' := F) (R' := R) (lo := 0) ⟨Env.le_refl E, ?_, Fr.of_below hb _, ?_, ?_, ?_, ?_, ?_⟩
  · intro n h1 h2; exact (h2 h1).elim
  · intro n b h; simp [Eff.put, lookO] at h
  · intro n b h; simp [Eff.put, lookO] at h
  · intro n b k h; simp [Eff.put, lookO] at h
  · intro n b k h; simp [Eff.put, lookO] at h
  · intro n m b c k h; simp [Eff.put, lookO] at h
theorem pureS_ok {P : Program} {gl : Nat → Option Nat} {f : FuncId} {g : List Value → Option Value} (hfn : (match P.funcs[f]? with | some fn => !(fn.name == "runtime.NumGoroutine") && !fn.body.isNone | none => false) = true)
    (h : ∀ vs r w, GlobW w → g vs = some r → Calls P f vs.toArray w fun e w' => e = .returned r ∧ Below w.heap.size w w') : SpecOk P gl f (pureS g) := by
  refine ⟨?_, ?_, ?_⟩
  · split at hfn
    case h_2 => cases hfn
    rename_i fn hf
    simp only [Bool.and_eq_true, Bool.not_eq_true'] at hfn
    exact ⟨fn, hf, hfn.1, hfn.2⟩
  · intro args lk lk' fr e he _; exact he
  · intro W0 S E hp w args vs fr e G hgl he ha _
    unfold pureS at he
    split at he
    case h_2 => exact get_none he
    rename_i us hus
    split at he
    case h_2 => exact get_none he
    rename_i r hr
    simp only [T.get, Option.some.injEq] at he
    subst he
    have := plains_conc E hus
    rw [ha] at this
    cases this
    have hgw : GlobW w := by
      obtain ⟨_, _, G'⟩ := G
      exact G'.globIn fun k hk => hk.elim
    refine Calls.mono (h vs r w hgw hr) ?_
    rintro en w' ⟨rfl, hb⟩
    exact ⟨r, E, rfl, rfl, Env.le_refl E, fun n h1 h2 => (h2 h1).elim, same_world G hb⟩
/-- What stands on its own and says true. -/
def saysS : List Value → Option Value
  | [] => some (.bool true)
  | _ => none
/-- A table with one summary more. -/
def Cx.put (C : Cx) (f : FuncId) (s : Spec) : Cx := { C with K := fun g => bif Nat.beq g f then some s else C.K g }
theorem put_ok {C : Cx} (hK : KOk C) {f : FuncId} {s : Spec} (h : SpecOk C.P C.gl f s) : KOk (C.put f s) := by
  intro g t ht
  simp only [Cx.put] at ht
  cases hb : Nat.beq g f with
  | true =>
    rw [hb] at ht
    cases ht
    rw [Nat.eq_of_beq_eq_true hb]
    exact h
  | false => rw [hb] at ht; exact hK g t ht

theorem says_ok {P : Program} {gl : Nat → Option Nat} {f : FuncId} (hfn : (match P.funcs[f]? with | some fn => !(fn.name == "runtime.NumGoroutine") && !fn.body.isNone | none => false) = true)
    (h : ∀ w, GlobW w → Calls P f #[] w (Law.Told w)) : SpecOk P gl f (pureS saysS) :=
  pureS_ok hfn fun vs r w hgw hg => by
    cases vs with
    | nil => simp only [saysS, Option.some.injEq] at hg; subst hg; exact h w hgw
    | cons v vs => simp [saysS] at hg
/-- Summaries of nothing. -/
def base (P : Program) : Cx := { P := P, K := fun _ => none, nan := true }
theorem base_ok (P : Program) : KOk (base P) := none_ok P
end Go.Proofs.YtpfbpcaehmhefaaDoorB.Sx
