/- The engine, part M: tables of contracts, and of pieces of code. -/
import Derived.Test.YtpfbpcaehmhefaaDoorBZI
import Derived.Test.YtpfbpcaehmhefaaDoorBZL
namespace Go.Proofs.YtpfbpcaehmhefaaDoorB.Sx
open Go.RowKit
set_option linter.unusedSimpArgs false
set_option linter.unusedVariables false

def bodyOf (P : Program) (f : FuncId) : Code :=
  match P.funcs[f]? with
  | some fn => match fn.body with
    | some c => c
    | none => .skip
  | none => .skip
def Code.left : Code → Code
  | .seq x _ => x
  | .cond _ x _ => x
  | .block _ x => x
  | .loop x => x
  | .scope x => x
  | _ => .skip
def Code.right : Code → Code
  | .seq _ y => y
  | .cond _ _ y => y
  | _ => .skip
/-- A place in code. -/
def codeAt : List Nat → Code → Code
  | [], c => c
  | k :: q, c => codeAt q (match k with | 0 => Code.left c | _ => Code.right c)
def Plan.units : Plan → List (List Nat × Un)
  | .none => []
  | .unit u => [([], u)]
  | .node l r => (l.units.map fun x => (0 :: x.1, x.2)) ++ (r.units.map fun x => (1 :: x.1, x.2))
def AllU (P : Program) (c : Code) : List (List Nat × Un) → Prop
  | [] => True
  | x :: l => UnOk P x.2 (codeAt x.1 c) ∧ AllU P c l
theorem AllU.all {P : Program} {c : Code} : ∀ {l : List (List Nat × Un)}, AllU P c l → ∀ x ∈ l, UnOk P x.2 (codeAt x.1 c)
  | [], _, x, hx => by cases hx
  | y :: l, h, x, hx => by
    rcases List.mem_cons.1 hx with rfl | hx
    · exact h.1
    · exact AllU.all h.2 x hx
theorem planOk_all {P : Program} : ∀ (p : Plan) (c : Code), (∀ x ∈ p.units, UnOk P x.2 (codeAt x.1 c)) → PlanOk P p c
  | .none, _, _ => trivial
  | .unit u, c, h => h ([], u) (by simp [Plan.units])
  | .node l r, c, h => by
    have hl : PlanOk P l (Code.left c) := planOk_all l _ fun x hx => h (0 :: x.1, x.2) (by simp only [Plan.units, List.mem_append, List.mem_map]; exact .inl ⟨x, hx, rfl⟩)
    have hr : PlanOk P r (Code.right c) := planOk_all r _ fun x hx => h (1 :: x.1, x.2) (by simp only [Plan.units, List.mem_append, List.mem_map]; exact .inr ⟨x, hx, rfl⟩)
    cases c <;> first | exact ⟨hl, hr⟩ | exact hl | exact trivial
theorem planOk_of {P : Program} (p : Plan) (c : Code) (l : List (List Nat × Un)) (hl : p.units = l) (h : AllU P c l) : PlanOk P p c :=
  planOk_all p c (by rw [hl]; exact h.all)
/-- Summaries, one by one. -/
def tabK : List (FuncId × Spec) → FuncId → Option Spec
  | [], _ => none
  | (f, s) :: l, g => bif Nat.beq f g then some s else tabK l g
def AllS (P : Program) : List (FuncId × Spec) → Prop
  | [] => True
  | x :: l => SpecOk P (fun _ => none) x.1 x.2 ∧ AllS P l
def plT : List (FuncId × Plan) → FuncId → Plan
  | [], _ => .none
  | (f, p) :: l, g => bif Nat.beq f g then p else plT l g
def AllP (P : Program) : List (FuncId × Plan) → Prop
  | [] => True
  | x :: l => PlanOk P x.2 (bodyOf P x.1) ∧ AllP P l
/-- New rows of numbers and truths are told as rows. -/
def basicSh (P : Program) (e : TypeId) : Option Sh :=
  match P.underlying e with
  | some (.int k) => some (.sc (.int k) .nil)
  | some .bool => some (.sc .bool .nil)
  | _ => none
def tabC (P : Program) (K : List (FuncId × Spec)) (pl : List (FuncId × Plan)) (fuel depth : Nat) : Cx := tower { P := P, K := tabK K, pl := plT pl, ms := basicSh P } [] fuel depth
theorem tabK_ok {P : Program} {gl : Nat → Option Nat} (hg : gl = fun _ => none) : ∀ {l : List (FuncId × Spec)}, AllS P l → ∀ f s, tabK l f = some s → SpecOk P gl f s
  | [], _, f, s, h => by cases h
  | (g, t) :: l, hl, f, s, h => by
    simp only [tabK] at h
    cases hb : Nat.beq g f with
    | true =>
      rw [hb] at h
      cases h
      rw [← Nat.eq_of_beq_eq_true hb, hg]
      exact hl.1
    | false => rw [hb] at h; exact tabK_ok hg hl.2 f s h
theorem plT_ok {P : Program} : ∀ {l : List (FuncId × Plan)}, AllP P l → ∀ f fn c, P.funcs[f]? = some fn → fn.body = some c → PlanOk P (plT l f) c
  | [], _, f, fn, c, _, _ => trivial
  | (g, p) :: l, hl, f, fn, c, h1, h2 => by
    simp only [plT]
    cases hb : Nat.beq g f with
    | true =>
      have := hl.1
      simp only [Nat.eq_of_beq_eq_true hb, bodyOf, h1, h2] at this
      exact this
    | false => exact plT_ok hl.2 f fn c h1 h2
theorem tabC_pl {P : Program} {K : List (FuncId × Spec)} {pl : List (FuncId × Plan)} (hP : AllP P pl) (fuel depth : Nat) : PlansOk (tabC P K pl fuel depth) := by
  unfold PlansOk tabC
  obtain ⟨e1, e2, e3⟩ := tower_same (B := { P := P, K := tabK K, pl := plT pl, ms := basicSh P }) (gn := []) (fuel := fuel) depth
  rw [e1, e3]
  exact fun f fn c h1 h2 => plT_ok hP f fn c h1 h2
theorem tabC_ok {P : Program} {K : List (FuncId × Spec)} {pl : List (FuncId × Plan)} (hm : P.follows .mixedOrders = true) (hS : AllS P K) (hP : AllP P pl) (fuel depth : Nat) : KOk (tabC P K pl fuel depth) :=
  tower_ok (B := { P := P, K := tabK K, pl := plT pl, ms := basicSh P }) (fun f s h => tabK_ok rfl hS f s h) (fun f fn c h1 h2 => plT_ok hP f fn c h1 h2) hm (fun _ _ h => by cases h) depth
theorem tabC_P {P : Program} {K : List (FuncId × Spec)} {pl : List (FuncId × Plan)} {fuel depth : Nat} : (tabC P K pl fuel depth).P = P := (tower_same (B := { P := P, K := tabK K, pl := plT pl, ms := basicSh P }) (gn := []) (fuel := fuel) depth).1
theorem tabC_gl {P : Program} {K : List (FuncId × Spec)} {pl : List (FuncId × Plan)} {fuel depth : Nat} : (tabC P K pl fuel depth).gl = fun _ => none := (tower_same (B := { P := P, K := tabK K, pl := plT pl, ms := basicSh P }) (gn := []) (fuel := fuel) depth).2.1
/-- A loop's piece of code, over a table. -/
theorem loopT {P : Program} (hm : P.follows .mixedOrders = true) {K : List (FuncId × Spec)} {pl : List (FuncId × Plan)} (hS : AllS P K) (hP : AllP P pl) {fuel depth : Nat} {p : Plan} {u : Un} {c d : Code} (hd : d = .loop c) (hp : PlanOk P p c) (hs : (u.kins.all fun j => u.stay.contains j) = true)
    {rf : Den u.k → Den u.i → Option (Den u.i ⊕ (Den u.o × Den (posts u.i)))} (hr : ∀ kd x, roundF (tabC P K pl fuel depth) fuel p u c kd x = rf kd x) (hF : u.F = fun kd x => iterO (rf kd) x) : UnOk P u d := by
  subst hd
  have := unOk_loop (C := tabC P K pl fuel depth) (fuel := fuel) (p := p) (u := u) (c := c) (tabC_ok hm hS hP fuel depth) (tabC_pl hP fuel depth) (by rw [tabC_P]; exact hm) tabC_gl (by rw [tabC_P]; exact hp) hs (fun kd x => by
    have e : roundF (tabC P K pl fuel depth) fuel p u c kd = rf kd := funext (hr kd)
    rw [e, hF])
  rw [tabC_P] at this
  exact this
/-- Another piece of code, over a table. -/
theorem blockT {P : Program} (hm : P.follows .mixedOrders = true) {K : List (FuncId × Spec)} {pl : List (FuncId × Plan)} (hS : AllS P K) (hP : AllP P pl) {fuel depth : Nat} {p : Plan} {u : Un} {c : Code} (hp : PlanOk P p c)
    (hF : ∀ kd x, unitF (tabC P K pl fuel depth) fuel p u c kd x = u.F kd x) : UnOk P u c := by
  have := unOk_block (C := tabC P K pl fuel depth) (fuel := fuel) (p := p) (u := u) (c := c) (tabC_ok hm hS hP fuel depth) (tabC_pl hP fuel depth) (by rw [tabC_P]; exact hm) tabC_gl (by rw [tabC_P]; exact hp) (fun kd x => (hF kd x).symm)
  rw [tabC_P] at this
  exact this
/-- A function, over a table. -/
theorem funcT {P : Program} (hm : P.follows .mixedOrders = true) {K : List (FuncId × Spec)} {pl : List (FuncId × Plan)} (hS : AllS P K) (hP : AllP P pl) {fuel depth : Nat} {f : FuncId} {c : Fc} (hF : ∀ d, bodyF (tabC P K pl fuel depth) fuel f c.i c.o d = c.F d) : MeetsF P f c := by
  have := meetsF (C := tabC P K pl fuel depth) (fuel := fuel) (f := f) (c := c) (tabC_ok hm hS hP fuel depth) (tabC_pl hP fuel depth) (by rw [tabC_P]; exact hm) tabC_gl (fun d => (hF d).symm)
  rw [tabC_P] at this
  exact this
end Go.Proofs.YtpfbpcaehmhefaaDoorB.Sx
