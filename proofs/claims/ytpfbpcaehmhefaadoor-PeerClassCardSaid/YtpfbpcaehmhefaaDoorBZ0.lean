/- The engine, part 0: abstract values: values that speak of named blocks. Plain definitions and theorems; no program in sight. -/
import Derived.Test.YtpfbpcaehmhefaaDoorBZQ
namespace Go.Proofs.YtpfbpcaehmhefaaDoorB.Sx
open Go.RowKit

/-- A choice that waits on Bools, and on what callees come to. -/
inductive T (α : Type) : Type where
  | leaf (a : α)
  | ite (b : Bool) (l r : T α)
  | bnd (o p : Sh) (x : Option (Den o × Den p)) (f : Den o × Den p → T α) (d : T α)
/-- What is chosen. -/
def T.get {α : Type} : T α → α
  | .leaf a => a
  | .ite b l r => match b with | true => l.get | false => r.get
  | .bnd _ _ x f d => match x with | some r => (f r).get | none => d.get
def T.bind {α : Type} {β : Type} : T α → (α → T β) → T β
  | .leaf a, f => f a
  | .ite b l r, f => .ite b (l.bind f) (r.bind f)
  | .bnd o p x g d, f => .bnd o p x (fun r => (g r).bind f) (d.bind f)
theorem T.get_bind {α : Type} {β : Type} (t : T α) (f : α → T β) : (t.bind f).get = (f t.get).get := by
  induction t with
  | leaf a => rfl
  | ite b l r hl hr => cases b <;> simp only [T.bind, T.get] <;> assumption
  | bnd o p x g d hg hd => cases x with
    | none => simp only [T.bind, T.get]; exact hd
    | some r => simp only [T.bind, T.get]; exact hg r
def T.map {α : Type} {β : Type} (f : α → β) : T α → T β
  | .leaf a => .leaf (f a)
  | .ite b l r => .ite b (l.map f) (r.map f)
  | .bnd o p x g d => .bnd o p x (fun r => (g r).map f) (d.map f)
theorem T.get_map {α : Type} {β : Type} (f : α → β) (t : T α) : (t.map f).get = f t.get := by
  induction t with
  | leaf a => rfl
  | ite b l r hl hr => cases b <;> simp only [T.map, T.get] <;> assumption
  | bnd o p x g d hg hd => cases x with
    | none => simp only [T.map, T.get]; exact hd
    | some r => simp only [T.map, T.get]; exact hg r
/-- Go on with what there is. -/
def T.bindO {α : Type} {β : Type} (t : T (Option α)) (f : α → T (Option β)) : T (Option β) := t.bind fun | some a => f a | none => .leaf none
theorem T.get_bindO {α : Type} {β : Type} {t : T (Option α)} {f : α → T (Option β)} {b : β} (h : (t.bindO f).get = some b) : ∃ a, t.get = some a ∧ (f a).get = some b := by
  unfold T.bindO at h
  rw [T.get_bind] at h
  cases ht : t.get with
  | none => rw [ht] at h; simp [T.get] at h
  | some a => rw [ht] at h; exact ⟨a, rfl, h⟩
def T.mapO {α : Type} {β : Type} (t : T (Option α)) (f : α → β) : T (Option β) := t.map (Option.map f)
theorem T.get_mapO {α : Type} {β : Type} {t : T (Option α)} {f : α → β} {b : β} (h : (t.mapO f).get = some b) : ∃ a, t.get = some a ∧ f a = b := by
  unfold T.mapO at h
  rw [T.get_map, Option.map_eq_some_iff] at h
  exact h
/-- Under a condition. -/
def T.when {α : Type} (b : Bool) (t : T (Option α)) : T (Option α) := .ite b t (.leaf none)
theorem T.get_when {α : Type} {b : Bool} {t : T (Option α)} {a : α} (h : (T.when b t).get = some a) : b = true ∧ t.get = some a := by
  cases b with
  | true => exact ⟨rfl, h⟩
  | false => simp [T.when, T.get] at h

/-- An abstract value: a plain value, or one that speaks of named blocks. 'any': nobody knows; 'fl n': the float whose bits are the number that name n stands for; 'cx': a complex number by its parts; 'sl n r o len c': a slice from row r, cell o of block n on; c: its capacity (none: all that the block has); 'se n r0 r': a slice of none, cut at the end of a slice from row r0 on, at row r; 'un n': a pointer to an object; 'nm n v': what stood in a slot, by name, and what is known of it. -/
inductive AV where
  | v (x : Value)
  | any
  | fl (n : Nat)
  | cx (a b : AV)
  | ptr (n r o : Nat)
  | sl (n r o len : Nat) (c : Option Nat)
  | se (n r0 r : Nat)
  | mapr (n : Nat)
  | un (n : Nat)
  | agg (cs : List AV)
  | func (fn : Fn) (first caps : List AV)
  | tuple (vs : List AV)
  | iface (t : TypeId) (x : AV)
  | nm (n : Nat) (v : AV)
  deriving Inhabited

/-- Where a named block lies; 'nil': it is a nil slice's, or that of a slice of none at a place without cells ('odd'); 'cap': how many rows it has in all. -/
structure Pl where
  block : Nat
  base : Nat := 0
  stride : Nat := 0
  nil : Bool := false
  cap : Nat := 0
  val : Value := undef
  odd : Option Addr := none
abbrev Env := Nat → Option Pl
def Pl.addr (p : Pl) (r o : Nat) : Addr := ⟨p.block, p.base + r * p.stride + o, none⟩
def Pl.ptr (p : Pl) (r o : Nat) : Option Addr := if p.nil then p.odd else some (p.addr r o)

def cxOf : Value → Value → Option Value
  | .float k x, .float k' y => if k = k' then some (.complex k x y) else none
  | _, _ => none
def isAny : AV → Bool
  | .any => true
  | .nm _ _ => true
  | _ => false
/-- What is known of what stands in a slot. -/
def strip : AV → AV
  | .nm _ v => v
  | v => v
mutual
/-- The value that an abstract value stands for. -/
def conc (E : Env) : AV → Option Value
  | .v x => some x
  | .any => none
  | .fl n => (E n).map fun p => .float .f64 p.block
  | .cx a b => (conc E a).bind fun x => (conc E b).bind fun y => cxOf x y
  | .ptr n r o => (E n).map fun p => .pointer (some (p.addr r o))
  | .sl n r o len c => (E n).map fun p => .slice (p.ptr r o) len (c.getD (p.cap - r))
  | .se n r0 r => (E n).map fun p => .slice (if p.cap = r then p.ptr r0 0 else p.ptr r 0) 0 (p.cap - r)
  | .mapr n => (E n).map fun p => .map (some p.block)
  | .un n => (E n).map fun p => .pointer p.odd
  | .agg cs => (concs E cs).map fun vs => .agg vs.toArray
  | .func fn first caps => (concs E first).bind fun fs => (concs E caps).map fun vs => .func fn fs.toArray vs.toArray
  | .tuple cs => (concs E cs).map fun vs => .tuple vs.toArray
  | .iface t x => (conc E x).map (.iface t)
  | .nm _ _ => none
def concs (E : Env) : List AV → Option (List Value)
  | [] => some []
  | v :: vs => (conc E v).bind fun x => (concs E vs).map fun xs => x :: xs
end

def Env.le (E E' : Env) : Prop := ∀ n p, E n = some p → E' n = some p
theorem Env.le_refl (E : Env) : E.le E := fun _ _ h => h
theorem Env.le_trans {A B C : Env} (h : A.le B) (k : B.le C) : A.le C := fun n p e => k n p (h n p e)

mutual
/-- The names that a value speaks of. -/
def AV.names : AV → List Nat
  | .v _ => []
  | .any => []
  | .fl n => [n]
  | .cx a b => a.names ++ b.names
  | .ptr n _ _ => [n]
  | .sl n _ _ _ _ => [n]
  | .se n _ _ => [n]
  | .mapr n => [n]
  | .un n => [n]
  | .agg cs => namesL cs
  | .func _ a b => namesL a ++ namesL b
  | .tuple cs => namesL cs
  | .iface _ x => x.names
  | .nm n v => n :: v.names
def namesL : List AV → List Nat
  | [] => []
  | v :: vs => v.names ++ namesL vs
end
mutual
theorem conc_congr {E E' : Env} : ∀ (v : AV), (∀ n ∈ v.names, E' n = E n) → conc E' v = conc E v
  | .v x, h => by simp [conc]
  | .any, h => by simp [conc]
  | .fl n, h => by simp [conc, h n (by simp [AV.names])]
  | .cx a b, h => by
    simp only [conc]
    rw [conc_congr a (fun n hn => h n (by simp [AV.names, hn])), conc_congr b (fun n hn => h n (by simp [AV.names, hn]))]
  | .ptr n r o, h => by simp [conc, h n (by simp [AV.names])]
  | .sl n r o l c, h => by simp [conc, h n (by simp [AV.names])]
  | .se n r0 r, h => by simp [conc, h n (by simp [AV.names])]
  | .mapr n, h => by simp [conc, h n (by simp [AV.names])]
  | .un n, h => by simp [conc, h n (by simp [AV.names])]
  | .agg cs, h => by simp only [conc]; rw [concs_congr cs (fun n hn => h n (by simpa [AV.names] using hn))]
  | .func f a b, h => by
    simp only [conc]
    rw [concs_congr a (fun n hn => h n (by simp [AV.names, hn])), concs_congr b (fun n hn => h n (by simp [AV.names, hn]))]
  | .tuple cs, h => by simp only [conc]; rw [concs_congr cs (fun n hn => h n (by simpa [AV.names] using hn))]
  | .iface t x, h => by simp only [conc]; rw [conc_congr x (fun n hn => h n (by simpa [AV.names] using hn))]
  | .nm m v, h => by simp [conc]
theorem concs_congr {E E' : Env} : ∀ (vs : List AV), (∀ n ∈ namesL vs, E' n = E n) → concs E' vs = concs E vs
  | [], h => by simp [concs]
  | v :: vs, h => by
    simp only [concs]
    rw [conc_congr v (fun n hn => h n (by simp [namesL, hn])), concs_congr vs (fun n hn => h n (by simp [namesL, hn]))]
end
mutual
theorem conc_mono {E E' : Env} (h : E.le E') : ∀ (v : AV) (x : Value), conc E v = some x → conc E' v = some x
  | .v x, y, e => by simpa [conc] using e
  | .any, y, e => by simp [conc] at e
  | .fl n, y, e => by
    simp only [conc, Option.map_eq_some_iff] at e ⊢
    obtain ⟨p, hp, e⟩ := e
    exact ⟨p, h n p hp, e⟩
  | .cx a b, y, e => by
    simp only [conc, Option.bind_eq_some_iff] at e ⊢
    obtain ⟨p, hp, q, hq, e⟩ := e
    exact ⟨p, conc_mono h a p hp, q, conc_mono h b q hq, e⟩
  | .ptr n r o, y, e => by
    simp only [conc, Option.map_eq_some_iff] at e ⊢
    obtain ⟨p, hp, e⟩ := e
    exact ⟨p, h n p hp, e⟩
  | .sl n r o l c, y, e => by
    simp only [conc, Option.map_eq_some_iff] at e ⊢
    obtain ⟨p, hp, e⟩ := e
    exact ⟨p, h n p hp, e⟩
  | .se n r0 r, y, e => by
    simp only [conc, Option.map_eq_some_iff] at e ⊢
    obtain ⟨p, hp, e⟩ := e
    exact ⟨p, h n p hp, e⟩
  | .mapr n, y, e => by
    simp only [conc, Option.map_eq_some_iff] at e ⊢
    obtain ⟨p, hp, e⟩ := e
    exact ⟨p, h n p hp, e⟩
  | .un n, y, e => by
    simp only [conc, Option.map_eq_some_iff] at e ⊢
    obtain ⟨p, hp, e⟩ := e
    exact ⟨p, h n p hp, e⟩
  | .agg cs, y, e => by
    simp only [conc, Option.map_eq_some_iff] at e ⊢
    obtain ⟨p, hp, e⟩ := e
    exact ⟨p, concs_mono h cs p hp, e⟩
  | .func fn f c, y, e => by
    simp only [conc, Option.bind_eq_some_iff, Option.map_eq_some_iff] at e ⊢
    obtain ⟨p, hp, q, hq, e⟩ := e
    exact ⟨p, concs_mono h f p hp, q, concs_mono h c q hq, e⟩
  | .tuple cs, y, e => by
    simp only [conc, Option.map_eq_some_iff] at e ⊢
    obtain ⟨p, hp, e⟩ := e
    exact ⟨p, concs_mono h cs p hp, e⟩
  | .iface t x, y, e => by
    simp only [conc, Option.map_eq_some_iff] at e ⊢
    obtain ⟨p, hp, e⟩ := e
    exact ⟨p, conc_mono h x p hp, e⟩
  | .nm n v, y, e => by simp [conc] at e
theorem concs_mono {E E' : Env} (h : E.le E') : ∀ (vs : List AV) (xs : List Value), concs E vs = some xs → concs E' vs = some xs
  | [], xs, e => by simpa [concs] using e
  | v :: vs, xs, e => by
    simp only [concs, Option.bind_eq_some_iff, Option.map_eq_some_iff] at e ⊢
    obtain ⟨x, hx, ys, hy, e⟩ := e
    exact ⟨x, conc_mono h v x hx, ys, concs_mono h vs ys hy, e⟩
end

theorem concs_cons {E : Env} {v : AV} {vs : List AV} {xs : List Value} : concs E (v :: vs) = some xs ↔ ∃ x ys, conc E v = some x ∧ concs E vs = some ys ∧ xs = x :: ys := by
  simp only [concs, Option.bind_eq_some_iff, Option.map_eq_some_iff]
  constructor
  · rintro ⟨x, hx, ys, hy, e⟩; exact ⟨x, ys, hx, hy, e.symm⟩
  · rintro ⟨x, ys, hx, hy, e⟩; exact ⟨x, hx, ys, hy, e.symm⟩
theorem concs_append {E : Env} : ∀ {a b : List AV} {xs : List Value}, concs E (a ++ b) = some xs ↔ ∃ ys zs, concs E a = some ys ∧ concs E b = some zs ∧ xs = ys ++ zs
  | [], b, xs => by
    simp [concs]
  | v :: a, b, xs => by
    simp only [List.cons_append, concs_cons, concs_append (a := a)]
    constructor
    · rintro ⟨x, _, hx, ⟨ys, zs, hy, hz, rfl⟩, rfl⟩
      exact ⟨x :: ys, zs, ⟨x, ys, hx, hy, rfl⟩, hz, rfl⟩
    · rintro ⟨_, zs, ⟨x, ys, hx, hy, rfl⟩, hz, rfl⟩
      exact ⟨x, ys ++ zs, hx, ⟨ys, zs, hy, hz, rfl⟩, rfl⟩
theorem concs_length {E : Env} : ∀ {a : List AV} {xs : List Value}, concs E a = some xs → xs.length = a.length
  | [], xs, h => by simp only [concs, Option.some.injEq] at h; subst h; rfl
  | v :: a, xs, h => by
    obtain ⟨x, ys, _, hy, rfl⟩ := concs_cons.1 h
    simp [concs_length hy]
theorem concs_get {E : Env} : ∀ {a : List AV} {xs : List Value} {i : Nat} {v : AV}, concs E a = some xs → a[i]? = some v → ∃ x, xs[i]? = some x ∧ conc E v = some x
  | [], xs, i, v, h, e => by simp at e
  | u :: a, xs, 0, v, h, e => by
    obtain ⟨x, ys, hx, _, rfl⟩ := concs_cons.1 h
    simp only [List.getElem?_cons_zero, Option.some.injEq] at e ⊢
    subst e
    exact ⟨x, rfl, hx⟩
  | u :: a, xs, i + 1, v, h, e => by
    obtain ⟨x, ys, _, hy, rfl⟩ := concs_cons.1 h
    simp only [List.getElem?_cons_succ] at e ⊢
    exact concs_get hy e
theorem concs_get' {E : Env} {a : List AV} {xs : List Value} {i : Nat} {x : Value} (h : concs E a = some xs) (e : xs[i]? = some x) : ∃ v, a[i]? = some v ∧ conc E v = some x := by
  have hl := concs_length h
  have hi := (List.getElem?_eq_some_iff.1 e).1
  obtain ⟨y, h1, h2⟩ := concs_get h (List.getElem?_eq_getElem (by omega : i < a.length))
  rw [e] at h1
  cases h1
  exact ⟨_, List.getElem?_eq_getElem (by omega), h2⟩
theorem concs_drop {E : Env} : ∀ {a : List AV} {xs : List Value} (i : Nat), concs E a = some xs → concs E (a.drop i) = some (xs.drop i)
  | a, xs, 0, h => by simpa using h
  | [], xs, i + 1, h => by simp only [concs, Option.some.injEq] at h; subst h; rfl
  | u :: a, xs, i + 1, h => by
    obtain ⟨x, ys, _, hy, rfl⟩ := concs_cons.1 h
    simpa using concs_drop i hy
theorem concs_take {E : Env} : ∀ {a : List AV} {xs : List Value} (i : Nat), concs E a = some xs → concs E (a.take i) = some (xs.take i)
  | a, xs, 0, h => by simp [concs]
  | [], xs, i + 1, h => by simp only [concs, Option.some.injEq] at h; subst h; rfl
  | u :: a, xs, i + 1, h => by
    obtain ⟨x, ys, hx, hy, rfl⟩ := concs_cons.1 h
    simp only [List.take_succ_cons]
    exact concs_cons.2 ⟨x, ys.take i, hx, concs_take i hy, rfl⟩
theorem concs_plain {E : Env} : ∀ (xs : List Value), concs E (xs.map AV.v) = some xs
  | [] => rfl
  | x :: xs => concs_cons.2 ⟨x, xs, rfl, concs_plain xs, rfl⟩
/-- A list whose cells are those of a known list. -/
theorem concs_of_cells {E : Env} {g : Nat → Value → Prop} : ∀ {a : List AV} {k : Nat}, (∀ j v, a[j]? = some v → ∃ V, conc E v = some V ∧ g (k + j) V) → ∃ vs, concs E a = some vs ∧ ∀ j V, vs[j]? = some V → g (k + j) V
  | [], k, _ => ⟨[], rfl, fun j V h => by simp at h⟩
  | v :: m, k, hm => by
    obtain ⟨V, h1, h2⟩ := hm 0 v rfl
    obtain ⟨vs, h3, h4⟩ := concs_of_cells (E := E) (g := g) (a := m) (k := k + 1) (fun j u hu => by
      have := hm (j + 1) u (by simpa using hu)
      rwa [show k + (j + 1) = k + 1 + j by omega] at this)
    refine ⟨V :: vs, concs_cons.2 ⟨V, vs, h1, h3, rfl⟩, fun j U hU => ?_⟩
    cases j with
    | zero => simp only [List.getElem?_cons_zero, Option.some.injEq] at hU; subst hU; exact h2
    | succ j =>
      have := h4 j U (by simpa using hU)
      rwa [show k + (j + 1) = k + 1 + j by omega]

/-! A value as cells. -/
def acells : AV → List AV
  | .agg cs => cs
  | .v (.agg cs) => cs.toList.map .v
  | x => [x]
def oneCell : AV → Bool
  | .agg _ | .tuple _ | .v (.agg _) | .v (.tuple _) | .any | .nm _ _ => false
  | .v (.int ..) | .v (.bool _) | .v (.string _) | .v (.pointer _) | .v (.slice ..) | .v (.float ..) | .v (.complex ..) | .v (.func ..) | .v .nilFunc | .v .nilIface | .v (.iface ..) | .v (.map _) | .v (.chan _) => true
  | .ptr .. | .sl .. | .se .. | .func .. | .mapr _ | .un _ | .iface .. | .fl _ | .cx .. => true
def allOne : List AV → Bool
  | [] => true
  | v :: r => oneCell v && allOne r
theorem cxOf_some {x y V : Value} (h : cxOf x y = some V) : ∃ k a b, x = .float k a ∧ y = .float k b ∧ V = .complex k a b := by
  unfold cxOf at h
  split at h
  · split at h
    · rename_i hk
      subst hk
      cases h
      exact ⟨_, _, _, rfl, rfl, rfl⟩
    · cases h
  · cases h
theorem cxOf_one {x y V : Value} (h : cxOf x y = some V) : V.oneCell' = true := by
  obtain ⟨k, a, b, _, _, rfl⟩ := cxOf_some h
  rfl
theorem one_conc {E : Env} {v : AV} {V : Value} (h : conc E v = some V) (ho : oneCell v = true) : V.oneCell' = true := by
  cases v with
  | v x =>
    simp only [conc, Option.some.injEq] at h
    subst h
    cases x <;> first | rfl | simp [oneCell] at ho
  | agg cs => simp [oneCell] at ho
  | any => simp [oneCell] at ho
  | nm n v => simp [oneCell] at ho
  | fl n => simp only [conc, Option.map_eq_some_iff] at h; obtain ⟨p, _, rfl⟩ := h; rfl
  | cx a b =>
    simp only [conc, Option.bind_eq_some_iff] at h
    obtain ⟨x, _, y, _, h⟩ := h
    exact cxOf_one h
  | tuple cs => simp [oneCell] at ho
  | ptr n r o => simp only [conc, Option.map_eq_some_iff] at h; obtain ⟨p, _, rfl⟩ := h; rfl
  | sl n r o l c => simp only [conc, Option.map_eq_some_iff] at h; obtain ⟨p, _, rfl⟩ := h; rfl
  | se n r0 r => simp only [conc, Option.map_eq_some_iff] at h; obtain ⟨p, _, rfl⟩ := h; rfl
  | mapr n => simp only [conc, Option.map_eq_some_iff] at h; obtain ⟨p, _, rfl⟩ := h; rfl
  | un n => simp only [conc, Option.map_eq_some_iff] at h; obtain ⟨p, _, rfl⟩ := h; rfl
  | func fn f c => simp only [conc, Option.map_eq_some_iff, Option.bind_eq_some_iff] at h; obtain ⟨p, _, q, _, rfl⟩ := h; rfl
  | iface t x => simp only [conc, Option.map_eq_some_iff] at h; obtain ⟨p, _, rfl⟩ := h; rfl
theorem ones_conc {E : Env} : ∀ {vs : List AV} {xs : List Value}, concs E vs = some xs → allOne vs = true → ∀ x ∈ xs, x.oneCell' = true
  | [], xs, h, _, x, hx => by simp only [concs, Option.some.injEq] at h; subst h; simp at hx
  | v :: vs, xs, h, ho, x, hx => by
    obtain ⟨y, ys, h1, h2, rfl⟩ := concs_cons.1 h
    simp only [allOne, Bool.and_eq_true] at ho
    rcases List.mem_cons.1 hx with rfl | hx
    · exact one_conc h1 ho.1
    · exact ones_conc h2 ho.2 x hx
theorem acells_conc {E : Env} {v : AV} {V : Value} (h : conc E v = some V) : concs E (acells v) = some V.cells.toList := by
  cases v with
  | v x =>
    simp only [conc, Option.some.injEq] at h
    subst h
    cases x with
    | agg cs => exact concs_plain cs.toList
    | _ => rfl
  | agg cs =>
    simp only [conc, Option.map_eq_some_iff] at h
    obtain ⟨vs, hv, rfl⟩ := h
    simpa [acells, Value.cells] using hv
  | any => simp [conc] at h
  | nm n v => simp [conc] at h
  | fl n =>
    have h' := h
    simp only [conc, Option.map_eq_some_iff] at h'
    obtain ⟨p, hp, rfl⟩ := h'
    exact concs_cons.2 ⟨_, [], h, rfl, rfl⟩
  | cx a b =>
    have h' := h
    simp only [conc, Option.bind_eq_some_iff] at h'
    obtain ⟨x, _, y, _, h'⟩ := h'
    obtain ⟨k, p, q, _, _, rfl⟩ := cxOf_some h'
    exact concs_cons.2 ⟨_, [], h, rfl, rfl⟩
  | ptr n r o =>
    have h' := h
    simp only [conc, Option.map_eq_some_iff] at h'
    obtain ⟨p, hp, rfl⟩ := h'
    exact concs_cons.2 ⟨_, [], h, rfl, rfl⟩
  | sl n r o l c =>
    have h' := h
    simp only [conc, Option.map_eq_some_iff] at h'
    obtain ⟨p, hp, rfl⟩ := h'
    exact concs_cons.2 ⟨_, [], h, rfl, rfl⟩
  | se n r0 r =>
    have h' := h
    simp only [conc, Option.map_eq_some_iff] at h'
    obtain ⟨p, hp, rfl⟩ := h'
    exact concs_cons.2 ⟨_, [], h, rfl, rfl⟩
  | mapr n =>
    have h' := h
    simp only [conc, Option.map_eq_some_iff] at h'
    obtain ⟨p, hp, rfl⟩ := h'
    exact concs_cons.2 ⟨_, [], h, rfl, rfl⟩
  | un n =>
    have h' := h
    simp only [conc, Option.map_eq_some_iff] at h'
    obtain ⟨p, hp, rfl⟩ := h'
    exact concs_cons.2 ⟨_, [], h, rfl, rfl⟩
  | func fn f c =>
    have h' := h
    simp only [conc, Option.map_eq_some_iff, Option.bind_eq_some_iff] at h'
    obtain ⟨p, hp, q, hq, rfl⟩ := h'
    exact concs_cons.2 ⟨_, [], h, rfl, rfl⟩
  | tuple cs =>
    have h' := h
    simp only [conc, Option.map_eq_some_iff] at h'
    obtain ⟨p, hp, rfl⟩ := h'
    exact concs_cons.2 ⟨_, [], h, rfl, rfl⟩
  | iface t x =>
    have h' := h
    simp only [conc, Option.map_eq_some_iff] at h'
    obtain ⟨p, hp, rfl⟩ := h'
    exact concs_cons.2 ⟨_, [], h, rfl, rfl⟩
/-- A value that names no block. -/
def plain (v : AV) : Option Value := conc (fun _ => none) v
theorem plain_conc {v : AV} {x : Value} (h : plain v = some x) (E : Env) : conc E v = some x := conc_mono (fun n p e => by cases e) v x h
end Go.Proofs.YtpfbpcaehmhefaaDoorB.Sx
