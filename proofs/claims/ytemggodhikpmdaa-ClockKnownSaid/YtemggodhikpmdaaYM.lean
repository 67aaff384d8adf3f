/- The engine, part M: contents: what a row of memory holds. 'raw': cells that are known one by one. -/
import Derived.Test.YtemggodhikpmdaaY0
namespace Go.Proofs.Ytemggodhikpmdaa.Sx
open Go.RowKit
set_option linter.unusedSimpArgs false
set_option linter.unusedVariables false

inductive M where
  | raw (e : TypeId) (size : Nat) (cs : List AV)
def M.e : M → TypeId
  | .raw e _ _ => e
def M.size : M → Nat
  | .raw _ s _ => s
def M.len : M → Nat
  | .raw _ s cs => cs.length / s
/-- All cells. -/
def M.flat : M → List AV
  | .raw _ _ cs => cs
/-- Its length fits its cells. -/
def M.fit : M → Bool
  | .raw _ s cs => Nat.beq (cs.length / s * s) cs.length
theorem M.fit_ok {x : M} (h : x.fit = true) : x.flat.length = x.len * x.size := by
  cases x with
  | raw e s cs => exact (Nat.eq_of_beq_eq_true h).symm
/-- 'k' cells from row r, cell o on. -/
def M.get (x : M) (r o k : Nat) : T (Option (List AV)) :=
  match x with
  | .raw _ s cs => .leaf (bif Nat.ble (r * s + o + k) cs.length then some ((cs.drop (r * s + o)).take k) else none)
theorem M.get_ok {x : M} {r o k : Nat} {l : List AV} (h : (x.get r o k).get = some l) : l.length = k ∧ ∀ j v, l[j]? = some v → x.flat[r * x.size + (o + j)]? = some v := by
  cases x with
  | raw e s cs =>
    simp only [M.get, T.get] at h
    cases hb : Nat.ble (r * s + o + k) cs.length with
    | false => rw [hb] at h; cases h
    | true =>
      rw [hb] at h
      simp only [cond_true, Option.some.injEq] at h
      subst h
      have := Nat.le_of_ble_eq_true hb
      refine ⟨by simp; omega, fun j v hv => ?_⟩
      simp only [M.flat, M.size]
      rw [List.getElem?_take] at hv
      split at hv
      · rw [List.getElem?_drop] at hv
        rw [← hv, Nat.add_assoc]
      · cases hv
/-- Cells put in their place. -/
def M.put (x : M) (r o : Nat) (l : List AV) : T (Option M) :=
  match x with
  | .raw e s cs => .leaf (bif Nat.ble (r * s + o + l.length) cs.length then some (.raw e s (cs.take (r * s + o) ++ l ++ cs.drop (r * s + o + l.length))) else none)
theorem M.put_ok {x y : M} {r o : Nat} {l : List AV} (h : (x.put r o l).get = some y) : y.e = x.e ∧ y.size = x.size ∧ r * x.size + o + l.length ≤ x.flat.length ∧
    y.flat = x.flat.take (r * x.size + o) ++ l ++ x.flat.drop (r * x.size + o + l.length) ∧ y.len = x.len := by
  cases x with
  | raw e s cs =>
    simp only [M.put, T.get] at h
    cases hb : Nat.ble (r * s + o + l.length) cs.length with
    | false => rw [hb] at h; cases h
    | true =>
      rw [hb] at h
      simp only [cond_true, Option.some.injEq] at h
      subst h
      have := Nat.le_of_ble_eq_true hb
      refine ⟨rfl, rfl, this, rfl, ?_⟩
      simp only [M.len, M.flat, M.size, List.length_append, List.length_take, List.length_drop] at *
      congr 1
      omega
/-- Rows behind rows. -/
def M.app (x y : M) : Option M :=
  match x, y with
  | .raw e s cs, .raw _ s' ds => bif Nat.beq s s' && Nat.beq (ds.length / s * s) ds.length && Nat.blt 0 s then some (.raw e s (cs ++ ds)) else none
theorem M.app_ok {x y z : M} (h : x.app y = some z) (hf : x.flat.length = x.len * x.size) : z.e = x.e ∧ z.size = x.size ∧ y.size = x.size ∧ z.flat = x.flat ++ y.flat ∧ z.len = x.len + y.len ∧ y.flat.length = y.len * y.size := by
  cases x with
  | raw e s cs => cases y with
    | raw e' s' ds =>
      simp only [M.app] at h
      cases hb : (Nat.beq s s' && Nat.beq (ds.length / s * s) ds.length && Nat.blt 0 s) with
      | false => rw [hb] at h; cases h
      | true =>
        rw [hb] at h
        simp only [cond_true, Option.some.injEq] at h
        subst h
        simp only [Bool.and_eq_true] at hb
        obtain ⟨⟨h1, h2⟩, h3⟩ := hb
        obtain rfl := Nat.eq_of_beq_eq_true h1
        have h2 := Nat.eq_of_beq_eq_true h2
        have h3 : 0 < s := by simpa using h3
        simp only [M.flat, M.len, M.size] at hf
        refine ⟨rfl, rfl, rfl, rfl, ?_, h2.symm⟩
        show (cs ++ ds).length / s = cs.length / s + ds.length / s
        rw [List.length_append, hf]
        conv => lhs; rw [← h2]
        rw [← Nat.add_mul, Nat.mul_div_cancel _ h3, Nat.mul_div_cancel _ h3]
/-- 'n' rows from row a on. -/
def M.sub (x : M) (a n : Nat) : T (Option M) :=
  match x with
  | .raw e s cs => .leaf (bif Nat.ble ((a + n) * s) cs.length && Nat.blt 0 s then some (.raw e s ((cs.drop (a * s)).take (n * s))) else none)
theorem M.sub_ok {x y : M} {a n : Nat} (h : (x.sub a n).get = some y) : y.e = x.e ∧ y.size = x.size ∧ y.len = n ∧ (a + n) * x.size ≤ x.flat.length ∧ y.flat = (x.flat.drop (a * x.size)).take (n * x.size) := by
  cases x with
  | raw e s cs =>
    simp only [M.sub, T.get] at h
    cases hb : (Nat.ble ((a + n) * s) cs.length && Nat.blt 0 s) with
    | false => rw [hb] at h; cases h
    | true =>
      rw [hb] at h
      simp only [cond_true, Option.some.injEq] at h
      subst h
      simp only [Bool.and_eq_true] at hb
      have h1 := Nat.le_of_ble_eq_true hb.1
      have h3 : 0 < s := by simpa using hb.2
      refine ⟨rfl, rfl, ?_, h1, rfl⟩
      simp only [M.len, List.length_take, List.length_drop]
      rw [Nat.add_mul] at h1
      rw [Nat.min_eq_left (by omega), Nat.mul_div_cancel _ h3]
/-- The names that it speaks of. -/
def M.names : M → List Nat
  | .raw _ _ cs => namesL cs
theorem M.names_ok {x : M} : ∀ n ∈ namesL x.flat, n ∈ x.names := by
  cases x with
  | raw e s cs => exact fun n h => h
/-- Brought to its head. -/
def M.force {β : Type} (fL : List AV → (List AV → β) → β) (x : M) (K : M → β) : β :=
  match x with
  | .raw e s cs => fL cs fun cs => K (.raw e s cs)
theorem M.force_eq {β : Type} {fL : List AV → (List AV → β) → β} (hf : ∀ l K, fL l K = K l) (x : M) (K : M → β) : x.force fL K = K x := by
  cases x with
  | raw e s cs => exact hf cs _
end Go.Proofs.Ytemggodhikpmdaa.Sx
