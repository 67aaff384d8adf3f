/- The engine, part S: shapes: typed data in memory, and what it is that a row of memory holds such data. Plain definitions and theorems; no program in sight. -/
import Derived.Test.YtpfbpcaehmhefaaDoorBZ0
namespace Go.Proofs.YtpfbpcaehmhefaaDoorB.Sx
open Go.RowKit
set_option linter.unusedSimpArgs false
set_option linter.unusedVariables false

def Ck.enc : (c : Ck) → c.den → Value
  | .int k, n => .int k n
  | .bool, b => .bool b
  | .str, s => .string s
  | .flt k, n => .float k n
  | .cpx k, z => .complex k z.1 z.2
  | .val, v => v
  | .fn f, _ => .func (.func f) #[] #[]
def Ck.dec : (c : Ck) → Value → Option c.den
  | .int k, v => match v with | .int k' n => if k = k' then some n else none | _ => none
  | .bool, v => match v with | .bool b => some b | _ => none
  | .str, v => match v with | .string s => some s | _ => none
  | .flt k, v => match v with | .float k' n => if k = k' then some n else none | _ => none
  | .cpx k, v => match v with | .complex k' a b => if k = k' then some (a, b) else none | _ => none
  | .val, v => if oneCell (.v v) = true then some v else none
  | .fn f, v => match v with | .func (.func g) ⟨[]⟩ ⟨[]⟩ => if g = f then some () else none | _ => none
theorem Ck.dec_enc {c : Ck} {v : Value} {d : c.den} (h : c.dec v = some d) : c.enc d = v ∧ oneCell (.v v) = true := by
  cases c with
  | int k =>
    simp only [Ck.dec] at h
    split at h
    · split at h
      · rename_i hk; subst hk; cases h; exact ⟨rfl, rfl⟩
      · cases h
    · cases h
  | bool =>
    simp only [Ck.dec] at h
    split at h
    · cases h; exact ⟨rfl, rfl⟩
    · cases h
  | str =>
    simp only [Ck.dec] at h
    split at h
    · cases h; exact ⟨rfl, rfl⟩
    · cases h
  | flt k =>
    simp only [Ck.dec] at h
    split at h
    · split at h
      · rename_i hk; subst hk; cases h; exact ⟨rfl, rfl⟩
      · cases h
    · cases h
  | cpx k =>
    simp only [Ck.dec] at h
    split at h
    · split at h
      · rename_i hk; subst hk; cases h; exact ⟨rfl, rfl⟩
      · cases h
    · cases h
  | val =>
    simp only [Ck.dec] at h
    split at h
    · rename_i hv; cases h; exact ⟨rfl, hv⟩
    · cases h
  | fn f =>
    simp only [Ck.dec] at h
    split at h
    · split at h
      · rename_i hk; subst hk; exact ⟨rfl, rfl⟩
      · cases h
    · cases h
def Ck.dflt : (c : Ck) → c.den
  | .int _ => (0 : Int)
  | .bool => false
  | .str => ByteArray.empty
  | .flt _ => (0 : Nat)
  | .cpx _ => ((0, 0) : Nat × Nat)
  | .val => Value.nilFunc
  | .fn _ => ()

def prHd {A : Type} : (r : Sh) → pr A r (Den r) → A
  | .nil, a => a
  | .sc .., x => x.1
  | .sl .., x => x.1
  | .pt .., x => x.1
  | .po .., x => x.1
  | .ag .., x => x.1
  | .mp .., x => x.1
def prTl {A : Type} : (r : Sh) → pr A r (Den r) → Den r
  | .nil, _ => ()
  | .sc .., x => x.2
  | .sl .., x => x.2
  | .pt .., x => x.2
  | .po .., x => x.2
  | .ag .., x => x.2
  | .mp .., x => x.2
def prMk {A : Type} : (r : Sh) → A → Den r → pr A r (Den r)
  | .nil, a, _ => a
  | .sc .., a, b => (a, b)
  | .sl .., a, b => (a, b)
  | .pt .., a, b => (a, b)
  | .po .., a, b => (a, b)
  | .ag .., a, b => (a, b)
  | .mp .., a, b => (a, b)
theorem prHd_mk {A : Type} : ∀ (r : Sh) (a : A) (b : Den r), prHd r (prMk r a b) = a := by intro r a b; cases r <;> rfl
theorem prTl_mk {A : Type} : ∀ (r : Sh) (a : A) (b : Den r), prTl r (prMk r a b) = b := by intro r a b; cases r <;> rfl
theorem prMk_eta {A : Type} : ∀ (r : Sh) (x : pr A r (Den r)), prMk r (prHd r x) (prTl r x) = x := by intro r x; cases r <;> rfl
/-- How many cells. -/
def Sh.size : Sh → Nat
  | .nil => 0
  | .sc _ r => r.size + 1
  | .sl _ _ _ r => r.size + 1
  | .pt _ _ _ r => r.size + 1
  | .po _ _ _ r => r.size + 1
  | .ag _ _ r => r.size + 1
  | .mp _ _ _ r => r.size + 1
def Obk.dflt {A : Type} : (k : Obk) → k.den (List A)
  | .map => ([] : List A)
  | .ob n => obDflt n
def dflt : (sh : Sh) → Den sh
  | .nil => ()
  | .sc c r => prMk r c.dflt (dflt r)
  | .sl _ _ row r => prMk r ([] : List (Den row)) (dflt r)
  | .pt _ _ row r => prMk r (dflt row) (dflt r)
  | .po _ _ row r => prMk r (none : Option (Den row)) (dflt r)
  | .ag _ row r => prMk r (dflt row) (dflt r)
  | .mp k _ _ r => prMk r k.dflt (dflt r)

/-! ### Memory -/
/-- A row of rows of one's own: 'p' tells where. -/
def rowAt (w : World) (e : TypeId) (size : Nat) (p : Pl) (n : Nat) (xs : List Value) : Prop :=
  xs.length = n * size ∧ p.stride = size ∧ 0 < size ∧
  ((p.nil = true ∧ n = 0 ∧ p.cap = 0 ∧ p.odd = none) ∨
   (p.nil = false ∧ ∃ cur, w.heap[p.block]? = some (.cells cur e (0, 0)) ∧ n ≤ p.cap ∧ p.cap ≤ maxLen ∧ p.base + p.cap * size ≤ cur.size ∧ (cur.toList.drop p.base).take (n * size) = xs))
/-- Cells that may be read. -/
def roAt (w : World) (p : Pl) (xs : List Value) : Prop := ∀ j V, xs[j]? = some V → w.cell? (p.addr 0 j) = some V
/-- As many rows as may be. -/
def roLen (p : Pl) (n : Nat) : Prop := (p.nil = true → n = 0) ∧ n ≤ p.cap
def blkO (p : Pl) : List Nat := if p.nil then [] else [p.block]
def blkR (p : Pl) (xs : List Value) : List Nat := match xs with | [] => [] | _ => [p.block]
/-- n rows at p, whose cells are xs; F0, R0: what these cells lead to, of one's own and read only; F, R: with the row itself. -/
def boxH (own : Bool) (w : World) (e : TypeId) (size : Nat) (p : Pl) (n : Nat) (xs : List Value) (F0 R0 F R : List Nat) : Prop :=
  match own with
  | true => rowAt w e size p n xs ∧ F = blkO p ++ F0 ∧ R = R0
  | false => p.stride = size ∧ 0 < size ∧ xs.length = n * size ∧ roLen p n ∧ roAt w p xs ∧ F0 = [] ∧ F = [] ∧ R = blkR p xs ++ R0
/-- Rows behind rows. -/
def rowsH {α : Type} (P : α → List Value → List Nat → List Nat → Prop) : List α → List Value → List Nat → List Nat → Prop
  | [], xs, F, R => xs = [] ∧ F = [] ∧ R = []
  | d :: l, xs, F, R => ∃ ys zs F1 F2 R1 R2, xs = ys ++ zs ∧ F = F1 ++ F2 ∧ R = R1 ++ R2 ∧ P d ys F1 R1 ∧ rowsH P l zs F2 R2
/-- A struct's value, or a closure. -/
def mkAg (tg : Option FuncId) (us : List Value) : Value :=
  match tg with
  | none => .agg us.toArray
  | some f => .func (.func f) #[] us.toArray
/-- The cells of a row (what is no plain cell: 'undef'). -/
def encF : (sh : Sh) → Den sh → List Value
  | .nil, _ => []
  | .sc c r, d => c.enc (prHd r d) :: encF r (prTl r d)
  | .sl _ _ _ r, d => undef :: encF r (prTl r d)
  | .pt _ _ _ r, d => undef :: encF r (prTl r d)
  | .po _ _ _ r, d => undef :: encF r (prTl r d)
  | .ag _ _ r, d => undef :: encF r (prTl r d)
  | .mp _ _ _ r, d => undef :: encF r (prTl r d)
/-- A key's value. -/
def encK : (sh : Sh) → Den sh → Value
  | .sc c r, d => c.enc (prHd r d)
  | .ag none row r, d => .agg (encF row (prHd r d)).toArray
  | _, _ => undef
def keyH (key : Sh) (x : Den key) (v : Value) : Prop := v = encK key x
/-- A map's entries. -/
def entH {κ α : Type} (K : κ → Value → Prop) (P : α → List Value → List Nat → List Nat → Prop) : List (κ × α) → List MapEntry → List Nat → List Nat → Prop
  | [], es, F, R => es = [] ∧ F = [] ∧ R = []
  | x :: l, es, F, R => ∃ e es' F1 F2 R1 R2, es = e :: es' ∧ F = F1 ++ F2 ∧ R = R1 ++ R2 ∧ K x.1 e.key ∧ P x.2 [e.val] F1 R1 ∧ entH K P l es' F2 R2
/-- An object's blocks: its own, or such as may be read. -/
def ownR (own : Bool) (b : Nat) (F0 R0 F R : List Nat) : Prop :=
  match own with
  | true => F = b :: F0 ∧ R = R0
  | false => F0 = [] ∧ F = [] ∧ R = b :: R0
/-- An object. -/
def objH (own : Bool) (w : World) {κ α : Type} (K : κ → Value → Prop) (P : α → List Value → List Nat → List Nat → Prop) : (k : Obk) → k.den (List (κ × α)) → Value → List Nat → List Nat → Prop
  | .map, l, v, F, R => ∃ b es clk F0 R0, v = .map (some b) ∧ w.heap[b]? = some (.map es clk) ∧ entH K P l es.toList F0 R0 ∧ ownR own b F0 R0 F R
  | .ob n, d, v, F, R => ∃ a B, v = .pointer a ∧ obAt n w d a B ∧ F = (match own with | true => B | false => []) ∧ R = (match own with | true => [] | false => B)
/-- Cells hold data of a shape; 'lx': all that they lead to is read only. -/
def hold (w : World) : (lx : Bool) → (sh : Sh) → Den sh → List Value → List Nat → List Nat → Prop
  | lx, .nil, _, vs, F, R => vs = [] ∧ F = [] ∧ R = []
  | lx, .sc c r, d, vs, F, R => ∃ vs', vs = c.enc (prHd r d) :: vs' ∧ oneCell (.v (c.enc (prHd r d))) = true ∧ hold w lx r (prTl r d) vs' F R
  | lx, .sl own e row r, d, vs, F, R => ∃ p vs' xs F0 R0 F1 R1 F2 R2, vs = .slice (p.ptr 0 0) (prHd r d).length p.cap :: vs' ∧ rowsH (hold w (lx || !own) row) (prHd r d) xs F0 R0 ∧ boxH (own && !lx) w e row.size p (prHd r d).length xs F0 R0 F1 R1 ∧
      hold w lx r (prTl r d) vs' F2 R2 ∧ F = F1 ++ F2 ∧ R = R1 ++ R2
  | lx, .pt own e row r, d, vs, F, R => ∃ p vs' xs F0 R0 F1 R1 F2 R2, p.nil = false ∧ vs = .pointer (some (p.addr 0 0)) :: vs' ∧ hold w (lx || !own) row (prHd r d) xs F0 R0 ∧ boxH (own && !lx) w e row.size p 1 xs F0 R0 F1 R1 ∧
      hold w lx r (prTl r d) vs' F2 R2 ∧ F = F1 ++ F2 ∧ R = R1 ++ R2
  | lx, .po own e row r, d, vs, F, R => ∃ v vs' F1 R1 F2 R2, vs = v :: vs' ∧ F = F1 ++ F2 ∧ R = R1 ++ R2 ∧ hold w lx r (prTl r d) vs' F2 R2 ∧
      match prHd r d with
      | none => v = .pointer none ∧ F1 = [] ∧ R1 = []
      | some x => ∃ p xs F0 R0, p.nil = false ∧ v = .pointer (some (p.addr 0 0)) ∧ hold w (lx || !own) row x xs F0 R0 ∧ boxH (own && !lx) w e row.size p 1 xs F0 R0 F1 R1
  | lx, .ag tg row r, d, vs, F, R => ∃ us vs' F1 R1 F2 R2, vs = mkAg tg us :: vs' ∧ hold w lx row (prHd r d) us F1 R1 ∧ hold w lx r (prTl r d) vs' F2 R2 ∧ F = F1 ++ F2 ∧ R = R1 ++ R2
  | lx, .mp k key row r, d, vs, F, R => ∃ v vs' F1 R1 F2 R2, vs = v :: vs' ∧ objH (!lx) w (keyH key) (hold w lx row) k (prHd r d) v F1 R1 ∧ hold w lx r (prTl r d) vs' F2 R2 ∧ F = F1 ++ F2 ∧ R = R1 ++ R2

/-! What stands where nothing turns. -/
theorem rowAt_kept {w w' : World} {e : TypeId} {size n : Nat} {p : Pl} {xs : List Value} (h : rowAt w e size p n xs) (hs : ∀ k ∈ blkO p, w'.heap[k]? = w.heap[k]?) : rowAt w' e size p n xs := by
  obtain ⟨h1, h2, h3, h4⟩ := h
  refine ⟨h1, h2, h3, ?_⟩
  rcases h4 with h4 | ⟨hn, cur, g1, g⟩
  · exact .inl h4
  · exact .inr ⟨hn, cur, by rw [hs _ (by simp [blkO, hn])]; exact g1, g⟩
theorem roAt_kept {w w' : World} {p : Pl} {xs : List Value} (h : roAt w p xs) (hs : ∀ k ∈ blkR p xs, w'.heap[k]? = w.heap[k]?) : roAt w' p xs := by
  intro j V hV
  cases xs with
  | nil => simp at hV
  | cons x xs =>
    have := h j V hV
    rw [World.cell?_of_block (w := w) (hs _ (by simp [blkR, Pl.addr]))]
    exact this
theorem boxH_kept {own : Bool} {w w' : World} {e : TypeId} {size n : Nat} {p : Pl} {xs : List Value} {F0 R0 F R : List Nat} (h : boxH own w e size p n xs F0 R0 F R) (hF : ∀ k ∈ F, w'.heap[k]? = w.heap[k]?) (hR : ∀ k ∈ R, w'.heap[k]? = w.heap[k]?) :
    boxH own w' e size p n xs F0 R0 F R := by
  cases own with
  | true =>
    obtain ⟨h1, rfl, rfl⟩ := h
    exact ⟨rowAt_kept h1 (fun k hk => hF k (by simp [hk])), rfl, rfl⟩
  | false =>
    obtain ⟨h1, h2, h3, h4, h5, h6, h7, rfl⟩ := h
    exact ⟨h1, h2, h3, h4, roAt_kept h5 (fun k hk => hR k (by simp [hk])), h6, h7, rfl⟩
theorem boxH_sub {own : Bool} {w : World} {e : TypeId} {size n : Nat} {p : Pl} {xs : List Value} {F0 R0 F R : List Nat} (h : boxH own w e size p n xs F0 R0 F R) : (∀ k ∈ F0, k ∈ F) ∧ (∀ k ∈ R0, k ∈ R) := by
  cases own with
  | true =>
    obtain ⟨_, rfl, rfl⟩ := h
    exact ⟨fun k hk => by simp [hk], fun k hk => hk⟩
  | false =>
    obtain ⟨_, _, _, _, _, rfl, rfl, rfl⟩ := h
    exact ⟨fun k hk => by simp at hk, fun k hk => by simp [hk]⟩
theorem rowsH_imp {α : Type} {P Q : α → List Value → List Nat → List Nat → Prop} : ∀ {l : List α} {xs : List Value} {F R : List Nat}, rowsH P l xs F R →
    (∀ d ys F' R', (∀ k ∈ F', k ∈ F) → (∀ k ∈ R', k ∈ R) → P d ys F' R' → Q d ys F' R') → rowsH Q l xs F R
  | [], xs, F, R, h, _ => h
  | d :: l, xs, F, R, h, hi => by
    obtain ⟨ys, zs, F1, F2, R1, R2, rfl, rfl, rfl, h1, h2⟩ := h
    exact ⟨ys, zs, F1, F2, R1, R2, rfl, rfl, rfl, hi d ys F1 R1 (fun k hk => by simp [hk]) (fun k hk => by simp [hk]) h1,
      rowsH_imp h2 (fun d ys F' R' hF hR => hi d ys F' R' (fun k hk => by simp [hF k hk]) (fun k hk => by simp [hR k hk]))⟩
theorem entH_imp {κ α : Type} {K : κ → Value → Prop} {P Q : α → List Value → List Nat → List Nat → Prop} : ∀ {l : List (κ × α)} {es : List MapEntry} {F R : List Nat}, entH K P l es F R →
    (∀ d ys F' R', (∀ k ∈ F', k ∈ F) → (∀ k ∈ R', k ∈ R) → P d ys F' R' → Q d ys F' R') → entH K Q l es F R
  | [], es, F, R, h, _ => h
  | x :: l, es, F, R, h, hi => by
    obtain ⟨e, es', F1, F2, R1, R2, rfl, rfl, rfl, h0, h1, h2⟩ := h
    exact ⟨e, es', F1, F2, R1, R2, rfl, rfl, rfl, h0, hi x.2 _ F1 R1 (fun k hk => by simp [hk]) (fun k hk => by simp [hk]) h1,
      entH_imp h2 (fun d ys F' R' hF hR => hi d ys F' R' (fun k hk => by simp [hF k hk]) (fun k hk => by simp [hR k hk]))⟩
theorem ownR_sub {own : Bool} {b : Nat} {F0 R0 F R : List Nat} (h : ownR own b F0 R0 F R) : (∀ k ∈ F0, k ∈ F) ∧ (∀ k ∈ R0, k ∈ R) ∧ (b ∈ F ∨ b ∈ R) := by
  cases own with
  | true => obtain ⟨rfl, rfl⟩ := h; exact ⟨fun k hk => by simp [hk], fun k hk => hk, by simp⟩
  | false => obtain ⟨rfl, rfl, rfl⟩ := h; exact ⟨fun k hk => by simp at hk, fun k hk => by simp [hk], by simp⟩
theorem objH_kept {own : Bool} {w w' : World} {κ α : Type} {K : κ → Value → Prop} {P Q : α → List Value → List Nat → List Nat → Prop} {F R : List Nat} (hPQ : ∀ d ys F' R', (∀ k ∈ F', k ∈ F) → (∀ k ∈ R', k ∈ R) → P d ys F' R' → Q d ys F' R')
    (hF : ∀ k ∈ F, w'.heap[k]? = w.heap[k]?) (hR : ∀ k ∈ R, w'.heap[k]? = w.heap[k]?) : ∀ {k : Obk} {d : k.den (List (κ × α))} {v : Value}, objH own w K P k d v F R → objH own w' K Q k d v F R
  | .map, l, v, h => by
    obtain ⟨b, es, clk, F0, R0, rfl, h1, h2, h3⟩ := h
    obtain ⟨s1, s2, s3⟩ := ownR_sub h3
    exact ⟨b, es, clk, F0, R0, rfl, by rw [s3.elim (hF b) (hR b)]; exact h1, entH_imp h2 (fun d ys F' R' a b c => hPQ d ys F' R' (fun k hk => s1 k (a k hk)) (fun k hk => s2 k (b k hk)) c), h3⟩
  | .ob n, d, v, h => by
    obtain ⟨a, B, rfl, h1, rfl, rfl⟩ := h
    refine ⟨a, B, rfl, obAt_kept h1 fun k hk => ?_, rfl, rfl⟩
    cases own with
    | true => exact hF k hk
    | false => exact hR k hk
theorem hold_kept {w w' : World} : ∀ (lx : Bool) (sh : Sh) (d : Den sh) (vs : List Value) (F R : List Nat), hold w lx sh d vs F R → (∀ k ∈ F, w'.heap[k]? = w.heap[k]?) → (∀ k ∈ R, w'.heap[k]? = w.heap[k]?) → hold w' lx sh d vs F R
  | lx, .nil, d, vs, F, R, h, _, _ => h
  | lx, .sc c r, d, vs, F, R, h, hF, hR => by
    obtain ⟨vs', h1, h2, h3⟩ := h
    exact ⟨vs', h1, h2, hold_kept lx r _ _ _ _ h3 hF hR⟩
  | lx, .sl own e row r, d, vs, F, R, h, hF, hR => by
    obtain ⟨p, vs', xs, F0, R0, F1, R1, F2, R2, h1, h2, h3, h4, rfl, rfl⟩ := h
    have hF1 : ∀ k ∈ F1, w'.heap[k]? = w.heap[k]? := fun k hk => hF k (by simp [hk])
    have hR1 : ∀ k ∈ R1, w'.heap[k]? = w.heap[k]? := fun k hk => hR k (by simp [hk])
    obtain ⟨s1, s2⟩ := boxH_sub h3
    exact ⟨p, vs', xs, F0, R0, F1, R1, F2, R2, h1, rowsH_imp h2 (fun d ys F' R' a b c => hold_kept (lx || !own) row d ys F' R' c (fun k hk => hF1 k (s1 k (a k hk))) (fun k hk => hR1 k (s2 k (b k hk)))), boxH_kept h3 hF1 hR1,
      hold_kept lx r _ _ _ _ h4 (fun k hk => hF k (by simp [hk])) (fun k hk => hR k (by simp [hk])), rfl, rfl⟩
  | lx, .pt own e row r, d, vs, F, R, h, hF, hR => by
    obtain ⟨p, vs', xs, F0, R0, F1, R1, F2, R2, h0, h1, h2, h3, h4, rfl, rfl⟩ := h
    have hF1 : ∀ k ∈ F1, w'.heap[k]? = w.heap[k]? := fun k hk => hF k (by simp [hk])
    have hR1 : ∀ k ∈ R1, w'.heap[k]? = w.heap[k]? := fun k hk => hR k (by simp [hk])
    obtain ⟨s1, s2⟩ := boxH_sub h3
    exact ⟨p, vs', xs, F0, R0, F1, R1, F2, R2, h0, h1, hold_kept (lx || !own) row _ _ _ _ h2 (fun k hk => hF1 k (s1 k hk)) (fun k hk => hR1 k (s2 k hk)), boxH_kept h3 hF1 hR1,
      hold_kept lx r _ _ _ _ h4 (fun k hk => hF k (by simp [hk])) (fun k hk => hR k (by simp [hk])), rfl, rfl⟩
  | lx, .po own e row r, d, vs, F, R, h, hF, hR => by
    obtain ⟨v, vs', F1, R1, F2, R2, h1, rfl, rfl, h4, h5⟩ := h
    refine ⟨v, vs', F1, R1, F2, R2, h1, rfl, rfl, hold_kept lx r _ _ _ _ h4 (fun k hk => hF k (by simp [hk])) (fun k hk => hR k (by simp [hk])), ?_⟩
    cases hd : prHd r d with
    | none => rw [hd] at h5; exact h5
    | some x =>
      rw [hd] at h5
      obtain ⟨p, xs, F0, R0, g0, g1, g2, g3⟩ := h5
      have hF1 : ∀ k ∈ F1, w'.heap[k]? = w.heap[k]? := fun k hk => hF k (by simp [hk])
      have hR1 : ∀ k ∈ R1, w'.heap[k]? = w.heap[k]? := fun k hk => hR k (by simp [hk])
      obtain ⟨s1, s2⟩ := boxH_sub g3
      exact ⟨p, xs, F0, R0, g0, g1, hold_kept (lx || !own) row _ _ _ _ g2 (fun k hk => hF1 k (s1 k hk)) (fun k hk => hR1 k (s2 k hk)), boxH_kept g3 hF1 hR1⟩
  | lx, .ag tg row r, d, vs, F, R, h, hF, hR => by
    obtain ⟨us, vs', F1, R1, F2, R2, h1, h2, h3, rfl, rfl⟩ := h
    exact ⟨us, vs', F1, R1, F2, R2, h1, hold_kept lx row _ _ _ _ h2 (fun k hk => hF k (by simp [hk])) (fun k hk => hR k (by simp [hk])), hold_kept lx r _ _ _ _ h3 (fun k hk => hF k (by simp [hk])) (fun k hk => hR k (by simp [hk])), rfl, rfl⟩
  | lx, .mp k key row r, d, vs, F, R, h, hF, hR => by
    obtain ⟨v, vs', F1, R1, F2, R2, h1, h2, h3, rfl, rfl⟩ := h
    have hF1 : ∀ k ∈ F1, w'.heap[k]? = w.heap[k]? := fun k hk => hF k (by simp [hk])
    have hR1 : ∀ k ∈ R1, w'.heap[k]? = w.heap[k]? := fun k hk => hR k (by simp [hk])
    exact ⟨v, vs', F1, R1, F2, R2, h1, objH_kept (fun d ys F' R' a b c => hold_kept lx row d ys F' R' c (fun k hk => hF1 k (a k hk)) (fun k hk => hR1 k (b k hk))) hF1 hR1 h2,
      hold_kept lx r _ _ _ _ h3 (fun k hk => hF k (by simp [hk])) (fun k hk => hR k (by simp [hk])), rfl, rfl⟩

/-! All footprints lie in the world. -/
theorem rowAt_lt {w : World} {e : TypeId} {size n : Nat} {p : Pl} {xs : List Value} (h : rowAt w e size p n xs) : ∀ k ∈ blkO p, k < w.heap.size := by
  intro k hk
  obtain ⟨_, _, _, h4⟩ := h
  rcases h4 with ⟨hn, _⟩ | ⟨hn, cur, g1, _⟩
  · simp [blkO, hn] at hk
  · simp only [blkO, hn, Bool.false_eq_true, if_false, List.mem_singleton] at hk
    subst hk
    exact (Array.getElem?_eq_some_iff.1 g1).1
theorem boxH_lt {own : Bool} {w : World} {e : TypeId} {size n : Nat} {p : Pl} {xs : List Value} {F0 R0 F R : List Nat} (h : boxH own w e size p n xs F0 R0 F R) (hF : ∀ k ∈ F0, k < w.heap.size) (hR : ∀ k ∈ R0, k < w.heap.size) :
    (∀ k ∈ F, k < w.heap.size) ∧ (∀ k ∈ R, k < w.heap.size) := by
  cases own with
  | true =>
    obtain ⟨h1, rfl, rfl⟩ := h
    refine ⟨fun k hk => ?_, hR⟩
    rcases List.mem_append.1 hk with hk | hk
    · exact rowAt_lt h1 k hk
    · exact hF k hk
  | false =>
    obtain ⟨_, _, _, _, h5, rfl, rfl, rfl⟩ := h
    refine ⟨fun k hk => by simp at hk, fun k hk => ?_⟩
    rcases List.mem_append.1 hk with hk | hk
    · cases xs with
      | nil => simp [blkR] at hk
      | cons x xs =>
        simp only [blkR, List.mem_singleton] at hk
        subst hk
        have := h5 0 x rfl
        exact World.block_lt_of_cell? w _ this
    · exact hR k hk
theorem rowsH_lt {α : Type} {w : World} {P : α → List Value → List Nat → List Nat → Prop} (hP : ∀ d ys F R, P d ys F R → (∀ k ∈ F, k < w.heap.size) ∧ (∀ k ∈ R, k < w.heap.size)) : ∀ {l : List α} {xs : List Value} {F R : List Nat}, rowsH P l xs F R → (∀ k ∈ F, k < w.heap.size) ∧ (∀ k ∈ R, k < w.heap.size)
  | [], xs, F, R, h => by
    obtain ⟨_, rfl, rfl⟩ := h
    exact ⟨fun k hk => by simp at hk, fun k hk => by simp at hk⟩
  | d :: l, xs, F, R, h => by
    obtain ⟨ys, zs, F1, F2, R1, R2, rfl, rfl, rfl, h1, h2⟩ := h
    have a := hP _ _ _ _ h1
    have b := rowsH_lt hP h2
    refine ⟨fun k hk => ?_, fun k hk => ?_⟩
    · rcases List.mem_append.1 hk with hk | hk
      · exact a.1 k hk
      · exact b.1 k hk
    · rcases List.mem_append.1 hk with hk | hk
      · exact a.2 k hk
      · exact b.2 k hk
theorem lt_append {F1 F2 : List Nat} {n : Nat} (h1 : ∀ k ∈ F1, k < n) (h2 : ∀ k ∈ F2, k < n) : ∀ k ∈ F1 ++ F2, k < n := fun k hk => (List.mem_append.1 hk).elim (h1 k) (h2 k)
theorem entH_lt {κ α : Type} {w : World} {K : κ → Value → Prop} {P : α → List Value → List Nat → List Nat → Prop} (hP : ∀ d ys F R, P d ys F R → (∀ k ∈ F, k < w.heap.size) ∧ (∀ k ∈ R, k < w.heap.size)) : ∀ {l : List (κ × α)} {es : List MapEntry} {F R : List Nat}, entH K P l es F R → (∀ k ∈ F, k < w.heap.size) ∧ (∀ k ∈ R, k < w.heap.size)
  | [], es, F, R, h => by
    obtain ⟨_, rfl, rfl⟩ := h
    exact ⟨fun k hk => by simp at hk, fun k hk => by simp at hk⟩
  | x :: l, es, F, R, h => by
    obtain ⟨e, es', F1, F2, R1, R2, rfl, rfl, rfl, h0, h1, h2⟩ := h
    have a := hP _ _ _ _ h1
    have b := entH_lt hP h2
    exact ⟨lt_append a.1 b.1, lt_append a.2 b.2⟩
theorem objH_lt {own : Bool} {w : World} {κ α : Type} {K : κ → Value → Prop} {P : α → List Value → List Nat → List Nat → Prop} (hP : ∀ d ys F R, P d ys F R → (∀ k ∈ F, k < w.heap.size) ∧ (∀ k ∈ R, k < w.heap.size)) {F R : List Nat} : ∀ {k : Obk} {d : k.den (List (κ × α))} {v : Value}, objH own w K P k d v F R → (∀ k ∈ F, k < w.heap.size) ∧ (∀ k ∈ R, k < w.heap.size)
  | .map, l, v, h => by
    obtain ⟨b, es, clk, F0, R0, rfl, h1, h2, h3⟩ := h
    have hb := (Array.getElem?_eq_some_iff.1 h1).1
    have a := entH_lt hP h2
    cases own with
    | true =>
      obtain ⟨rfl, rfl⟩ := h3
      exact ⟨fun k hk => (List.mem_cons.1 hk).elim (fun h => by rw [h]; exact hb) (a.1 k), a.2⟩
    | false =>
      obtain ⟨rfl, rfl, rfl⟩ := h3
      exact ⟨fun k hk => by simp at hk, fun k hk => (List.mem_cons.1 hk).elim (fun h => by rw [h]; exact hb) (a.2 k)⟩
  | .ob n, d, v, h => by
    obtain ⟨a, B, rfl, h1, rfl, rfl⟩ := h
    have hl := obAt_lt h1
    cases own with
    | true => exact ⟨hl, fun k hk => by simp at hk⟩
    | false => exact ⟨fun k hk => by simp at hk, hl⟩
theorem hold_lt {w : World} : ∀ (lx : Bool) (sh : Sh) (d : Den sh) (vs : List Value) (F R : List Nat), hold w lx sh d vs F R → (∀ k ∈ F, k < w.heap.size) ∧ (∀ k ∈ R, k < w.heap.size)
  | lx, .nil, d, vs, F, R, h => by
    obtain ⟨_, rfl, rfl⟩ := h
    exact ⟨fun k hk => by simp at hk, fun k hk => by simp at hk⟩
  | lx, .sc c r, d, vs, F, R, h => by
    obtain ⟨vs', h1, h2, h3⟩ := h
    exact hold_lt lx r _ _ _ _ h3
  | lx, .sl own e row r, d, vs, F, R, h => by
    obtain ⟨p, vs', xs, F0, R0, F1, R1, F2, R2, h1, h2, h3, h4, rfl, rfl⟩ := h
    have a := rowsH_lt (w := w) (fun d ys F R h => hold_lt _ row d ys F R h) h2
    have b := boxH_lt h3 a.1 a.2
    have c := hold_lt lx r _ _ _ _ h4
    exact ⟨lt_append b.1 c.1, lt_append b.2 c.2⟩
  | lx, .pt own e row r, d, vs, F, R, h => by
    obtain ⟨p, vs', xs, F0, R0, F1, R1, F2, R2, h0, h1, h2, h3, h4, rfl, rfl⟩ := h
    have a := hold_lt _ row _ _ _ _ h2
    have b := boxH_lt h3 a.1 a.2
    have c := hold_lt lx r _ _ _ _ h4
    exact ⟨lt_append b.1 c.1, lt_append b.2 c.2⟩
  | lx, .po own e row r, d, vs, F, R, h => by
    obtain ⟨v, vs', F1, R1, F2, R2, h1, rfl, rfl, h4, h5⟩ := h
    have c := hold_lt lx r _ _ _ _ h4
    have b : (∀ k ∈ F1, k < w.heap.size) ∧ (∀ k ∈ R1, k < w.heap.size) := by
      cases hd : prHd r d with
      | none =>
        rw [hd] at h5
        obtain ⟨_, rfl, rfl⟩ := h5
        exact ⟨fun k hk => by simp at hk, fun k hk => by simp at hk⟩
      | some x =>
        rw [hd] at h5
        obtain ⟨p, xs, F0, R0, g0, g1, g2, g3⟩ := h5
        have a := hold_lt _ row _ _ _ _ g2
        exact boxH_lt g3 a.1 a.2
    exact ⟨lt_append b.1 c.1, lt_append b.2 c.2⟩
  | lx, .ag tg row r, d, vs, F, R, h => by
    obtain ⟨us, vs', F1, R1, F2, R2, h1, h2, h3, rfl, rfl⟩ := h
    have a := hold_lt _ row _ _ _ _ h2
    have c := hold_lt lx r _ _ _ _ h3
    exact ⟨lt_append a.1 c.1, lt_append a.2 c.2⟩
  | lx, .mp k key row r, d, vs, F, R, h => by
    obtain ⟨v, vs', F1, R1, F2, R2, h1, h2, h3, rfl, rfl⟩ := h
    have a := objH_lt (fun d ys F R h => hold_lt lx row d ys F R h) h2
    have c := hold_lt lx r _ _ _ _ h3
    exact ⟨lt_append a.1 c.1, lt_append a.2 c.2⟩

/-- What is held may be read. -/
theorem boxH_lax {w : World} {e : TypeId} {size n : Nat} {p : Pl} {xs : List Value} {F0 R0 F R R0' : List Nat} (h : boxH true w e size p n xs F0 R0 F R) (hR : ∀ k ∈ R0', k ∈ F0 ∨ k ∈ R0) : ∃ R', boxH false w e size p n xs [] R0' [] R' ∧ ∀ k ∈ R', k ∈ F ∨ k ∈ R := by
  obtain ⟨⟨h1, h2, h3, h4⟩, rfl, rfl⟩ := h
  refine ⟨_, ⟨h2, h3, h1, ⟨?_, ?_⟩, ?_, rfl, rfl, rfl⟩, ?_⟩
  · intro hn
    rcases h4 with h4 | h4
    · exact h4.2.1
    · rw [h4.1] at hn; cases hn
  · rcases h4 with h4 | ⟨_, cur, _, h4, _⟩
    · rw [h4.2.1]; exact Nat.zero_le _
    · exact h4
  · intro j V hV
    rcases h4 with ⟨_, hn, _⟩ | ⟨hn, cur, g1, g2, g3, g4, g5⟩
    · rw [hn] at h1
      have hx : xs = [] := List.eq_nil_of_length_eq_zero (by simpa using h1)
      rw [hx] at hV
      simp at hV
    · rw [← g5, List.getElem?_take] at hV
      split at hV
      · rw [List.getElem?_drop] at hV
        simp only [Pl.addr, Nat.zero_mul, Nat.add_zero]
        have : (cur[p.base + j]?) = some V := by simpa using hV
        simp [World.cell?, g1, this]
      · cases hV
  · intro k hk
    rcases List.mem_append.1 hk with hk | hk
    · left
      rcases h4 with ⟨_, hn, _⟩ | ⟨hn, _⟩
      · rw [hn] at h1
        have hx : xs = [] := List.eq_nil_of_length_eq_zero (by simpa using h1)
        rw [hx] at hk
        simp [blkR] at hk
      · cases xs with
        | nil => simp [blkR] at hk
        | cons x xs => simp only [blkR, List.mem_singleton] at hk; simp [blkO, hn, hk]
    · rcases hR k hk with h | h
      · left; simp [h]
      · exact .inr h
theorem rowsH_lax {α : Type} {P Q : α → List Value → List Nat → List Nat → Prop} (hPQ : ∀ d ys F R, P d ys F R → ∃ R', Q d ys [] R' ∧ ∀ k ∈ R', k ∈ F ∨ k ∈ R) : ∀ {l : List α} {xs : List Value} {F R : List Nat}, rowsH P l xs F R → ∃ R', rowsH Q l xs [] R' ∧ ∀ k ∈ R', k ∈ F ∨ k ∈ R
  | [], xs, F, R, h => by
    obtain ⟨rfl, rfl, rfl⟩ := h
    exact ⟨[], ⟨rfl, rfl, rfl⟩, fun k hk => by simp at hk⟩
  | d :: l, xs, F, R, h => by
    obtain ⟨ys, zs, F1, F2, R1, R2, rfl, rfl, rfl, h1, h2⟩ := h
    obtain ⟨Ra, a1, a2⟩ := hPQ _ _ _ _ h1
    obtain ⟨Rb, b1, b2⟩ := rowsH_lax hPQ h2
    refine ⟨Ra ++ Rb, ⟨ys, zs, [], [], Ra, Rb, rfl, rfl, rfl, a1, b1⟩, fun k hk => ?_⟩
    rcases List.mem_append.1 hk with hk | hk
    · rcases a2 k hk with h | h <;> simp [h]
    · rcases b2 k hk with h | h <;> simp [h]
theorem boxH_lax' {own : Bool} {w : World} {e : TypeId} {size n : Nat} {p : Pl} {xs : List Value} {F0 R0 F R R0' : List Nat} (h : boxH own w e size p n xs F0 R0 F R) (hR : ∀ k ∈ R0', k ∈ F0 ∨ k ∈ R0) : ∃ R', boxH false w e size p n xs [] R0' [] R' ∧ ∀ k ∈ R', k ∈ F ∨ k ∈ R := by
  cases own with
  | true => exact boxH_lax h hR
  | false =>
    obtain ⟨h1, h2, h3, h4, h5, rfl, rfl, rfl⟩ := h
    refine ⟨blkR p xs ++ R0', ⟨h1, h2, h3, h4, h5, rfl, rfl, rfl⟩, fun k hk => ?_⟩
    rcases List.mem_append.1 hk with hk | hk
    · simp [hk]
    · rcases hR k hk with h | h
      · simp at h
      · simp [h]
theorem entH_lax {κ α : Type} {K : κ → Value → Prop} {P Q : α → List Value → List Nat → List Nat → Prop} (hPQ : ∀ d ys F R, P d ys F R → ∃ R', Q d ys [] R' ∧ ∀ k ∈ R', k ∈ F ∨ k ∈ R) : ∀ {l : List (κ × α)} {es : List MapEntry} {F R : List Nat}, entH K P l es F R → ∃ R', entH K Q l es [] R' ∧ ∀ k ∈ R', k ∈ F ∨ k ∈ R
  | [], es, F, R, h => by
    obtain ⟨rfl, rfl, rfl⟩ := h
    exact ⟨[], ⟨rfl, rfl, rfl⟩, fun k hk => by simp at hk⟩
  | x :: l, es, F, R, h => by
    obtain ⟨e, es', F1, F2, R1, R2, rfl, rfl, rfl, h0, h1, h2⟩ := h
    obtain ⟨Ra, a1, a2⟩ := hPQ _ _ _ _ h1
    obtain ⟨Rb, b1, b2⟩ := entH_lax hPQ h2
    refine ⟨Ra ++ Rb, ⟨e, es', [], [], Ra, Rb, rfl, rfl, rfl, h0, a1, b1⟩, fun k hk => ?_⟩
    rcases List.mem_append.1 hk with hk | hk
    · rcases a2 k hk with h | h <;> simp [h]
    · rcases b2 k hk with h | h <;> simp [h]
theorem objH_lax {own : Bool} {w : World} {κ α : Type} {K : κ → Value → Prop} {P Q : α → List Value → List Nat → List Nat → Prop} (hPQ : ∀ d ys F R, P d ys F R → ∃ R', Q d ys [] R' ∧ ∀ k ∈ R', k ∈ F ∨ k ∈ R) {F R : List Nat} : ∀ {k : Obk} {d : k.den (List (κ × α))} {v : Value}, objH own w K P k d v F R → ∃ R', objH false w K Q k d v [] R' ∧ ∀ k ∈ R', k ∈ F ∨ k ∈ R
  | .map, l, v, h => by
    obtain ⟨b, es, clk, F0, R0, rfl, h1, h2, h3⟩ := h
    obtain ⟨s1, s2, s3⟩ := ownR_sub h3
    obtain ⟨Ra, a1, a2⟩ := entH_lax hPQ h2
    refine ⟨b :: Ra, ⟨b, es, clk, [], Ra, rfl, h1, a1, rfl, rfl, rfl⟩, fun k hk => ?_⟩
    rcases List.mem_cons.1 hk with rfl | hk
    · exact s3
    · exact (a2 k hk).imp (s1 k) (s2 k)
  | .ob n, d, v, h => by
    obtain ⟨a, B, rfl, h1, rfl, rfl⟩ := h
    refine ⟨B, ⟨a, B, rfl, h1, rfl, rfl⟩, fun k hk => ?_⟩
    cases own with
    | true => exact .inl hk
    | false => exact .inr hk
theorem hold_lax {w : World} : ∀ (lx : Bool) (sh : Sh) (d : Den sh) (vs : List Value) (F R : List Nat), hold w lx sh d vs F R → ∃ R', hold w true sh d vs [] R' ∧ ∀ k ∈ R', k ∈ F ∨ k ∈ R
  | lx, .nil, d, vs, F, R, h => by
    obtain ⟨rfl, rfl, rfl⟩ := h
    exact ⟨[], ⟨rfl, rfl, rfl⟩, fun k hk => by simp at hk⟩
  | lx, .sc c r, d, vs, F, R, h => by
    obtain ⟨vs', h1, h2, h3⟩ := h
    obtain ⟨R', a, b⟩ := hold_lax lx r _ _ _ _ h3
    exact ⟨R', ⟨vs', h1, h2, a⟩, b⟩
  | lx, .sl own e row r, d, vs, F, R, h => by
    obtain ⟨p, vs', xs, F0, R0, F1, R1, F2, R2, h1, h2, h3, h4, rfl, rfl⟩ := h
    obtain ⟨Ra, a1, a2⟩ := rowsH_lax (fun d ys F R h => hold_lax _ row d ys F R h) h2
    obtain ⟨Rb, b1, b2⟩ := boxH_lax' h3 a2
    obtain ⟨Rc, c1, c2⟩ := hold_lax lx r _ _ _ _ h4
    refine ⟨Rb ++ Rc, ⟨p, vs', xs, [], Ra, [], Rb, [], Rc, h1, by simpa using a1, by simpa using b1, c1, rfl, rfl⟩, fun k hk => ?_⟩
    rcases List.mem_append.1 hk with hk | hk
    · rcases b2 k hk with h | h <;> simp [h]
    · rcases c2 k hk with h | h <;> simp [h]
  | lx, .pt own e row r, d, vs, F, R, h => by
    obtain ⟨p, vs', xs, F0, R0, F1, R1, F2, R2, h0, h1, h2, h3, h4, rfl, rfl⟩ := h
    obtain ⟨Ra, a1, a2⟩ := hold_lax _ row _ _ _ _ h2
    obtain ⟨Rb, b1, b2⟩ := boxH_lax' h3 a2
    obtain ⟨Rc, c1, c2⟩ := hold_lax lx r _ _ _ _ h4
    refine ⟨Rb ++ Rc, ⟨p, vs', xs, [], Ra, [], Rb, [], Rc, h0, h1, by simpa using a1, by simpa using b1, c1, rfl, rfl⟩, fun k hk => ?_⟩
    rcases List.mem_append.1 hk with hk | hk
    · rcases b2 k hk with h | h <;> simp [h]
    · rcases c2 k hk with h | h <;> simp [h]
  | lx, .po own e row r, d, vs, F, R, h => by
    obtain ⟨v, vs', F1, R1, F2, R2, h1, rfl, rfl, h4, h5⟩ := h
    obtain ⟨Rc, c1, c2⟩ := hold_lax lx r _ _ _ _ h4
    cases hd : prHd r d with
    | none =>
      rw [hd] at h5
      obtain ⟨g1, rfl, rfl⟩ := h5
      refine ⟨[] ++ Rc, ⟨v, vs', [], [], [], Rc, h1, rfl, rfl, c1, ?_⟩, fun k hk => ?_⟩
      · rw [hd]; exact ⟨g1, rfl, rfl⟩
      · simpa using c2 k hk
    | some x =>
      rw [hd] at h5
      obtain ⟨p, xs, F0, R0, g0, g1, g2, g3⟩ := h5
      obtain ⟨Ra, a1, a2⟩ := hold_lax _ row _ _ _ _ g2
      obtain ⟨Rb, b1, b2⟩ := boxH_lax' g3 a2
      refine ⟨Rb ++ Rc, ⟨v, vs', [], Rb, [], Rc, h1, rfl, rfl, c1, ?_⟩, fun k hk => ?_⟩
      · rw [hd]; exact ⟨p, xs, [], Ra, g0, g1, by simpa using a1, by simpa using b1⟩
      · rcases List.mem_append.1 hk with hk | hk
        · rcases b2 k hk with h | h <;> simp [h]
        · rcases c2 k hk with h | h <;> simp [h]
  | lx, .ag tg row r, d, vs, F, R, h => by
    obtain ⟨us, vs', F1, R1, F2, R2, h1, h2, h3, rfl, rfl⟩ := h
    obtain ⟨Ra, a1, a2⟩ := hold_lax lx row _ _ _ _ h2
    obtain ⟨Rc, c1, c2⟩ := hold_lax lx r _ _ _ _ h3
    refine ⟨Ra ++ Rc, ⟨us, vs', [], Ra, [], Rc, h1, a1, c1, rfl, rfl⟩, fun k hk => ?_⟩
    rcases List.mem_append.1 hk with hk | hk
    · rcases a2 k hk with h | h <;> simp [h]
    · rcases c2 k hk with h | h <;> simp [h]
  | lx, .mp k key row r, d, vs, F, R, h => by
    obtain ⟨v, vs', F1, R1, F2, R2, h1, h2, h3, rfl, rfl⟩ := h
    obtain ⟨Ra, a1, a2⟩ := objH_lax (Q := hold w true row) (fun d ys F R h => hold_lax lx row d ys F R h) h2
    obtain ⟨Rc, c1, c2⟩ := hold_lax lx r _ _ _ _ h3
    refine ⟨Ra ++ Rc, ⟨v, vs', [], Ra, [], Rc, h1, a1, c1, rfl, rfl⟩, fun k hk => ?_⟩
    rcases List.mem_append.1 hk with hk | hk
    · rcases a2 k hk with h | h <;> simp [h]
    · rcases c2 k hk with h | h <;> simp [h]

/-! Lengths; one cell a cell. -/
theorem rowsH_length {α : Type} {P : α → List Value → List Nat → List Nat → Prop} {s : Nat} (hP : ∀ d ys F R, P d ys F R → ys.length = s) : ∀ {l : List α} {xs : List Value} {F R : List Nat}, rowsH P l xs F R → xs.length = l.length * s
  | [], xs, F, R, h => by obtain ⟨rfl, _, _⟩ := h; simp
  | d :: l, xs, F, R, h => by
    obtain ⟨ys, zs, F1, F2, R1, R2, rfl, rfl, rfl, h1, h2⟩ := h
    have := rowsH_length hP h2
    have := hP _ _ _ _ h1
    simp only [List.length_append, List.length_cons, Nat.add_mul, Nat.one_mul]
    omega
theorem hold_length {w : World} : ∀ (lx : Bool) (sh : Sh) (d : Den sh) (vs : List Value) (F R : List Nat), hold w lx sh d vs F R → vs.length = sh.size
  | lx, .nil, d, vs, F, R, h => by obtain ⟨rfl, _, _⟩ := h; rfl
  | lx, .sc c r, d, vs, F, R, h => by
    obtain ⟨vs', rfl, h2, h3⟩ := h
    simp [Sh.size, hold_length lx r _ _ _ _ h3]
  | lx, .sl own e row r, d, vs, F, R, h => by
    obtain ⟨p, vs', xs, F0, R0, F1, R1, F2, R2, rfl, h2, h3, h4, rfl, rfl⟩ := h
    simp [Sh.size, hold_length lx r _ _ _ _ h4]
  | lx, .pt own e row r, d, vs, F, R, h => by
    obtain ⟨p, vs', xs, F0, R0, F1, R1, F2, R2, h0, rfl, h2, h3, h4, rfl, rfl⟩ := h
    simp [Sh.size, hold_length lx r _ _ _ _ h4]
  | lx, .po own e row r, d, vs, F, R, h => by
    obtain ⟨v, vs', F1, R1, F2, R2, rfl, rfl, rfl, h4, h5⟩ := h
    simp [Sh.size, hold_length lx r _ _ _ _ h4]
  | lx, .ag tg row r, d, vs, F, R, h => by
    obtain ⟨us, vs', F1, R1, F2, R2, rfl, h2, h3, rfl, rfl⟩ := h
    simp [Sh.size, hold_length lx r _ _ _ _ h3]
  | lx, .mp k key row r, d, vs, F, R, h => by
    obtain ⟨v, vs', F1, R1, F2, R2, rfl, h2, h3, rfl, rfl⟩ := h
    simp [Sh.size, hold_length lx r _ _ _ _ h3]
/-- Shapes of memory: no struct's value stands in one cell. -/
def Sh.mem : Sh → Bool
  | .nil => true
  | .sc _ r => r.mem
  | .sl _ _ row r => row.mem && r.mem
  | .pt _ _ row r => row.mem && r.mem
  | .po _ _ row r => row.mem && r.mem
  | .ag _ _ _ => false
  | .mp _ _ row r => row.mem && r.mem
theorem objH_one {own : Bool} {w : World} {κ α : Type} {K : κ → Value → Prop} {P : α → List Value → List Nat → List Nat → Prop} {F R : List Nat} : ∀ {k : Obk} {d : k.den (List (κ × α))} {v : Value}, objH own w K P k d v F R → v.oneCell' = true
  | .map, l, v, h => by obtain ⟨b, es, clk, F0, R0, rfl, _⟩ := h; rfl
  | .ob n, d, v, h => by obtain ⟨a, B, rfl, _⟩ := h; rfl
theorem one_val {v : Value} (h : oneCell (.v v) = true) : v.oneCell' = true := one_conc (E := fun _ => none) rfl h
theorem hold_ones {w : World} : ∀ (lx : Bool) (sh : Sh) (d : Den sh) (vs : List Value) (F R : List Nat), sh.mem = true → hold w lx sh d vs F R → ∀ v ∈ vs, v.oneCell' = true
  | lx, .nil, d, vs, F, R, _, h => by obtain ⟨rfl, _, _⟩ := h; simp
  | lx, .sc c r, d, vs, F, R, hm, h => by
    obtain ⟨vs', rfl, h2, h3⟩ := h
    intro v hv
    rcases List.mem_cons.1 hv with rfl | hv
    · exact one_val h2
    · exact hold_ones lx r _ _ _ _ hm h3 v hv
  | lx, .sl own e row r, d, vs, F, R, hm, h => by
    obtain ⟨p, vs', xs, F0, R0, F1, R1, F2, R2, rfl, h2, h3, h4, rfl, rfl⟩ := h
    simp only [Sh.mem, Bool.and_eq_true] at hm
    intro v hv
    rcases List.mem_cons.1 hv with rfl | hv
    · rfl
    · exact hold_ones lx r _ _ _ _ hm.2 h4 v hv
  | lx, .pt own e row r, d, vs, F, R, hm, h => by
    obtain ⟨p, vs', xs, F0, R0, F1, R1, F2, R2, h0, rfl, h2, h3, h4, rfl, rfl⟩ := h
    simp only [Sh.mem, Bool.and_eq_true] at hm
    intro v hv
    rcases List.mem_cons.1 hv with rfl | hv
    · rfl
    · exact hold_ones lx r _ _ _ _ hm.2 h4 v hv
  | lx, .po own e row r, d, vs, F, R, hm, h => by
    obtain ⟨v0, vs', F1, R1, F2, R2, rfl, rfl, rfl, h4, h5⟩ := h
    simp only [Sh.mem, Bool.and_eq_true] at hm
    intro v hv
    rcases List.mem_cons.1 hv with rfl | hv
    · cases hd : prHd r d with
      | none => rw [hd] at h5; rw [h5.1]; rfl
      | some x =>
        rw [hd] at h5
        obtain ⟨p, xs, F0, R0, g0, g1, g2, g3⟩ := h5
        rw [g1]; rfl
    · exact hold_ones lx r _ _ _ _ hm.2 h4 v hv
  | lx, .ag tg row r, d, vs, F, R, hm, h => by simp [Sh.mem] at hm
  | lx, .mp k key row r, d, vs, F, R, hm, h => by
    obtain ⟨v0, vs', F1, R1, F2, R2, rfl, h2, h4, rfl, rfl⟩ := h
    simp only [Sh.mem, Bool.and_eq_true] at hm
    intro v hv
    rcases List.mem_cons.1 hv with rfl | hv
    · exact objH_one h2
    · exact hold_ones lx r _ _ _ _ hm.2 h4 v hv
theorem rowsH_ones {α : Type} {P : α → List Value → List Nat → List Nat → Prop} (hP : ∀ d ys F R, P d ys F R → ∀ v ∈ ys, v.oneCell' = true) : ∀ {l : List α} {xs : List Value} {F R : List Nat}, rowsH P l xs F R → ∀ v ∈ xs, v.oneCell' = true
  | [], xs, F, R, h => by obtain ⟨rfl, _, _⟩ := h; simp
  | d :: l, xs, F, R, h => by
    obtain ⟨ys, zs, F1, F2, R1, R2, rfl, rfl, rfl, h1, h2⟩ := h
    intro v hv
    rcases List.mem_append.1 hv with hv | hv
    · exact hP _ _ _ _ h1 v hv
    · exact rowsH_ones hP h2 v hv

/-! Rows, parted and joined. -/
theorem rowsH_append {α : Type} {P : α → List Value → List Nat → List Nat → Prop} : ∀ {a b : List α} {xs : List Value} {F R : List Nat}, rowsH P (a ++ b) xs F R ↔ ∃ ys zs F1 F2 R1 R2, xs = ys ++ zs ∧ F = F1 ++ F2 ∧ R = R1 ++ R2 ∧ rowsH P a ys F1 R1 ∧ rowsH P b zs F2 R2
  | [], b, xs, F, R => by
    constructor
    · intro h; exact ⟨[], xs, [], F, [], R, rfl, rfl, rfl, ⟨rfl, rfl, rfl⟩, h⟩
    · rintro ⟨ys, zs, F1, F2, R1, R2, rfl, rfl, rfl, ⟨rfl, rfl, rfl⟩, h⟩; exact h
  | d :: a, b, xs, F, R => by
    simp only [List.cons_append, rowsH, rowsH_append (a := a)]
    constructor
    · rintro ⟨ys, _, F1, _, R1, _, rfl, rfl, rfl, h1, ys', zs, G1, G2, Q1, Q2, rfl, rfl, rfl, h2, h3⟩
      exact ⟨ys ++ ys', zs, F1 ++ G1, G2, R1 ++ Q1, Q2, by simp, by simp, by simp, ⟨ys, ys', F1, G1, R1, Q1, rfl, rfl, rfl, h1, h2⟩, h3⟩
    · rintro ⟨_, zs, _, F2, _, R2, rfl, rfl, rfl, ⟨ys, ys', F1, G1, R1, Q1, rfl, rfl, rfl, h1, h2⟩, h3⟩
      exact ⟨ys, ys' ++ zs, F1, G1 ++ F2, R1, Q1 ++ R2, by simp, by simp, by simp, h1, ys', zs, G1, F2, Q1, R2, rfl, rfl, rfl, h2, h3⟩
theorem rowsH_one {α : Type} {P : α → List Value → List Nat → List Nat → Prop} {d : α} {xs : List Value} {F R : List Nat} : rowsH P [d] xs F R ↔ P d xs F R := by
  constructor
  · rintro ⟨ys, zs, F1, F2, R1, R2, rfl, rfl, rfl, h1, rfl, rfl, rfl⟩
    simpa using h1
  · intro h
    exact ⟨xs, [], F, [], R, [], by simp, by simp, by simp, h, rfl, rfl, rfl⟩
end Go.Proofs.YtpfbpcaehmhefaaDoorB.Sx
