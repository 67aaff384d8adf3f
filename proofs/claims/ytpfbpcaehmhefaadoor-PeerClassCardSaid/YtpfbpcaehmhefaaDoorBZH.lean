/- The engine, part H: data gathered from cells and named blocks. -/
import Derived.Test.YtpfbpcaehmhefaaDoorBZG
namespace Go.Proofs.YtpfbpcaehmhefaaDoorB.Sx
open Go.RowKit
set_option linter.unusedSimpArgs false
set_option linter.unusedVariables false

/-- The contents that may be read. -/
def AB.cont : AB → Option M
  | .own x => some x
  | .ro x => some x
  | _ => none
/-- Rows r to r + n. -/
def subL {α : Type} (l : List α) (r n : Nat) : List α := (l.drop r).take n
theorem subL_length {α : Type} {l : List α} {r n : Nat} (h : r + n ≤ l.length) : (subL l r n).length = n := by simp [subL]; omega
theorem subL_all {α : Type} (l : List α) : subL l 0 l.length = l := by simp [subL]
theorem subL_zero {α : Type} (l : List α) (n : Nat) : subL l 0 n = l.take n := rfl

/-- What is gathered: the data, the names of own memory that goes with them, the names of other memory. -/
abbrev Gt (α : Type) := T (Option (α × List Nat × List Nat))
def noG {α : Type} : Gt α := .leaf none
def gatRows {α : Type} (g : List AV → Gt α) (s : Nat) : Nat → List AV → Gt (List α)
  | 0, cs => match cs with | [] => .leaf (some ([], [], [])) | _ => noG
  | n + 1, cs => (g (cs.take s)).bindO fun a => (gatRows g s n (cs.drop s)).mapO fun b => (a.1 :: b.1, a.2.1 ++ b.2.1, a.2.2 ++ b.2.2)
def gatM (row : Sh) (g : List AV → Gt (Den row)) : M → Gt (List (Den row))
  | .raw _ s cs => bif Nat.beq s row.size && Nat.blt 0 s then gatRows g s (cs.length / s) cs else noG
  | .rows _ sh l => if h : sh = row then .leaf (some (h ▸ l, [], [])) else noG
  | .hol _ sh l i _ cs => if h : sh = row then (g cs).mapO fun a => ((h ▸ l).set i a.1, a.2.1, a.2.2) else noG
def gatB (lk : Nat → Option AB) (own : Bool) (e : TypeId) (row : Sh) (g : List AV → Gt (Den row)) (n : Nat) : Gt (List (Den row)) :=
  match own with
  | true => match lk n with
    | some (.own y) => bif Nat.beq y.e e then (gatM row g y).mapO fun a => (a.1, n :: a.2.1, a.2.2) else noG
    | _ => noG
  | false => match (lk n).bind AB.cont with
    | some y => (gatM row g y).mapO fun a => (a.1, [], n :: (a.2.1 ++ a.2.2))
    | none => noG
def whenG {α : Type} (b : Bool) (x : α × List Nat × List Nat) : Gt α := T.when b (.leaf (some x))
/-- A slice goes through cells of rows of another size (an array's), and is read only. -/
def crossB (lk : Nat → Option AB) (own : Bool) (n size : Nat) : Bool := !own && (match (lk n).bind AB.cont with | some (.raw _ s _) => !Nat.beq s size | _ => false)
def gatCr (lk : Nat → Option AB) (row : Sh) (g : List AV → Gt (Den row)) (n r o len : Nat) (c : Option Nat) : Gt (List (Den row)) :=
  match (lk n).bind AB.cont, c with
  | some (.raw _ s cs), some k => bif Nat.ble (r * s + o + len * row.size) cs.length && Nat.ble len k && Nat.blt 0 row.size then
      (gatRows g row.size len ((cs.drop (r * s + o)).take (len * row.size))).mapO fun b => (b.1, [], n :: (b.2.1 ++ b.2.2)) else noG
  | _, _ => noG
def gatS (lk : Nat → Option AB) (own : Bool) (e : TypeId) (row : Sh) (g : List AV → Gt (Den row)) (v : AV) : Gt (List (Den row)) :=
  match v with
  | .v (.slice none 0 0) => bif Nat.blt 0 row.size then .leaf (some ([], [], [])) else noG
  | .sl n r o len c =>
    bif crossB lk own n row.size then gatCr lk row g n r o len c else
    bif Nat.beq o 0 then
      (gatB lk own e row g n).bindO fun a => whenG (decide (r + len ≤ a.1.length) && (match c with | some k => decide (len ≤ k) && (!own || decide (r + k ≤ a.1.length)) | none => true)) (subL a.1 r len, a.2)
    else noG
  | .se n r0 r => (gatB lk own e row g n).bindO fun a => whenG (decide (r0 ≤ r ∧ r ≤ a.1.length)) (subL a.1 r 0, a.2)
  | _ => noG
def gatP (lk : Nat → Option AB) (own : Bool) (e : TypeId) (row : Sh) (g : List AV → Gt (Den row)) (v : AV) : Gt (Den row) :=
  match v with
  | .ptr n r o => bif Nat.beq o 0 && Nat.beq r 0 then (gatB lk own e row g n).bindO fun a => match a.1 with | [d] => .leaf (some (d, a.2)) | _ => noG else noG
  | _ => noG
def aggOf (tg : Option FuncId) (v : AV) : Option (List AV) :=
  match tg with
  | none => match v with
    | .agg cs => some cs
    | .v (.agg cs) => some (cs.toList.map .v)
    | _ => none
  | some f => match v with
    | .func (.func g) [] cs => bif Nat.beq g f then some cs else none
    | .v (.func (.func g) ⟨[]⟩ ⟨cs⟩) => bif Nat.beq g f then some (cs.map .v) else none
    | _ => none
def decFV : (sh : Sh) → List Value → Option (Den sh)
  | .nil, [] => some ()
  | .sc c r, v :: vs => match c.dec v, decFV r vs with | some x, some d => some (prMk r x d) | _, _ => none
  | _, _ => none
theorem decFV_enc : ∀ {sh : Sh} {vs : List Value} {d : Den sh}, decFV sh vs = some d → encF sh d = vs
  | .nil, [], d, h => rfl
  | .nil, _ :: _, d, h => by simp [decFV] at h
  | .sc c r, [], d, h => by simp [decFV] at h
  | .sc c r, v :: vs, d, h => by
    simp only [decFV] at h
    split at h
    case h_2 => cases h
    rename_i x y hx hy
    cases h
    simp only [encF, prHd_mk, prTl_mk, decFV_enc hy, (Ck.dec_enc hx).1]
  | .sl .., vs, d, h => by cases vs <;> simp [decFV] at h
  | .pt .., vs, d, h => by cases vs <;> simp [decFV] at h
  | .po .., vs, d, h => by cases vs <;> simp [decFV] at h
  | .ag .., vs, d, h => by cases vs <;> simp [decFV] at h
  | .mp .., vs, d, h => by cases vs <;> simp [decFV] at h
/-- A key, read. -/
def decK : (sh : Sh) → Value → Option (Den sh)
  | .sc c .nil, v => c.dec v
  | .ag none row .nil, v => match v with
    | .agg cs => decFV row cs.toList
    | _ => none
  | _, _ => none
theorem decK_enc {sh : Sh} {v : Value} {d : Den sh} (h : decK sh v = some d) : encK sh d = v := by
  unfold decK at h
  split at h
  · exact (Ck.dec_enc h).1
  · split at h
    · have := decFV_enc h
      simp only [encK, prHd]
      rw [this]
    · cases h
  · cases h
/-- The names of an object that is gathered. -/
def nmO (own : Bool) (n : Nat) (a b : List Nat) : List Nat × List Nat :=
  match own with
  | true => (n :: a, b)
  | false => ([], n :: (a ++ b))
def gatE {α : Type} (key : Sh) (g : List AV → Gt α) : List (AV × AV × Nat) → Gt (List (Den key × α))
  | [] => .leaf (some ([], [], []))
  | (k, v, _) :: es => match (plain k).bind (decK key) with
    | some x => (g [v]).bindO fun a => (gatE key g es).mapO fun b => ((x, a.1) :: b.1, a.2.1 ++ b.2.1, a.2.2 ++ b.2.2)
    | none => noG
/-- Entry i's value, put. -/
def setV {key row : Sh} (l : List (Den key × Den row)) (i : Nat) (d : Den row) : List (Den key × Den row) := l.set i ((l.getD i (dflt key, dflt row)).1, d)
def gatO (lk : Nat → Option AB) (own : Bool) (key row : Sh) (g : List AV → Gt (Den row)) : (k : Obk) → AV → Gt (k.den (List (Den key × Den row)))
  | .map, v => match v with
    | .mapr n => match lk n with
      | some (.obj o .map key' row' l) => if h1 : key' = key then if h2 : row' = row then bif o || !own then .leaf (some (h1 ▸ h2 ▸ l, nmO own n [] [])) else noG else noG else noG
      | some (.mph o key' row' l i x) => if h1 : key' = key then if h2 : row' = row then bif o || !own then (g [x]).mapO fun a => (setV (h1 ▸ h2 ▸ l) i a.1, nmO own n a.2.1 a.2.2) else noG else noG else noG
      | some (.mp es _) => (gatE key g es).mapO fun a => (a.1, nmO own n a.2.1 a.2.2)
      | _ => noG
    | _ => noG
  | .ob j, v => match v with
    | .un n => match lk n with
      | some (.obj o (.ob j') _ _ d) => if h : j' = j then bif o || !own then .leaf (some (h ▸ d, nmO own n [] [])) else noG else noG
      | _ => noG
    | _ => noG
def gat (lk : Nat → Option AB) (lx : Bool) : (sh : Sh) → List AV → Gt (Den sh)
  | .nil, cs => match cs with | [] => .leaf (some ((), [], [])) | _ => noG
  | .sc c r, cs => match cs with
    | v :: vs => match (plain v).bind c.dec with
      | some x => (gat lk lx r vs).mapO fun a => (prMk r x a.1, a.2)
      | none => noG
    | [] => noG
  | .sl own e row r, cs => match cs with
    | v :: vs => (gatS lk (own && !lx) e row (gat lk (lx || !own) row) v).bindO fun a => (gat lk lx r vs).mapO fun b => (prMk r a.1 b.1, a.2.1 ++ b.2.1, a.2.2 ++ b.2.2)
    | [] => noG
  | .pt own e row r, cs => match cs with
    | v :: vs => (gatP lk (own && !lx) e row (gat lk (lx || !own) row) v).bindO fun a => (gat lk lx r vs).mapO fun b => (prMk r a.1 b.1, a.2.1 ++ b.2.1, a.2.2 ++ b.2.2)
    | [] => noG
  | .po own e row r, cs => match cs with
    | .v (.pointer none) :: vs => (gat lk lx r vs).mapO fun b => (prMk r none b.1, b.2)
    | v :: vs => (gatP lk (own && !lx) e row (gat lk (lx || !own) row) v).bindO fun a => (gat lk lx r vs).mapO fun b => (prMk r (some a.1) b.1, a.2.1 ++ b.2.1, a.2.2 ++ b.2.2)
    | [] => noG
  | .mp k key row r, cs => match cs with
    | v :: vs => (gatO lk (!lx) key row (gat lk lx row) k v).bindO fun a => (gat lk lx r vs).mapO fun b => (prMk r a.1 b.1, a.2.1 ++ b.2.1, a.2.2 ++ b.2.2)
    | [] => noG
  | .ag tg row r, cs => match cs with
    | v :: vs => match aggOf tg v with
      | some us => (gat lk lx row us).bindO fun a => (gat lk lx r vs).mapO fun b => (prMk r a.1 b.1, a.2.1 ++ b.2.1, a.2.2 ++ b.2.2)
      | none => noG
    | [] => noG

/-! ### Soundness -/
theorem get_noG {α : Type} {a : α × List Nat × List Nat} {p : Prop} (h : (noG : Gt α).get = some a) : p := by simp [noG, T.get] at h
theorem objH_false_nil {w : World} {κ α : Type} {K : κ → Value → Prop} {P : α → List Value → List Nat → List Nat → Prop} {F R : List Nat} : ∀ {k : Obk} {d : k.den (List (κ × α))} {v : Value}, objH false w K P k d v F R → F = []
  | .map, l, v, h => by obtain ⟨b, es, clk, F0, R0, _, _, _, _, rfl, _⟩ := h; rfl
  | .ob n, d, v, h => by obtain ⟨a, B, _, _, rfl, _⟩ := h; rfl
theorem hold_true_nil {w : World} : ∀ (sh : Sh) (d : Den sh) (vs : List Value) (F R : List Nat), hold w true sh d vs F R → F = []
  | .nil, d, vs, F, R, h => h.2.1
  | .sc c r, d, vs, F, R, h => by obtain ⟨vs', _, _, h3⟩ := h; exact hold_true_nil r _ _ _ _ h3
  | .sl own e row r, d, vs, F, R, h => by
    obtain ⟨p, vs', xs, F0, R0, F1, R1, F2, R2, h1, h2, h3, h4, rfl, rfl⟩ := h
    simp only [Bool.not_true, Bool.and_false] at h3
    obtain ⟨_, _, _, _, _, _, rfl, _⟩ := h3
    rw [hold_true_nil r _ _ _ _ h4]; rfl
  | .pt own e row r, d, vs, F, R, h => by
    obtain ⟨p, vs', xs, F0, R0, F1, R1, F2, R2, h0, h1, h2, h3, h4, rfl, rfl⟩ := h
    simp only [Bool.not_true, Bool.and_false] at h3
    obtain ⟨_, _, _, _, _, _, rfl, _⟩ := h3
    rw [hold_true_nil r _ _ _ _ h4]; rfl
  | .po own e row r, d, vs, F, R, h => by
    obtain ⟨v, vs', F1, R1, F2, R2, h1, rfl, rfl, h4, h5⟩ := h
    rw [hold_true_nil r _ _ _ _ h4]
    cases hd : prHd r d with
    | none => rw [hd] at h5; rw [h5.2.1]; rfl
    | some x =>
      rw [hd] at h5
      obtain ⟨p, xs, F0, R0, g0, g1, g2, g3⟩ := h5
      simp only [Bool.not_true, Bool.and_false] at g3
      obtain ⟨_, _, _, _, _, _, rfl, _⟩ := g3
      rfl
  | .mp k key row r, d, vs, F, R, h => by
    obtain ⟨v, vs', F1, R1, F2, R2, h1, h2, h3, rfl, rfl⟩ := h
    rw [hold_true_nil r _ _ _ _ h3, objH_false_nil h2]; rfl
  | .ag tg row r, d, vs, F, R, h => by
    obtain ⟨us, vs', F1, R1, F2, R2, h1, h2, h3, rfl, rfl⟩ := h
    rw [hold_true_nil row _ _ _ _ h2, hold_true_nil r _ _ _ _ h3]; rfl
theorem rowsH_true_nil {w : World} {sh : Sh} : ∀ {l : List (Den sh)} {xs : List Value} {F R : List Nat}, rowsH (hold w true sh) l xs F R → F = []
  | [], xs, F, R, h => h.2.1
  | d :: l, xs, F, R, h => by
    obtain ⟨ys, zs, F1, F2, R1, R2, rfl, rfl, rfl, h1, h2⟩ := h
    rw [hold_true_nil sh _ _ _ _ h1, rowsH_true_nil h2]; rfl
theorem rowsH_sub {α : Type} {P : α → List Value → List Nat → List Nat → Prop} {s : Nat} (hP : ∀ d ys F R, P d ys F R → ys.length = s) {l : List α} {xs : List Value} {F R : List Nat} (h : rowsH P l xs F R) {r n : Nat} (hr : r + n ≤ l.length) :
    ∃ F' R', rowsH P (subL l r n) ((xs.drop (r * s)).take (n * s)) F' R' ∧ (∀ k ∈ F', k ∈ F) ∧ (∀ k ∈ R', k ∈ R) ∧ (F.Nodup → F'.Nodup) := by
  have e1 : l = l.take r ++ (subL l r n ++ (l.drop r).drop n) := by rw [subL, List.take_append_drop, List.take_append_drop]
  rw [e1] at h
  obtain ⟨ys, _, F1, _, R1, _, rfl, rfl, rfl, h1, h2⟩ := rowsH_append.1 h
  obtain ⟨zs, us, F2, F3, R2, R3, rfl, rfl, rfl, h3, h4⟩ := rowsH_append.1 h2
  have l1 := rowsH_length hP h1
  have l2 := rowsH_length hP h3
  rw [subL_length hr] at l2
  rw [List.length_take, Nat.min_eq_left (by omega)] at l1
  refine ⟨F2, R2, ?_, fun k hk => by simp [hk], fun k hk => by simp [hk], fun hn => (List.nodup_append.1 (List.nodup_append.1 hn).2.1).1⟩
  rw [← l1, List.drop_left, ← l2, List.take_left]
  exact h3

theorem rowAt_cap {w : World} {e : TypeId} {size n k : Nat} {p : Pl} {xs : List Value} (h : rowAt w e size p n xs) (h1 : n ≤ k) (h2 : k ≤ p.cap) : rowAt w e size { p with cap := k } n xs := by
  obtain ⟨g1, g2, g3, g4⟩ := h
  refine ⟨g1, g2, g3, ?_⟩
  rcases g4 with ⟨hn, h0, hc⟩ | ⟨hn, cur, c1, c2, c3, c4, c5⟩
  · exact .inl ⟨hn, h0, by show k = 0; have := hc.1; omega, hc.2⟩
  · have : k * size ≤ p.cap * size := Nat.mul_le_mul_right _ h2
    exact .inr ⟨hn, cur, c1, h1, by show k ≤ maxLen; omega, by show p.base + k * size ≤ cur.size; omega, c5⟩
theorem rowAt_sub {w : World} {e : TypeId} {size n : Nat} {p : Pl} {xs : List Value} (h : rowAt w e size p n xs) {r len : Nat} (hl : r + len ≤ n) : rowAt w e size { p with base := p.base + r * p.stride, cap := p.cap - r } len ((xs.drop (r * size)).take (len * size)) := by
  obtain ⟨h1, h2, h3, h4⟩ := h
  have hle : (r + len) * size ≤ n * size := Nat.mul_le_mul_right _ hl
  rw [Nat.add_mul] at hle
  refine ⟨?_, h2, h3, ?_⟩
  · rw [List.length_take, List.length_drop, h1]; omega
  · rcases h4 with ⟨hn, h0, hc⟩ | ⟨hn, cur, g1, g2, g3, g4, g5⟩
    · left
      refine ⟨hn, by omega, ?_, hc.2⟩
      simp only [hc.1]; omega
    · right
      refine ⟨hn, cur, g1, ?_, ?_, ?_, ?_⟩
      · simp only; omega
      · simp only; omega
      · simp only [h2]
        rw [Nat.sub_mul]
        have : r * size ≤ p.cap * size := Nat.mul_le_mul_right _ (by omega)
        omega
      · simp only [h2]
        rw [← g5, List.drop_take, List.take_take, List.drop_drop, Nat.min_eq_left (by omega)]

section
variable {E : Env} {lk : Nat → Option AB} {w : World} {FF RR : Nat → List Nat}
/-- Where the own memory of gathered data lies: with its names. -/
def InF (lk : Nat → Option AB) (FF : Nat → List Nat) (F : List Nat) (ns : List Nat) : Prop := ∀ k ∈ F, ∃ m ∈ ns, (lk m).isSome = true ∧ k ∈ FF m
def InR (lk : Nat → Option AB) (FF RR : Nat → List Nat) (R : List Nat) (ns ms : List Nat) : Prop := ∀ k ∈ R, (∃ m ∈ ms, (lk m).isSome = true ∧ (k ∈ FF m ∨ k ∈ RR m)) ∨ (∃ m ∈ ns, (lk m).isSome = true ∧ k ∈ RR m)
theorem InF.append {F1 F2 ns1 ns2 : List Nat} (h1 : InF lk FF F1 ns1) (h2 : InF lk FF F2 ns2) : InF lk FF (F1 ++ F2) (ns1 ++ ns2) := by
  intro k hk
  rcases List.mem_append.1 hk with hk | hk
  · obtain ⟨m, hm, h⟩ := h1 k hk; exact ⟨m, by simp [hm], h⟩
  · obtain ⟨m, hm, h⟩ := h2 k hk; exact ⟨m, by simp [hm], h⟩
theorem InR.append {F1 F2 ns1 ns2 ms1 ms2 : List Nat} (h1 : InR lk FF RR F1 ns1 ms1) (h2 : InR lk FF RR F2 ns2 ms2) : InR lk FF RR (F1 ++ F2) (ns1 ++ ns2) (ms1 ++ ms2) := by
  intro k hk
  rcases List.mem_append.1 hk with hk | hk
  · rcases h1 k hk with ⟨m, hm, h⟩ | ⟨m, hm, h⟩
    · exact .inl ⟨m, by simp [hm], h⟩
    · exact .inr ⟨m, by simp [hm], h⟩
  · rcases h2 k hk with ⟨m, hm, h⟩ | ⟨m, hm, h⟩
    · exact .inl ⟨m, by simp [hm], h⟩
    · exact .inr ⟨m, by simp [hm], h⟩
theorem nodup_two (G : Gc E lk w FF RR) {F1 F2 ns1 ns2 : List Nat} (h1 : InF lk FF F1 ns1) (h2 : InF lk FF F2 ns2) (n1 : ns1.Nodup → F1.Nodup) (n2 : ns2.Nodup → F2.Nodup) (hn : (ns1 ++ ns2).Nodup) : (F1 ++ F2).Nodup := by
  rw [List.nodup_append] at hn ⊢
  refine ⟨n1 hn.1, n2 hn.2.1, ?_⟩
  intro a ha b hb e
  subst e
  obtain ⟨m, hm, s1, k1⟩ := h1 a ha
  obtain ⟨m', hm', s2, k2⟩ := h2 a hb
  obtain ⟨b1, hb1⟩ := Option.isSome_iff_exists.1 s1
  obtain ⟨b2, hb2⟩ := Option.isSome_iff_exists.1 s2
  exact hn.2.2 m hm m' hm' (G.dist m m' b1 b2 a hb1 hb2 k1 k2)
/-- What gathering gives. -/
structure Got {α : Type} (lk : Nat → Option AB) (FF RR : Nat → List Nat) (P : α → List Value → List Nat → List Nat → Prop) (vs : List Value) (a : α × List Nat × List Nat) (F R : List Nat) : Prop where
  data : P a.1 vs F R
  inF : InF lk FF F a.2.1
  inR : InR lk FF RR R a.2.1 a.2.2
  nodup : a.2.1.Nodup → F.Nodup
def GOk {α : Type} (E : Env) (lk : Nat → Option AB) (FF RR : Nat → List Nat) (P : α → List Value → List Nat → List Nat → Prop) (g : List AV → Gt α) : Prop :=
  ∀ cs vs a, concs E cs = some vs → (g cs).get = some a → ∃ F R, Got lk FF RR P vs a F R
theorem gatRows_ok {α : Type} (G : Gc E lk w FF RR) {P : α → List Value → List Nat → List Nat → Prop} {g : List AV → Gt α} (hg : GOk E lk FF RR P g) {s : Nat} : ∀ (n : Nat) (cs : List AV) (vs : List Value) (a : List α × List Nat × List Nat), concs E cs = some vs → (gatRows g s n cs).get = some a →
    a.1.length = n ∧ ∃ F R, Got lk FF RR (rowsH P) vs a F R
  | 0, cs, vs, a, hc, h => by
    simp only [gatRows] at h
    split at h
    · simp only [T.get, Option.some.injEq] at h
      subst h
      simp only [concs, Option.some.injEq] at hc
      subst hc
      exact ⟨rfl, [], [], ⟨rfl, rfl, rfl⟩, fun k hk => by simp at hk, fun k hk => by simp at hk, fun _ => List.nodup_nil⟩
    · exact get_noG h
  | n + 1, cs, vs, a, hc, h => by
    simp only [gatRows] at h
    obtain ⟨a1, h1, h⟩ := T.get_bindO h
    obtain ⟨a2, h2, rfl⟩ := T.get_mapO h
    obtain ⟨F1, R1, g1⟩ := hg _ _ _ (concs_take s hc) h1
    obtain ⟨hl, F2, R2, g2⟩ := gatRows_ok G hg n _ _ _ (concs_drop s hc) h2
    refine ⟨by simp [hl], F1 ++ F2, R1 ++ R2, ⟨_, _, F1, F2, R1, R2, (List.take_append_drop s vs).symm, rfl, rfl, g1.data, g2.data⟩, g1.inF.append g2.inF, g1.inR.append g2.inR, fun hn => nodup_two G g1.inF g2.inF g1.nodup g2.nodup hn⟩

theorem reads_lax {sh : Sh} {l : List (Den sh)} {lx : Bool} {vs : List Value} {F R : List Nat} (h : rowsH (hold w lx sh) l vs F R) : ∃ R', rowsH (hold w true sh) l vs [] R' ∧ ∀ k ∈ R', k ∈ F ∨ k ∈ R := rowsH_lax (fun d ys F R h => hold_lax lx sh d ys F R h) h
/-- What gathering from contents gives; F0, R0: what the contents lead to. -/
structure GotM {α : Type} (lx : Bool) (lk : Nat → Option AB) (FF RR : Nat → List Nat) (P : α → List Value → List Nat → List Nat → Prop) (vs : List Value) (a : α × List Nat × List Nat) (F0 R0 F R : List Nat) : Prop where
  data : P a.1 vs F R
  inF : ∀ k ∈ F, k ∈ F0 ∨ ∃ m ∈ a.2.1, (lk m).isSome = true ∧ k ∈ FF m
  inR : ∀ k ∈ R, ((lx = true ∧ k ∈ F0) ∨ k ∈ R0) ∨ (∃ m ∈ a.2.2, (lk m).isSome = true ∧ (k ∈ FF m ∨ k ∈ RR m)) ∨ (∃ m ∈ a.2.1, (lk m).isSome = true ∧ k ∈ RR m)
  nodup : F0.Nodup → a.2.1.Nodup → (∀ k ∈ F0, ∀ m ∈ a.2.1, (lk m).isSome = true → k ∉ FF m) → F.Nodup
theorem gatM_ok (G : Gc E lk w FF RR) {lx ly : Bool} (hxy : ly = false ∨ lx = true) {row : Sh} {g : List AV → Gt (Den row)} (hg : GOk E lk FF RR (hold w lx row) g) (hx : lx = true → ∀ cs a, (g cs).get = some a → a.2.1 = []) {y : M} {vs : List Value} {F0 R0 : List Nat} {a : List (Den row) × List Nat × List Nat}
    (hr : y.reads E w ly vs F0 R0) (h : (gatM row g y).get = some a) : a.1.length = y.len ∧ y.size = row.size ∧ (lx = true → a.2.1 = []) ∧ ∃ F R, GotM lx lk FF RR (rowsH (hold w lx row)) vs a F0 R0 F R := by
  cases y with
  | raw e s cs =>
    simp only [gatM] at h
    cases hb : (Nat.beq s row.size && Nat.blt 0 s) with
    | false => rw [hb] at h; exact get_noG h
    | true =>
      rw [hb] at h
      simp only [cond_true] at h
      simp only [Bool.and_eq_true] at hb
      obtain ⟨hc, rfl, rfl⟩ := hr
      obtain ⟨hl, F, R, q⟩ := gatRows_ok G hg _ _ _ _ hc h
      have hnil : lx = true → a.2.1 = [] := by
        intro hlx
        have hx := hx hlx
        clear q hl hc
        generalize cs.length / s = n at h
        induction n generalizing cs a with
        | zero =>
          simp only [gatRows] at h
          split at h
          · simp only [T.get, Option.some.injEq] at h; subst h; rfl
          · exact get_noG h
        | succ n ih =>
          simp only [gatRows] at h
          obtain ⟨a1, h1, h⟩ := T.get_bindO h
          obtain ⟨a2, h2, rfl⟩ := T.get_mapO h
          simp [hx _ _ h1, ih _ h2]
      refine ⟨hl, Nat.eq_of_beq_eq_true hb.1, hnil, F, R, q.data, fun k hk => .inr (q.inF k hk), fun k hk => .inr (q.inR k hk), fun _ hn _ => q.nodup hn⟩
  | rows e sh l =>
    simp only [gatM] at h
    split at h
    case isFalse => exact get_noG h
    rename_i he
    subst he
    simp only [T.get, Option.some.injEq] at h
    subst h
    refine ⟨rfl, rfl, fun _ => rfl, ?_⟩
    cases hlx : lx with
    | true =>
      obtain ⟨R', h1, h2⟩ := reads_lax hr
      exact ⟨[], R', h1, fun k hk => by simp at hk, fun k hk => .inl ((h2 k hk).imp (fun h => ⟨rfl, h⟩) id), fun _ _ _ => List.nodup_nil⟩
    | false =>
      rcases hxy with hxy | hxy
      · subst hxy
        exact ⟨F0, R0, hr, fun k hk => .inl hk, fun k hk => .inl (.inr hk), fun hn _ _ => hn⟩
      · rw [hlx] at hxy; cases hxy
  | hol e sh l i q cs =>
    simp only [gatM] at h
    split at h
    case isFalse => exact get_noG h
    rename_i he
    subst he
    obtain ⟨b, hb, rfl⟩ := T.get_mapO h
    obtain ⟨v1, us, v2, F1, R1, F2, R2, rfl, rfl, rfl, hi, h1, h2, h3, h4⟩ := hr
    obtain ⟨Fg, Rg, q1⟩ := hg _ _ _ h2 hb
    refine ⟨by simp [M.len], rfl, fun hlx => hx hlx _ _ hb, ?_⟩
    have hset : l.set i b.1 = l.take i ++ b.1 :: l.drop (i + 1) := by
      rw [List.set_eq_take_append_cons_drop, if_pos hi]
    have hnb : lx = true → b.2.1 = [] := fun hlx => hx hlx _ _ hb
    cases hlx : lx with
    | true =>
      subst hlx
      obtain ⟨R1', a1, a2⟩ := reads_lax h1
      obtain ⟨R2', b1, b2⟩ := reads_lax h4
      have hFg : Fg = [] := hold_true_nil _ _ _ _ _ q1.data
      subst hFg
      refine ⟨[], R1' ++ (Rg ++ R2'), ?_, fun k hk => by simp at hk, fun k hk => ?_, fun _ _ _ => List.nodup_nil⟩
      · show rowsH _ (l.set i b.1) _ _ _
        rw [hset]
        exact rowsH_append.2 ⟨v1, us ++ v2, [], [], R1', Rg ++ R2', by simp, rfl, rfl, a1, us, v2, [], [], Rg, R2', rfl, rfl, rfl, q1.data, b1⟩
      · rcases List.mem_append.1 hk with hk | hk
        · rcases a2 k hk with h | h
          · exact .inl (.inl ⟨rfl, by simp [h]⟩)
          · exact .inl (.inr (by simp [h]))
        · rcases List.mem_append.1 hk with hk | hk
          · exact .inr (q1.inR k hk)
          · rcases b2 k hk with h | h
            · exact .inl (.inl ⟨rfl, by simp [h]⟩)
            · exact .inl (.inr (by simp [h]))
    | false =>
      subst hlx
      rcases hxy with hxy | hxy
      case inr => cases hxy
      subst hxy
      refine ⟨F1 ++ (Fg ++ F2), R1 ++ (Rg ++ R2), ?_, fun k hk => ?_, fun k hk => ?_, fun hn0 hn hdj => ?_⟩
      · show rowsH _ (l.set i b.1) _ _ _
        rw [hset]
        exact rowsH_append.2 ⟨v1, us ++ v2, F1, Fg ++ F2, R1, Rg ++ R2, by simp, rfl, rfl, h1, us, v2, Fg, F2, Rg, R2, rfl, rfl, rfl, q1.data, h4⟩
      · rcases List.mem_append.1 hk with hk | hk
        · exact .inl (by simp [hk])
        · rcases List.mem_append.1 hk with hk | hk
          · exact .inr (q1.inF k hk)
          · exact .inl (by simp [hk])
      · rcases List.mem_append.1 hk with hk | hk
        · exact .inl (by simp [hk])
        · rcases List.mem_append.1 hk with hk | hk
          · exact .inr (q1.inR k hk)
          · exact .inl (by simp [hk])
      · have hFg := q1.nodup hn
        have hd : ∀ k ∈ F1 ++ F2, k ∉ Fg := by
          intro k hk hk'
          obtain ⟨m, hm, s1, s2⟩ := q1.inF k hk'
          exact hdj k hk m hm s1 s2
        rw [List.nodup_append] at hn0 ⊢
        refine ⟨hn0.1, ?_, ?_⟩
        · rw [List.nodup_append]
          exact ⟨hFg, hn0.2.1, fun a ha b hb e => by subst e; exact hd a (by simp [hb]) ha⟩
        · intro a ha b hb e
          subst e
          rcases List.mem_append.1 hb with hb | hb
          · exact hd a (by simp [ha]) hb
          · exact hn0.2.2 a ha a hb rfl

/-- The block of a name, its rows gathered. -/
theorem gatB_ok (G : Gc E lk w FF RR) {own lx : Bool} (hxo : lx = !own) {e : TypeId} {row : Sh} {g : List AV → Gt (Den row)} (hg : GOk E lk FF RR (hold w lx row) g) (hx : lx = true → ∀ cs a, (g cs).get = some a → a.2.1 = []) {n : Nat} {a : List (Den row) × List Nat × List Nat}
    (h : (gatB lk own e row g n).get = some a) : ∃ p xs F0 R0 F R, E n = some p ∧ rowsH (hold w lx row) a.1 xs F0 R0 ∧ boxH own w e row.size p a.1.length xs F0 R0 F R ∧ InF lk FF F a.2.1 ∧ InR lk FF RR R a.2.1 a.2.2 ∧ (a.2.1.Nodup → F.Nodup) ∧ (own = false → a.2.1 = []) := by
  subst hxo
  unfold gatB at h
  cases own with
  | true =>
    simp only at h
    split at h
    case h_2 => exact get_noG h
    rename_i y hy
    cases hb : Nat.beq y.e e with
    | false => rw [hb] at h; exact get_noG h
    | true =>
      rw [hb] at h
      simp only [cond_true] at h
      have hb := Nat.eq_of_beq_eq_true hb
      obtain ⟨b, hb1, rfl⟩ := T.get_mapO h
      obtain ⟨p, hp, hl, vs, F0, R0, hr, hbox⟩ := G.holds n _ hy
      obtain ⟨e1, e2, e3, F, R, q⟩ := gatM_ok G (.inl rfl) hg hx hr hb1
      obtain ⟨hrow, hF, hR⟩ := hbox
      rw [hb, e2, ← e1] at hrow
      have hsome : (lk n).isSome = true := by rw [hy]; rfl
      refine ⟨p, vs, F, R, blkO p ++ F, R, hp, q.data, ⟨hrow, rfl, rfl⟩, ?_, ?_, ?_, fun h => by cases h⟩
      · intro k hk
        rcases List.mem_append.1 hk with hk | hk
        · exact ⟨n, by simp, hsome, by rw [hF]; simp [hk]⟩
        · rcases q.inF k hk with h | ⟨m, hm, h⟩
          · exact ⟨n, by simp, hsome, by rw [hF]; simp [h]⟩
          · exact ⟨m, by simp [hm], h⟩
      · intro k hk
        rcases q.inR k hk with (⟨h, _⟩ | h) | h | ⟨m, hm, h⟩
        · cases h
        · exact .inr ⟨n, by simp, hsome, by rw [hR]; exact h⟩
        · exact .inl h
        · exact .inr ⟨m, by simp [hm], h⟩
      · intro hn
        simp only [List.nodup_cons] at hn
        have hF' := G.nodup n _ hy
        rw [hF, List.nodup_append] at hF'
        have hdj : ∀ k ∈ blkO p ++ F0, ∀ m ∈ b.2.1, (lk m).isSome = true → k ∉ FF m := by
          intro k hk m hm s1 s2
          obtain ⟨c, hc⟩ := Option.isSome_iff_exists.1 s1
          have := G.dist n m _ c k hy hc (by rw [hF]; exact hk) s2
          subst this
          exact hn.1 hm
        rw [List.nodup_append]
        refine ⟨hF'.1, q.nodup hF'.2.1 hn.2 (fun k hk => hdj k (by simp [hk])), ?_⟩
        intro k hk k' hk' ee
        subst ee
        rcases q.inF k hk' with h | ⟨m, hm, s1, s2⟩
        · exact hF'.2.2 k hk k h rfl
        · exact hdj k (by simp [hk]) m hm s1 s2
  | false =>
    simp only at h
    split at h
    case h_2 => exact get_noG h
    rename_i y hy
    obtain ⟨b, hb1, rfl⟩ := T.get_mapO h
    obtain ⟨c, hc, hy⟩ := Option.bind_eq_some_iff.1 hy
    have hsome : (lk n).isSome = true := by rw [hc]; rfl
    obtain ⟨p, hp, hh⟩ := G.holds n _ hc
    have fin : ∀ {ow ly : Bool} {vs : List Value} {F0 R0 : List Nat}, y.reads E w ly vs F0 R0 → boxH ow w y.e y.size p y.len vs F0 R0 (FF n) (RR n) →
        ∃ p xs F0 R0 F R, E n = some p ∧ rowsH (hold w (!false) row) b.1 xs F0 R0 ∧ boxH false w e row.size p b.1.length xs F0 R0 F R ∧ InF lk FF F [] ∧ InR lk FF RR R [] (n :: (b.2.1 ++ b.2.2)) ∧ (([] : List Nat).Nodup → F.Nodup) ∧ (false = false → ([] : List Nat) = []) := by
      intro ow ly vs F0 R0 hr hbox
      obtain ⟨e1, e2, e3, F, R, q⟩ := gatM_ok G (.inr rfl) hg hx hr hb1
      have hF : F = [] := rowsH_true_nil q.data
      subst hF
      have hns := e3 rfl
      obtain ⟨s1, s2⟩ := boxH_sub hbox
      have hro : p.stride = y.size ∧ 0 < y.size ∧ vs.length = y.len * y.size ∧ roLen p y.len ∧ roAt w p vs := by
        cases ow with
        | true =>
          obtain ⟨R', ⟨a1, a2, a3, a4, a5, _⟩, _⟩ := boxH_lax (R0' := []) hbox (fun k hk => by simp at hk)
          exact ⟨a1, a2, a3, a4, a5⟩
        | false =>
          obtain ⟨a1, a2, a3, a4, a5, _⟩ := hbox
          exact ⟨a1, a2, a3, a4, a5⟩
      have hblk : ∀ k ∈ blkR p vs, k ∈ FF n ∨ k ∈ RR n := by
        cases ow with
        | true =>
          obtain ⟨R', ⟨_, _, _, _, _, _, _, hR'⟩, hsub⟩ := boxH_lax (R0' := []) hbox (fun k hk => by simp at hk)
          intro k hk
          exact hsub k (by rw [hR']; simp [hk])
        | false =>
          obtain ⟨_, _, _, _, _, _, _, hR'⟩ := hbox
          intro k hk
          right; rw [hR']; simp [hk]
      rw [e2, ← e1] at hro
      refine ⟨p, vs, [], R, [], blkR p vs ++ R, hp, q.data, ⟨hro.1, hro.2.1, hro.2.2.1, hro.2.2.2.1, hro.2.2.2.2, rfl, rfl, rfl⟩, fun k hk => by simp at hk, ?_, fun _ => List.nodup_nil, fun _ => rfl⟩
      intro k hk
      left
      rcases List.mem_append.1 hk with hk | hk
      · exact ⟨n, by simp, hsome, hblk k hk⟩
      · rcases q.inR k hk with (⟨_, h⟩ | h) | ⟨m, hm, h⟩ | ⟨m, hm, h⟩
        · exact ⟨n, by simp, hsome, .inl (s1 k h)⟩
        · exact ⟨n, by simp, hsome, .inr (s2 k h)⟩
        · exact ⟨m, by simp [hm], h⟩
        · rw [hns] at hm; simp at hm
    cases c with
    | own z =>
      simp only [AB.cont, Option.some.injEq] at hy
      subst hy
      obtain ⟨_, vs, F0, R0, hr, hbox⟩ := hh
      exact fin hr hbox
    | ro z =>
      simp only [AB.cont, Option.some.injEq] at hy
      subst hy
      obtain ⟨_, vs, F0, R0, hr, hbox⟩ := hh
      exact fin hr hbox
    | _ => simp [AB.cont] at hy

theorem whenG_get {α : Type} {b : Bool} {x a : α × List Nat × List Nat} (h : (whenG b x).get = some a) : b = true ∧ x = a := by
  obtain ⟨h1, h2⟩ := T.get_when h
  simp only [T.get, Option.some.injEq] at h2
  exact ⟨h1, h2⟩
/-- A slice through an array, gathered. -/
theorem gatCr_ok (G : Gc E lk w FF RR) {row : Sh} {e : TypeId} {g : List AV → Gt (Den row)} (hg : GOk E lk FF RR (hold w true row) g) (hx : ∀ cs a, (g cs).get = some a → a.2.1 = []) {n r o len : Nat} {c : Option Nat} {V : Value} {a : List (Den row) × List Nat × List Nat}
    (hv : conc E (.sl n r o len c) = some V) (h : (gatCr lk row g n r o len c).get = some a) : ∃ p xs F0 R0 F R, V = .slice (p.ptr 0 0) a.1.length p.cap ∧ rowsH (hold w true row) a.1 xs F0 R0 ∧ boxH false w e row.size p a.1.length xs F0 R0 F R ∧ InF lk FF F a.2.1 ∧ InR lk FF RR R a.2.1 a.2.2 ∧ (a.2.1.Nodup → F.Nodup) ∧ a.2.1 = [] := by
  unfold gatCr at h
  split at h
  case h_2 => exact get_noG h
  rename_i e' s cs k hy
  cases hb : (Nat.ble (r * s + o + len * row.size) cs.length && Nat.ble len k && Nat.blt 0 row.size) with
  | false => rw [hb] at h; exact get_noG h
  | true =>
    rw [hb] at h
    simp only [Bool.and_eq_true] at hb
    obtain ⟨⟨hb1, hb2⟩, hb3⟩ := hb
    have hb1 := Nat.le_of_ble_eq_true hb1
    have hb2 := Nat.le_of_ble_eq_true hb2
    have hpos : 0 < row.size := by simpa using hb3
    obtain ⟨b, hg1, rfl⟩ := T.get_mapO h
    obtain ⟨c', hc, hy⟩ := Option.bind_eq_some_iff.1 hy
    have hsome : (lk n).isSome = true := by rw [hc]; rfl
    obtain ⟨p, hp, hh⟩ := G.holds n _ hc
    simp only [conc, hp, Option.map_some, Option.some.injEq, Option.getD_some] at hv
    have fin : ∀ {ow ly : Bool} {vs : List Value} {F0 R0 : List Nat}, (M.raw e' s cs).reads E w ly vs F0 R0 → boxH ow w e' s p (cs.length / s) vs F0 R0 (FF n) (RR n) →
        ∃ p xs F0 R0 F R, V = .slice (p.ptr 0 0) b.1.length p.cap ∧ rowsH (hold w true row) b.1 xs F0 R0 ∧ boxH false w e row.size p b.1.length xs F0 R0 F R ∧ InF lk FF F [] ∧ InR lk FF RR R [] (n :: (b.2.1 ++ b.2.2)) ∧ (([] : List Nat).Nodup → F.Nodup) ∧ ([] : List Nat) = [] := by
      intro ow ly vs F0 R0 hr hbox
      obtain ⟨hr, rfl, rfl⟩ := hr
      have hlen := concs_length hr
      obtain ⟨e1, F, R, q⟩ := gatRows_ok G hg len _ _ _ (concs_take (len * row.size) (concs_drop (r * s + o) hr)) hg1
      have hF : F = [] := rowsH_true_nil q.data
      subst hF
      have hns : b.2.1 = [] := by
        clear q e1
        revert hg1
        generalize (cs.drop (r * s + o)).take (len * row.size) = ds
        intro hg1
        have : ∀ (m : Nat) (ds : List AV) (b : List (Den row) × List Nat × List Nat), (gatRows g row.size m ds).get = some b → b.2.1 = [] := by
          intro m
          induction m with
          | zero =>
            intro ds b h
            simp only [gatRows] at h
            split at h
            · simp only [T.get, Option.some.injEq] at h; subst h; rfl
            · exact get_noG h
          | succ m ih =>
            intro ds b h
            simp only [gatRows] at h
            obtain ⟨a1, h1, h⟩ := T.get_bindO h
            obtain ⟨a2, h2, rfl⟩ := T.get_mapO h
            simp [hx _ _ h1, ih _ _ h2]
        exact this _ _ _ hg1
      have hro : p.stride = s ∧ 0 < s ∧ vs.length = (cs.length / s) * s ∧ roLen p (cs.length / s) ∧ roAt w p vs := by
        cases ow with
        | true =>
          obtain ⟨R', ⟨a1, a2, a3, a4, a5, _⟩, _⟩ := boxH_lax (R0' := []) hbox (fun k hk => by simp at hk)
          exact ⟨a1, a2, a3, a4, a5⟩
        | false =>
          obtain ⟨a1, a2, a3, a4, a5, _⟩ := hbox
          exact ⟨a1, a2, a3, a4, a5⟩
      have hblk : ∀ k ∈ blkR p vs, k ∈ FF n ∨ k ∈ RR n := by
        cases ow with
        | true =>
          obtain ⟨R', ⟨_, _, _, _, _, _, _, hR'⟩, hsub⟩ := boxH_lax (R0' := []) hbox (fun k hk => by simp at hk)
          intro k hk
          exact hsub k (by rw [hR']; simp [hk])
        | false =>
          obtain ⟨_, _, _, _, _, _, _, hR'⟩ := hbox
          intro k hk
          right; rw [hR']; simp [hk]
      obtain ⟨d1, d2, d3, d4, d5⟩ := hro
      refine ⟨{ p with base := p.base + r * p.stride + o, stride := row.size, cap := k }, (vs.drop (r * s + o)).take (len * row.size), [], R, [], blkR { p with base := p.base + r * p.stride + o, stride := row.size, cap := k } ((vs.drop (r * s + o)).take (len * row.size)) ++ R, ?_, q.data, ⟨rfl, hpos, ?_, ⟨?_, ?_⟩, ?_, rfl, rfl, rfl⟩, fun k hk => by simp at hk, ?_, fun _ => List.nodup_nil, rfl⟩
      · rw [← hv, e1]
        simp [Pl.ptr, Pl.addr]
      · rw [e1, List.length_take, List.length_drop]
        omega
      · intro hn
        have h0 := d4.1 hn
        rw [h0] at d3
        rw [e1]
        have : len * row.size = 0 := by omega
        rcases Nat.mul_eq_zero.1 this with h | h
        · exact h
        · omega
      · rw [e1]; exact hb2
      · intro j V hV
        rw [List.getElem?_take] at hV
        split at hV
        · rw [List.getElem?_drop] at hV
          have := d5 _ _ hV
          simp only [Pl.addr, Nat.zero_mul, Nat.add_zero] at this ⊢
          rw [d1]
          rw [show p.base + r * s + o + j = p.base + (r * s + o + j) by omega]
          exact this
        · cases hV
      · intro k' hk
        left
        rcases List.mem_append.1 hk with hk | hk
        · refine ⟨n, by simp, hsome, hblk k' ?_⟩
          cases vs with
          | nil => simp [blkR] at hk
          | cons x xs =>
            generalize ((x :: xs).drop (r * s + o)).take (len * row.size) = zs at hk
            cases zs with
            | nil => simp [blkR] at hk
            | cons _ _ => simpa [blkR] using hk
        · rcases q.inR k' hk with ⟨m, hm, h⟩ | ⟨m, hm, h⟩
          · exact ⟨m, by simp [hm], h⟩
          · rw [hns] at hm; simp at hm
    cases c' with
    | own z =>
      simp only [AB.cont, Option.some.injEq] at hy
      subst hy
      obtain ⟨_, vs, F0, R0, hr, hbox⟩ := hh
      exact fin hr hbox
    | ro z =>
      simp only [AB.cont, Option.some.injEq] at hy
      subst hy
      obtain ⟨_, vs, F0, R0, hr, hbox⟩ := hh
      exact fin hr hbox
    | _ => simp [AB.cont] at hy
/-- A slice, gathered. -/
theorem gatS_ok (G : Gc E lk w FF RR) {own lx : Bool} (hxo : lx = !own) {e : TypeId} {row : Sh} {g : List AV → Gt (Den row)} (hg : GOk E lk FF RR (hold w lx row) g) (hx : lx = true → ∀ cs a, (g cs).get = some a → a.2.1 = []) {v : AV} {V : Value} {a : List (Den row) × List Nat × List Nat}
    (hv : conc E v = some V) (h : (gatS lk own e row g v).get = some a) : ∃ p xs F0 R0 F R, V = .slice (p.ptr 0 0) a.1.length p.cap ∧ rowsH (hold w lx row) a.1 xs F0 R0 ∧ boxH own w e row.size p a.1.length xs F0 R0 F R ∧ InF lk FF F a.2.1 ∧ InR lk FF RR R a.2.1 a.2.2 ∧ (a.2.1.Nodup → F.Nodup) ∧ (own = false → a.2.1 = []) := by
  unfold gatS at h
  split at h
  · cases hb : Nat.blt 0 row.size with
    | false => rw [hb] at h; exact get_noG h
    | true =>
      rw [hb] at h
      simp only [cond_true, T.get, Option.some.injEq] at h
      subst h
      simp only [conc, Option.some.injEq] at hv
      have hpos : 0 < row.size := by simpa using hb
      refine ⟨{ block := 0, stride := row.size, nil := true }, [], [], [], [], [], by simp [← hv, Pl.ptr], ⟨rfl, rfl, rfl⟩, ?_, fun k hk => by simp at hk, fun k hk => by simp at hk, fun _ => List.nodup_nil, fun _ => rfl⟩
      cases own with
      | true => exact ⟨⟨by simp, rfl, hpos, .inl ⟨rfl, rfl, rfl, rfl⟩⟩, by simp [blkO], rfl⟩
      | false => exact ⟨rfl, hpos, by simp, ⟨fun _ => rfl, Nat.le_refl _⟩, fun j V hV => by simp at hV, rfl, rfl, by simp [blkR]⟩
  · rename_i n r o len c
    cases hcr : crossB lk own n row.size with
    | true =>
      rw [hcr] at h
      simp only [cond_true] at h
      have hown : own = false := by cases own with | false => rfl | true => simp [crossB] at hcr
      subst hown
      subst hxo
      obtain ⟨p, xs, F0, R0, F, R, k1, k2, k3, k4, k5, k6, k7⟩ := gatCr_ok (e := e) G hg (hx rfl) hv h
      exact ⟨p, xs, F0, R0, F, R, k1, k2, k3, k4, k5, k6, fun _ => k7⟩
    | false =>
    rw [hcr] at h
    simp only [cond_false] at h
    cases hb : Nat.beq o 0 with
    | false => rw [hb] at h; exact get_noG h
    | true =>
      rw [hb] at h
      have hb := Nat.eq_of_beq_eq_true hb
      subst hb
      simp only [cond_true] at h
      · obtain ⟨b, hb1, h⟩ := T.get_bindO h
        obtain ⟨hl, rfl⟩ := whenG_get h
        simp only [Bool.and_eq_true] at hl
        obtain ⟨hl, hlc⟩ := hl
        have hl : r + len ≤ b.1.length := by simpa using hl
        obtain ⟨p, xs, F0, R0, F, R, hp, h1, h2, h3, h4, h5, h6⟩ := gatB_ok G hxo hg hx hb1
        simp only [conc, hp, Option.map_some, Option.some.injEq] at hv
        obtain ⟨F', R', g1, g2, g3, g4⟩ := rowsH_sub (s := row.size) (fun d ys F R h => hold_length _ row d ys F R h) h1 hl
        have hblk : ∀ (q : Pl), q.block = p.block → ∀ k ∈ blkR q ((xs.drop (r * row.size)).take (len * row.size)), k ∈ blkR p xs := by
          intro q hq k hk
          cases xs with
          | nil => simp [blkR] at hk
          | cons x xs =>
            generalize ((x :: xs).drop (r * row.size)).take (len * row.size) = zs at hk
            cases zs with
            | nil => simp [blkR] at hk
            | cons _ _ => simpa [blkR, hq] using hk
        cases own with
        | true =>
          obtain ⟨hrow, rfl, rfl⟩ := h2
          have hcap : b.1.length ≤ p.cap := by
            obtain ⟨_, _, _, h4⟩ := hrow
            rcases h4 with ⟨_, h0, hc⟩ | ⟨_, cur, _, c2, _⟩
            · omega
            · exact c2
          have hcc : len ≤ c.getD (p.cap - r) ∧ c.getD (p.cap - r) ≤ p.cap - r := by
            cases c with
            | none => simp only [Option.getD_none]; omega
            | some k =>
              simp only [Bool.and_eq_true, Bool.not_true, Bool.false_or, decide_eq_true_eq] at hlc
              simp only [Option.getD_some]
              omega
          refine ⟨{ p with base := p.base + r * p.stride, cap := c.getD (p.cap - r) }, (xs.drop (r * row.size)).take (len * row.size), F', R', blkO p ++ F', R', ?_, g1, ⟨?_, rfl, rfl⟩, fun k hk => h3 k ?_, fun k hk => h4 k (g3 k hk), fun hn => ?_, h6⟩
          · rw [← hv, subL_length hl]
            simp [Pl.ptr, Pl.addr]
          · rw [subL_length hl]
            exact rowAt_cap (rowAt_sub hrow hl) hcc.1 hcc.2
          · rcases List.mem_append.1 hk with hk | hk
            · exact List.mem_append_left _ hk
            · exact List.mem_append_right _ (g2 k hk)
          · have hn' := h5 hn
            have hF : F'.Nodup := g4 (List.nodup_append.1 hn').2.1
            rw [List.nodup_append] at hn' ⊢
            exact ⟨hn'.1, hF, fun a ha b hb => hn'.2.2 a ha b (g2 b hb)⟩
        | false =>
          obtain ⟨d1, d2, d3, d4, d5, rfl, rfl, rfl⟩ := h2
          subst hxo
          have hF' : F' = [] := List.eq_nil_iff_forall_not_mem.2 (fun k hk => by have := g2 k hk; simp at this)
          subst hF'
          refine ⟨{ p with base := p.base + r * p.stride, cap := c.getD (p.cap - r) }, (xs.drop (r * row.size)).take (len * row.size), [], R', [], blkR { p with base := p.base + r * p.stride, cap := c.getD (p.cap - r) } ((xs.drop (r * row.size)).take (len * row.size)) ++ R', ?_, g1, ⟨d1, d2, ?_, ⟨?_, ?_⟩, ?_, rfl, rfl, rfl⟩, fun k hk => by simp at hk, ?_, fun _ => List.nodup_nil, h6⟩
          · rw [← hv, subL_length hl]
            simp [Pl.ptr, Pl.addr]
          · rw [subL_length hl, List.length_take, List.length_drop, d3]
            have : (r + len) * row.size ≤ b.1.length * row.size := Nat.mul_le_mul_right _ hl
            rw [Nat.add_mul] at this
            omega
          · intro hn
            have := d4.1 hn
            rw [subL_length hl]
            omega
          · rw [subL_length hl]
            have := d4.2
            cases c with
            | none => simp only [Option.getD_none]; omega
            | some k => simpa using hlc
          · intro j V hV
            rw [List.getElem?_take] at hV
            split at hV
            · rw [List.getElem?_drop] at hV
              have := d5 _ _ hV
              simp only [Pl.addr, Nat.zero_mul, Nat.add_zero] at this ⊢
              rw [d1, Nat.add_assoc]
              exact this
            · cases hV
          · intro k hk
            refine h4 k ?_
            rcases List.mem_append.1 hk with hk | hk
            · exact List.mem_append_left _ (hblk { p with base := p.base + r * p.stride, cap := c.getD (p.cap - r) } rfl k hk)
            · exact List.mem_append_right _ (g3 k hk)
  · rename_i n r0 r
    obtain ⟨b, hb1, h⟩ := T.get_bindO h
    obtain ⟨hl, rfl⟩ := whenG_get h
    have hl : r0 ≤ r ∧ r ≤ b.1.length := by simpa using hl
    obtain ⟨p, xs, F0, R0, F, R, hp, h1, h2, h3, h4, h5, h6⟩ := gatB_ok G hxo hg hx hb1
    simp only [conc, hp, Option.map_some, Option.some.injEq] at hv
    have he : (subL b.1 r 0, b.2).1 = [] := by simp [subL]
    have hb' : ∃ q : Nat, q ≤ r ∧ V = .slice (p.ptr q 0) 0 (p.cap - r) := by
      by_cases hc : p.cap = r
      · rw [if_pos hc] at hv; exact ⟨r0, hl.1, hv.symm⟩
      · rw [if_neg hc] at hv; exact ⟨r, Nat.le_refl _, hv.symm⟩
    obtain ⟨q, hq, rfl⟩ := hb'
    rw [he]
    have hv' : (Value.slice (p.ptr q 0) 0 (p.cap - r)) = .slice (({ p with base := p.base + q * p.stride, cap := p.cap - r } : Pl).ptr 0 0) 0 (p.cap - r) := by simp [Pl.ptr, Pl.addr]
    cases own with
    | true =>
      obtain ⟨hrow, rfl, rfl⟩ := h2
      refine ⟨{ p with base := p.base + q * p.stride, cap := p.cap - r }, [], [], [], blkO p ++ [], [], hv', ⟨rfl, rfl, rfl⟩, ⟨?_, rfl, rfl⟩, fun k hk => h3 k ?_, fun k hk => by simp at hk, fun hn => ?_, h6⟩
      · have := rowAt_cap (k := p.cap - r) (rowAt_sub hrow (r := q) (len := 0) (by omega)) (Nat.zero_le _) (by show p.cap - r ≤ p.cap - q; omega)
        simpa using this
      · rw [List.append_nil] at hk; exact List.mem_append_left _ hk
      · rw [List.append_nil]
        exact (List.nodup_append.1 (h5 hn)).1
    | false =>
      obtain ⟨d1, d2, d3, d4, d5, rfl, rfl, rfl⟩ := h2
      refine ⟨{ p with base := p.base + q * p.stride, cap := p.cap - r }, [], [], [], [], [], hv', ⟨rfl, rfl, rfl⟩, ⟨d1, d2, by simp, ⟨fun _ => rfl, Nat.zero_le _⟩, fun j V hV => by simp at hV, rfl, rfl, by simp [blkR]⟩, fun k hk => by simp at hk, fun k hk => by simp at hk, fun _ => List.nodup_nil, h6⟩
  · exact get_noG h
/-- A pointer, gathered. -/
theorem gatP_ok (G : Gc E lk w FF RR) {own lx : Bool} (hxo : lx = !own) {e : TypeId} {row : Sh} {g : List AV → Gt (Den row)} (hg : GOk E lk FF RR (hold w lx row) g) (hx : lx = true → ∀ cs a, (g cs).get = some a → a.2.1 = []) {v : AV} {V : Value} {a : Den row × List Nat × List Nat}
    (hv : conc E v = some V) (h : (gatP lk own e row g v).get = some a) : ∃ p xs F0 R0 F R, p.nil = false ∧ V = .pointer (some (p.addr 0 0)) ∧ hold w lx row a.1 xs F0 R0 ∧ boxH own w e row.size p 1 xs F0 R0 F R ∧ InF lk FF F a.2.1 ∧ InR lk FF RR R a.2.1 a.2.2 ∧ (a.2.1.Nodup → F.Nodup) ∧ (own = false → a.2.1 = []) := by
  unfold gatP at h
  split at h
  case h_2 => exact get_noG h
  rename_i n r o
  cases hb : (Nat.beq o 0 && Nat.beq r 0) with
  | false => rw [hb] at h; exact get_noG h
  | true =>
    rw [hb] at h
    simp only [cond_true] at h
    simp only [Bool.and_eq_true] at hb
    have h1 := Nat.eq_of_beq_eq_true hb.1
    have h2 := Nat.eq_of_beq_eq_true hb.2
    subst h1 h2
    obtain ⟨b, hb1, h⟩ := T.get_bindO h
    split at h
    case h_2 => exact get_noG h
    rename_i d hd
    simp only [T.get, Option.some.injEq] at h
    subst h
    obtain ⟨p, xs, F0, R0, F, R, hp, h1, h2, h3⟩ := gatB_ok G hxo hg hx hb1
    rw [hd] at h1 h2
    simp only [conc, hp, Option.map_some, Option.some.injEq] at hv
    have hnil : p.nil = false := by
      cases hn : p.nil with
      | false => rfl
      | true =>
        exfalso
        cases own with
        | true =>
          obtain ⟨⟨_, _, _, h4⟩, _⟩ := h2
          rcases h4 with ⟨_, h4, _⟩ | ⟨h4, _⟩
          · simp at h4
          · rw [hn] at h4; cases h4
        | false =>
          obtain ⟨_, _, _, h4, _⟩ := h2
          have := h4.1 hn
          simp at this
    exact ⟨p, xs, F0, R0, F, R, hnil, hv.symm, rowsH_one.1 h1, h2, h3⟩

theorem aggOf_conc {tg : Option FuncId} {v : AV} {us : List AV} {V : Value} (h : aggOf tg v = some us) (hv : conc E v = some V) : ∃ xs, V = mkAg tg xs ∧ concs E us = some xs := by
  unfold aggOf at h
  split at h
  · split at h
    · cases h
      simp only [conc, Option.map_eq_some_iff] at hv
      obtain ⟨xs, h1, rfl⟩ := hv
      exact ⟨xs, rfl, h1⟩
    · rename_i cs
      cases h
      simp only [conc, Option.some.injEq] at hv
      exact ⟨cs.toList, by simp [mkAg, ← hv], concs_plain _⟩
    · cases h
  · rename_i f
    split at h
    · rename_i g cs
      cases hb : Nat.beq g f with
      | false => rw [hb] at h; cases h
      | true =>
        rw [hb] at h
        cases h
        have := Nat.eq_of_beq_eq_true hb
        subst this
        simp only [conc, concs, Option.bind_eq_some_iff, Option.map_eq_some_iff, Option.some.injEq] at hv
        obtain ⟨_, rfl, xs, h1, rfl⟩ := hv
        exact ⟨xs, rfl, h1⟩
    · rename_i g cs
      cases hb : Nat.beq g f with
      | false => rw [hb] at h; cases h
      | true =>
        rw [hb] at h
        cases h
        have := Nat.eq_of_beq_eq_true hb
        subst this
        simp only [conc, Option.some.injEq] at hv
        exact ⟨cs, hv.symm, concs_plain _⟩
    · cases h
theorem entH_append {κ α : Type} {K : κ → Value → Prop} {P : α → List Value → List Nat → List Nat → Prop} : ∀ {a b : List (κ × α)} {ea eb : List MapEntry} {F1 F2 R1 R2 : List Nat}, entH K P a ea F1 R1 → entH K P b eb F2 R2 → entH K P (a ++ b) (ea ++ eb) (F1 ++ F2) (R1 ++ R2)
  | [], b, ea, eb, F1, F2, R1, R2, h, k => by obtain ⟨rfl, rfl, rfl⟩ := h; exact k
  | x :: a, b, ea, eb, F1, F2, R1, R2, h, k => by
    obtain ⟨e, es', F3, F4, R3, R4, rfl, rfl, rfl, h0, h1, h2⟩ := h
    exact ⟨e, es' ++ eb, F3, F4 ++ F2, R3, R4 ++ R2, by simp, by simp, by simp, h0, h1, entH_append h2 k⟩
theorem entH_true_nil {κ : Type} {K : κ → Value → Prop} {sh : Sh} : ∀ {l : List (κ × Den sh)} {es : List MapEntry} {F R : List Nat}, entH K (hold w true sh) l es F R → F = []
  | [], es, F, R, h => h.2.1
  | x :: l, es, F, R, h => by
    obtain ⟨e, es', F1, F2, R1, R2, rfl, rfl, rfl, h0, h1, h2⟩ := h
    rw [hold_true_nil sh _ _ _ _ h1, entH_true_nil h2]; rfl
theorem setV_eq {key row : Sh} {l : List (Den key × Den row)} {i : Nat} {x : Den key × Den row} {d : Den row} (h : l[i]? = some x) : setV l i d = l.take i ++ (x.1, d) :: l.drop (i + 1) := by
  have hlt := (List.getElem?_eq_some_iff.1 h).1
  unfold setV
  rw [List.set_eq_take_append_cons_drop, if_pos hlt, List.getD_eq_getElem?_getD, h]
  rfl
theorem gatE_nil {α : Type} {key : Sh} {g : List AV → Gt α} (hx : ∀ cs a, (g cs).get = some a → a.2.1 = []) : ∀ (es : List (AV × AV × Nat)) (a : List (Den key × α) × List Nat × List Nat), (gatE key g es).get = some a → a.2.1 = []
  | [], a, h => by simp only [gatE, T.get, Option.some.injEq] at h; subst h; rfl
  | (k, v, b) :: es, a, h => by
    simp only [gatE] at h
    split at h
    case h_2 => exact get_noG h
    obtain ⟨a1, h1, h⟩ := T.get_bindO h
    obtain ⟨a2, h2, rfl⟩ := T.get_mapO h
    simp [hx _ _ h1, gatE_nil hx es a2 h2]
theorem gatE_ok (G : Gc E lk w FF RR) {α : Type} {key : Sh} {P : α → List Value → List Nat → List Nat → Prop} {g : List AV → Gt α} (hg : GOk E lk FF RR P g) : ∀ (es : List (AV × AV × Nat)) (l : List MapEntry) (a : List (Den key × α) × List Nat × List Nat), concE E es = some l → (gatE key g es).get = some a →
    ∃ F R, entH (keyH key) P a.1 l F R ∧ InF lk FF F a.2.1 ∧ InR lk FF RR R a.2.1 a.2.2 ∧ (a.2.1.Nodup → F.Nodup)
  | [], l, a, hc, h => by
    simp only [gatE, T.get, Option.some.injEq] at h
    subst h
    simp only [concE, Option.some.injEq] at hc
    subst hc
    exact ⟨[], [], ⟨rfl, rfl, rfl⟩, fun k hk => by simp at hk, fun k hk => by simp at hk, fun _ => List.nodup_nil⟩
  | (k, v, b) :: es, l, a, hc, h => by
    simp only [gatE] at h
    split at h
    case h_2 => exact get_noG h
    rename_i x hx
    obtain ⟨a1, h1, h⟩ := T.get_bindO h
    obtain ⟨a2, h2, rfl⟩ := T.get_mapO h
    simp only [concE, Option.bind_eq_some_iff, Option.map_eq_some_iff] at hc
    obtain ⟨kv, hk, vv, hv, r, hr, rfl⟩ := hc
    obtain ⟨y, hy, hd⟩ := Option.bind_eq_some_iff.1 hx
    rw [plain_conc hy E] at hk
    cases hk
    obtain ⟨F1, R1, q⟩ := hg [v] [vv] _ (concs_cons.2 ⟨vv, [], hv, rfl, rfl⟩) h1
    obtain ⟨F2, R2, e1, e2, e3, e4⟩ := gatE_ok G hg es r a2 hr h2
    exact ⟨F1 ++ F2, R1 ++ R2, ⟨_, r, F1, F2, R1, R2, rfl, rfl, rfl, (decK_enc hd).symm, q.data, e1⟩, q.inF.append e2, q.inR.append e3, fun hn => nodup_two G q.inF e2 q.nodup e4 hn⟩
theorem gatO_ok (G : Gc E lk w FF RR) {own lx : Bool} (hxo : own = !lx) {key row : Sh} {g : List AV → Gt (Den row)} (hg : GOk E lk FF RR (hold w lx row) g) (hx : lx = true → ∀ cs a, (g cs).get = some a → a.2.1 = []) :
    ∀ {k : Obk} {v : AV} {V : Value} {a : k.den (List (Den key × Den row)) × List Nat × List Nat}, conc E v = some V → (gatO lk own key row g k v).get = some a →
      ∃ F R, objH own w (keyH key) (hold w lx row) k a.1 V F R ∧ InF lk FF F a.2.1 ∧ InR lk FF RR R a.2.1 a.2.2 ∧ (a.2.1.Nodup → F.Nodup) ∧ (own = false → a.2.1 = []) := by
  subst hxo
  -- what is gathered beside the object's own block
  have nm : ∀ {n : Nat} {b : AB} {as bs : List Nat}, lk n = some b → (lx = true → as = []) → ∀ {F R : List Nat}, (lx = false → (∀ k ∈ F, k ∈ FF n ∨ ∃ m ∈ as, (lk m).isSome = true ∧ k ∈ FF m) ∧ ∀ k ∈ R, k ∈ RR n ∨ (∃ m ∈ bs, (lk m).isSome = true ∧ (k ∈ FF m ∨ k ∈ RR m)) ∨ (∃ m ∈ as, (lk m).isSome = true ∧ k ∈ RR m)) →
      (lx = true → F = [] ∧ ∀ k ∈ R, (k ∈ FF n ∨ k ∈ RR n) ∨ (∃ m ∈ bs, (lk m).isSome = true ∧ (k ∈ FF m ∨ k ∈ RR m))) →
      InF lk FF F (nmO (!lx) n as bs).1 ∧ InR lk FF RR R (nmO (!lx) n as bs).1 (nmO (!lx) n as bs).2 ∧ ((!lx) = false → (nmO (!lx) n as bs).1 = []) := by
    intro n b as bs hb ha F R h1 h2
    have hs : (lk n).isSome = true := by rw [hb]; rfl
    cases lx with
    | false =>
      obtain ⟨g1, g2⟩ := h1 rfl
      refine ⟨fun k hk => ?_, fun k hk => ?_, fun h => by cases h⟩
      · rcases g1 k hk with h | ⟨m, hm, h⟩
        · exact ⟨n, by simp [nmO], hs, h⟩
        · exact ⟨m, by simp [nmO, hm], h⟩
      · rcases g2 k hk with h | ⟨m, hm, h⟩ | ⟨m, hm, h⟩
        · exact .inr ⟨n, by simp [nmO], hs, h⟩
        · exact .inl ⟨m, by simp [nmO, hm], h⟩
        · exact .inr ⟨m, by simp [nmO, hm], h⟩
    | true =>
      obtain ⟨rfl, g2⟩ := h2 rfl
      refine ⟨fun k hk => by simp at hk, fun k hk => ?_, fun _ => rfl⟩
      rcases g2 k hk with h | ⟨m, hm, h⟩
      · exact .inl ⟨n, by simp [nmO], hs, h⟩
      · exact .inl ⟨m, by simp [nmO, hm], h⟩
  -- an object as it is told
  have whole : ∀ {n : Nat} {o : Bool} {k : Obk} {key' row' : Sh} {d : k.den (List (Den key' × Den row'))} {p : Pl}, lk n = some (.obj o k key' row' d) → (o || !!lx) = true → objH o w (keyH key') (hold w (!o) row') k d (objV p k) (FF n) (RR n) →
      ∃ F R, objH (!lx) w (keyH key') (hold w lx row') k d (objV p k) F R ∧ InF lk FF F (nmO (!lx) n [] []).1 ∧ InR lk FF RR R (nmO (!lx) n [] []).1 (nmO (!lx) n [] []).2 ∧ ((nmO (!lx) n [] []).1.Nodup → F.Nodup) ∧ ((!lx) = false → (nmO (!lx) n [] []).1 = []) := by
    intro n o k key' row' d p hb ho h
    cases hlx : lx with
    | false =>
      rw [hlx] at ho
      simp only [Bool.not_false, Bool.not_true, Bool.or_false] at ho
      subst ho
      subst hlx
      obtain ⟨g1, g2, g3⟩ := nm (as := []) (bs := []) hb (fun h => by cases h) (F := FF n) (R := RR n) (fun _ => ⟨fun k hk => .inl hk, fun k hk => .inl hk⟩) (fun h => by cases h)
      exact ⟨FF n, RR n, h, g1, g2, fun _ => G.nodup n _ hb, g3⟩
    | true =>
      subst hlx
      obtain ⟨R', h', hs⟩ := objH_lax (Q := hold w true row') (fun d ys F R h => hold_lax _ row' d ys F R h) h
      obtain ⟨g1, g2, g3⟩ := nm (as := []) (bs := []) hb (fun _ => rfl) (F := []) (R := R') (fun h => by cases h) (fun _ => ⟨rfl, fun k hk => .inl (hs k hk)⟩)
      exact ⟨[], R', h', g1, g2, fun _ => List.nodup_nil, g3⟩
  intro k v V a hv h
  cases k with
  | map =>
    simp only [gatO] at h
    split at h
    case h_2 => exact get_noG h
    rename_i n
    split at h
    · rename_i o key' row' l hb
      split at h
      case isFalse => exact get_noG h
      rename_i e1
      split at h
      case isFalse => exact get_noG h
      rename_i e2
      subst e1 e2
      cases ho : (o || !!lx) with
      | false => rw [ho] at h; exact get_noG h
      | true =>
        rw [ho] at h
        simp only [cond_true, T.get, Option.some.injEq] at h
        subst h
        obtain ⟨p, hp, hh⟩ := G.holds n _ hb
        simp only [conc, hp, Option.map_some, Option.some.injEq] at hv
        subst hv
        exact whole hb ho hh
    · rename_i o key' row' l i x hb
      split at h
      case isFalse => exact get_noG h
      rename_i e1
      split at h
      case isFalse => exact get_noG h
      rename_i e2
      subst e1 e2
      cases ho : (o || !!lx) with
      | false => rw [ho] at h; exact get_noG h
      | true =>
        rw [ho] at h
        simp only [cond_true] at h
        obtain ⟨a1, h1, rfl⟩ := T.get_mapO h
        obtain ⟨p, hp, clk, es1, e, es2, F1, R1, F2, R2, y, q1, q2, q3, q4, q5, q6, q7⟩ := G.holds n _ hb
        simp only [conc, hp, Option.map_some, Option.some.injEq] at hv
        subst hv
        obtain ⟨Fg, Rg, q⟩ := hg [x] [e.val] _ (concs_cons.2 ⟨_, [], q4, rfl, rfl⟩) h1
        obtain ⟨s1, s2, s3⟩ := ownR_sub q7
        have hset := setV_eq (d := a1.1) q2
        cases hlx : lx with
        | false =>
          subst hlx
          simp only [Bool.not_false, Bool.not_true, Bool.or_false] at ho
          subst ho
          obtain ⟨hF, hR⟩ := q7
          have hdj : a1.2.1.Nodup → n ∉ a1.2.1 → ∀ k ∈ FF n, ∀ m ∈ a1.2.1, (lk m).isSome = true → k ∉ FF m := by
            intro _ hn k hk m hm s1 s2
            obtain ⟨c, hc⟩ := Option.isSome_iff_exists.1 s1
            have := G.dist n m _ c k hb hc hk s2
            subst this
            exact hn hm
          obtain ⟨g1, g2, g3⟩ := nm (as := a1.2.1) (bs := a1.2.2) hb (fun h => by cases h) (F := p.block :: (F1 ++ (Fg ++ F2))) (R := R1 ++ (Rg ++ R2)) (fun _ => ⟨fun k hk => by
              rw [hF]
              simp only [List.mem_cons, List.mem_append] at hk ⊢
              rcases hk with hk | hk | hk | hk
              · exact .inl (.inl hk)
              · exact .inl (.inr (.inl hk))
              · exact .inr (q.inF k hk)
              · exact .inl (.inr (.inr hk)), fun k hk => by
              rw [hR]
              simp only [List.mem_append] at hk ⊢
              rcases hk with hk | hk | hk
              · exact .inl (.inl hk)
              · exact .inr (q.inR k hk)
              · exact .inl (.inr hk)⟩) (fun h => by cases h)
          refine ⟨p.block :: (F1 ++ (Fg ++ F2)), R1 ++ (Rg ++ R2), ⟨p.block, _, clk, F1 ++ (Fg ++ F2), R1 ++ (Rg ++ R2), rfl, q1, ?_, rfl, rfl⟩, g1, g2, fun hn => ?_, g3⟩
          · show entH _ _ (setV l i a1.1) _ _ _
            rw [hset]
            exact entH_append q5 ⟨e, es2, Fg, F2, Rg, R2, rfl, rfl, rfl, q3, q.data, q6⟩
          · have hn : (n :: a1.2.1).Nodup := hn
            rw [List.nodup_cons] at hn
            have hFn := G.nodup n _ hb
            rw [hF, List.nodup_cons, List.nodup_append] at hFn
            have hd := hdj hn.2 hn.1
            rw [hF] at hd
            have hd' : ∀ k ∈ Fg, k ∉ p.block :: (F1 ++ F2) := by
              intro k hk hk'
              obtain ⟨m, hm, t1, t2⟩ := q.inF k hk
              exact hd k hk' m hm t1 t2
            rw [List.nodup_cons, List.nodup_append, List.nodup_append]
            simp only [List.mem_append, not_or, List.mem_cons] at hFn hd' ⊢
            refine ⟨⟨hFn.1.1, fun h => (hd' _ h).1 rfl, hFn.1.2⟩, hFn.2.1, ⟨q.nodup hn.2, hFn.2.2.1, fun k hk k' hk' ee => by subst ee; exact (hd' k hk).2.2 hk'⟩, fun k hk k' hk' ee => ?_⟩
            subst ee
            rcases hk' with hk' | hk'
            · exact (hd' k hk').2.1 hk
            · exact hFn.2.2.2 k hk k hk' rfl
        | true =>
          subst hlx
          have hFg : Fg = [] := hold_true_nil _ _ _ _ _ q.data
          subst hFg
          obtain ⟨Ra, a2, a3⟩ := entH_lax (Q := hold w true row') (fun d ys F R h => hold_lax _ row' d ys F R h) q5
          obtain ⟨Rb, b2, b3⟩ := entH_lax (Q := hold w true row') (fun d ys F R h => hold_lax _ row' d ys F R h) q6
          have has : a1.2.1 = [] := hx rfl _ _ h1
          obtain ⟨g1, g2, g3⟩ := nm (as := a1.2.1) (bs := a1.2.2) hb (fun _ => has) (F := []) (R := p.block :: (Ra ++ (Rg ++ Rb))) (fun h => by cases h) (fun _ => ⟨rfl, fun k hk => by
              simp only [List.mem_cons, List.mem_append] at hk
              rcases hk with rfl | hk | hk | hk
              · exact .inl s3
              · exact .inl ((a3 k hk).imp (fun h => s1 k (by simp [h])) (fun h => s2 k (by simp [h])))
              · rcases q.inR k hk with h | ⟨m, hm, h⟩
                · exact .inr h
                · rw [has] at hm; simp at hm
              · exact .inl ((b3 k hk).imp (fun h => s1 k (by simp [h])) (fun h => s2 k (by simp [h])))⟩)
          refine ⟨[], p.block :: (Ra ++ (Rg ++ Rb)), ⟨p.block, _, clk, [], Ra ++ (Rg ++ Rb), rfl, q1, ?_, rfl, rfl, rfl⟩, g1, g2, fun _ => List.nodup_nil, g3⟩
          show entH _ _ (setV l i a1.1) _ _ _
          rw [hset]
          exact entH_append (F1 := []) a2 ⟨e, es2, [], [], Rg, Rb, rfl, rfl, rfl, q3, q.data, b2⟩
    · rename_i es clk hb
      obtain ⟨a1, h1, rfl⟩ := T.get_mapO h
      obtain ⟨p, hp, hF, hR, l, q1, q2⟩ := G.holds n _ hb
      simp only [conc, hp, Option.map_some, Option.some.injEq] at hv
      subst hv
      obtain ⟨F, R, e1, e2, e3, e4⟩ := gatE_ok G hg es l a1 q1 h1
      cases hlx : lx with
      | false =>
        subst hlx
        obtain ⟨g1, g2, g3⟩ := nm (as := a1.2.1) (bs := a1.2.2) hb (fun h => by cases h) (F := p.block :: F) (R := R) (fun _ => ⟨fun k hk => by
            rw [hF]
            rcases List.mem_cons.1 hk with rfl | hk
            · exact .inl (by simp)
            · exact .inr (e2 k hk), fun k hk => .inr (e3 k hk)⟩) (fun h => by cases h)
        refine ⟨p.block :: F, R, ⟨p.block, _, clk, F, R, rfl, q2, by simpa using e1, rfl, rfl⟩, g1, g2, fun hn => ?_, g3⟩
        have hn : (n :: a1.2.1).Nodup := hn
        rw [List.nodup_cons] at hn ⊢
        refine ⟨fun hk => ?_, e4 hn.2⟩
        obtain ⟨m, hm, t1, t2⟩ := e2 _ hk
        obtain ⟨c, hc⟩ := Option.isSome_iff_exists.1 t1
        have := G.dist n m _ c p.block hb hc (by rw [hF]; simp) t2
        subst this
        exact hn.1 hm
      | true =>
        subst hlx
        have hF0 : F = [] := entH_true_nil e1
        subst hF0
        obtain ⟨g1, g2, g3⟩ := nm (as := a1.2.1) (bs := a1.2.2) hb (fun _ => gatE_nil (hx rfl) es a1 h1) (F := []) (R := p.block :: R) (fun h => by cases h) (fun _ => ⟨rfl, fun k hk => by
            rcases List.mem_cons.1 hk with rfl | hk
            · exact .inl (.inl (by rw [hF]; simp))
            · rcases e3 k hk with h | ⟨m, hm, h⟩
              · exact .inr h
              · rw [gatE_nil (hx rfl) es a1 h1] at hm; simp at hm⟩)
        exact ⟨[], p.block :: R, ⟨p.block, _, clk, [], R, rfl, q2, by simpa using e1, rfl, rfl, rfl⟩, g1, g2, fun _ => List.nodup_nil, g3⟩
    · exact get_noG h
  | ob j =>
    simp only [gatO] at h
    split at h
    case h_2 => exact get_noG h
    rename_i n
    split at h
    case h_2 => exact get_noG h
    rename_i o j' key' row' d hb
    split at h
    case isFalse => exact get_noG h
    rename_i e1
    subst e1
    cases ho : (o || !!lx) with
    | false => rw [ho] at h; exact get_noG h
    | true =>
      rw [ho] at h
      simp only [cond_true, T.get, Option.some.injEq] at h
      subst h
      obtain ⟨p, hp, hh⟩ := G.holds n _ hb
      simp only [conc, hp, Option.map_some, Option.some.injEq] at hv
      subst hv
      obtain ⟨F, R, h1, h2, h3, h4, h5⟩ := whole hb ho hh
      exact ⟨F, R, h1, h2, h3, h4, h5⟩

theorem gatP_nil {e : TypeId} {row : Sh} {g : List AV → Gt (Den row)} {v : AV} {a : Den row × List Nat × List Nat} (h : (gatP lk false e row g v).get = some a) : a.2.1 = [] := by
  unfold gatP at h
  split at h
  case h_2 => exact get_noG h
  rename_i n r o
  cases hb : (Nat.beq o 0 && Nat.beq r 0) with
  | false => rw [hb] at h; exact get_noG h
  | true =>
    rw [hb] at h
    simp only [cond_true] at h
    obtain ⟨b, hb1, h⟩ := T.get_bindO h
    split at h
    case h_2 => exact get_noG h
    simp only [T.get, Option.some.injEq] at h
    subst h
    simp only [gatB] at hb1
    split at hb1
    · obtain ⟨z, _, rfl⟩ := T.get_mapO hb1; rfl
    · exact get_noG hb1
theorem gatO_nil {key row : Sh} {g : List AV → Gt (Den row)} (hx : ∀ cs a, (g cs).get = some a → a.2.1 = []) : ∀ {k : Obk} {v : AV} {a : k.den (List (Den key × Den row)) × List Nat × List Nat}, (gatO lk (!true) key row g k v).get = some a → a.2.1 = [] := by
  intro k v a h
  cases k with
  | map =>
    simp only [gatO] at h
    split at h
    case h_2 => exact get_noG h
    split at h
    · split at h
      case isFalse => exact get_noG h
      split at h
      case isFalse => exact get_noG h
      rename_i o _ _ _ _ _ _
      cases ho : (o || !!true) with
      | false => rw [ho] at h; exact get_noG h
      | true => rw [ho] at h; simp only [cond_true, T.get, Option.some.injEq] at h; subst h; rfl
    · split at h
      case isFalse => exact get_noG h
      split at h
      case isFalse => exact get_noG h
      rename_i o _ _ _ _ _ _ _ _
      cases ho : (o || !!true) with
      | false => rw [ho] at h; exact get_noG h
      | true => rw [ho] at h; obtain ⟨a1, _, rfl⟩ := T.get_mapO h; rfl
    · obtain ⟨a1, _, rfl⟩ := T.get_mapO h; rfl
    · exact get_noG h
  | ob j =>
    simp only [gatO] at h
    split at h
    case h_2 => exact get_noG h
    split at h
    case h_2 => exact get_noG h
    split at h
    case isFalse => exact get_noG h
    rename_i o _ _ _ _ _ _
    cases ho : (o || !!true) with
    | false => rw [ho] at h; exact get_noG h
    | true => rw [ho] at h; simp only [cond_true, T.get, Option.some.injEq] at h; subst h; rfl
/-- Data, gathered. -/
theorem gat_ok (G : Gc E lk w FF RR) : ∀ (lx : Bool) (sh : Sh), GOk E lk FF RR (hold w lx sh) (gat lk lx sh) ∧ (lx = true → ∀ cs a, (gat lk lx sh cs).get = some a → a.2.1 = [])
  | lx, .nil => by
    refine ⟨fun cs vs a hc h => ?_, fun _ cs a h => ?_⟩
    · simp only [gat] at h
      split at h
      · simp only [T.get, Option.some.injEq] at h
        subst h
        simp only [concs, Option.some.injEq] at hc
        subst hc
        exact ⟨[], [], ⟨rfl, rfl, rfl⟩, fun k hk => by simp at hk, fun k hk => by simp at hk, fun _ => List.nodup_nil⟩
      · exact get_noG h
    · simp only [gat] at h
      split at h
      · simp only [T.get, Option.some.injEq] at h
        subst h; rfl
      · exact get_noG h
  | lx, .sc c r => by
    obtain ⟨i1, i2⟩ := gat_ok G lx r
    refine ⟨fun cs vs a hc h => ?_, fun hlx cs a h => ?_⟩
    · simp only [gat] at h
      split at h
      case h_2 => exact get_noG h
      rename_i v us
      split at h
      case h_2 => exact get_noG h
      rename_i x hx
      obtain ⟨y, hy, hd⟩ := Option.bind_eq_some_iff.1 hx
      obtain ⟨b, hb, rfl⟩ := T.get_mapO h
      obtain ⟨V, Vs, g1, g2, rfl⟩ := concs_cons.1 hc
      rw [plain_conc hy E] at g1
      cases g1
      obtain ⟨e1, e2⟩ := Ck.dec_enc hd
      obtain ⟨F, R, q⟩ := i1 _ _ _ g2 hb
      refine ⟨F, R, ⟨Vs, ?_, ?_, ?_⟩, q.inF, q.inR, q.nodup⟩
      · rw [prHd_mk, e1]
      · rw [prHd_mk, e1]; exact e2
      · rw [prTl_mk]; exact q.data
    · simp only [gat] at h
      split at h
      case h_2 => exact get_noG h
      split at h
      case h_2 => exact get_noG h
      obtain ⟨b, hb, rfl⟩ := T.get_mapO h
      exact i2 hlx _ _ hb
  | lx, .sl own e row r => by
    obtain ⟨j1, j2⟩ := gat_ok G (lx || !own) row
    obtain ⟨i1, i2⟩ := gat_ok G lx r
    refine ⟨fun cs vs a hc h => ?_, fun hlx cs a h => ?_⟩
    · simp only [gat] at h
      split at h
      case h_2 => exact get_noG h
      rename_i v us
      obtain ⟨b1, h1, h⟩ := T.get_bindO h
      obtain ⟨b2, h2, rfl⟩ := T.get_mapO h
      obtain ⟨V, Vs, g1, g2, rfl⟩ := concs_cons.1 hc
      obtain ⟨p, xs, F0, R0, F, R, k1, k2, k3, k4, k5, k6, k7⟩ := gatS_ok G and_not j1 j2 g1 h1
      obtain ⟨F2, R2, q⟩ := i1 _ _ _ g2 h2
      refine ⟨F ++ F2, R ++ R2, ⟨p, Vs, xs, F0, R0, F, R, F2, R2, ?_, ?_, ?_, ?_, rfl, rfl⟩, k4.append q.inF, k5.append q.inR, fun hn => nodup_two G k4 q.inF k6 q.nodup hn⟩
      · rw [prHd_mk, k1]
      · rw [prHd_mk]; exact k2
      · rw [prHd_mk]; exact k3
      · rw [prTl_mk]; exact q.data
    · simp only [gat] at h
      split at h
      case h_2 => exact get_noG h
      rename_i v us
      obtain ⟨b1, h1, h⟩ := T.get_bindO h
      obtain ⟨b2, h2, rfl⟩ := T.get_mapO h
      subst hlx
      simp only [Bool.not_true, Bool.and_false] at h1
      have : b1.2.1 = [] := by
        unfold gatS at h1
        split at h1
        · cases hb : Nat.blt 0 row.size with
          | false => rw [hb] at h1; exact get_noG h1
          | true => rw [hb] at h1; simp only [cond_true, T.get, Option.some.injEq] at h1; subst h1; rfl
        · rename_i n r0 o len c
          cases hcr : crossB lk false n row.size with
          | true =>
            rw [hcr] at h1
            simp only [cond_true, gatCr] at h1
            split at h1
            case h_2 => exact get_noG h1
            rename_i e' s cs k hy
            cases hb : (Nat.ble (r0 * s + o + len * row.size) cs.length && Nat.ble len k && Nat.blt 0 row.size) with
            | false => rw [hb] at h1; exact get_noG h1
            | true => rw [hb] at h1; obtain ⟨z, _, rfl⟩ := T.get_mapO h1; rfl
          | false =>
          rw [hcr] at h1
          simp only [cond_false] at h1
          cases hb : Nat.beq o 0 with
          | false => rw [hb] at h1; exact get_noG h1
          | true =>
            rw [hb] at h1
            simp only [cond_true] at h1
            obtain ⟨b, hb1, h1⟩ := T.get_bindO h1
            obtain ⟨_, rfl⟩ := whenG_get h1
            simp only [gatB] at hb1
            split at hb1
            · obtain ⟨z, _, rfl⟩ := T.get_mapO hb1; rfl
            · exact get_noG hb1
        · obtain ⟨b, hb1, h1⟩ := T.get_bindO h1
          obtain ⟨_, rfl⟩ := whenG_get h1
          simp only [gatB] at hb1
          split at hb1
          · obtain ⟨z, _, rfl⟩ := T.get_mapO hb1; rfl
          · exact get_noG hb1
        · exact get_noG h1
      simp [this, i2 rfl _ _ h2]
  | lx, .pt own e row r => by
    obtain ⟨j1, j2⟩ := gat_ok G (lx || !own) row
    obtain ⟨i1, i2⟩ := gat_ok G lx r
    refine ⟨fun cs vs a hc h => ?_, fun hlx cs a h => ?_⟩
    · simp only [gat] at h
      split at h
      case h_2 => exact get_noG h
      rename_i v us
      obtain ⟨b1, h1, h⟩ := T.get_bindO h
      obtain ⟨b2, h2, rfl⟩ := T.get_mapO h
      obtain ⟨V, Vs, g1, g2, rfl⟩ := concs_cons.1 hc
      obtain ⟨p, xs, F0, R0, F, R, k0, k1, k2, k3, k4, k5, k6, k7⟩ := gatP_ok G and_not j1 j2 g1 h1
      obtain ⟨F2, R2, q⟩ := i1 _ _ _ g2 h2
      refine ⟨F ++ F2, R ++ R2, ⟨p, Vs, xs, F0, R0, F, R, F2, R2, k0, ?_, ?_, ?_, ?_, rfl, rfl⟩, k4.append q.inF, k5.append q.inR, fun hn => nodup_two G k4 q.inF k6 q.nodup hn⟩
      · rw [k1]
      · rw [prHd_mk]; exact k2
      · exact k3
      · rw [prTl_mk]; exact q.data
    · simp only [gat] at h
      split at h
      case h_2 => exact get_noG h
      rename_i v us
      obtain ⟨b1, h1, h⟩ := T.get_bindO h
      obtain ⟨b2, h2, rfl⟩ := T.get_mapO h
      subst hlx
      simp only [Bool.not_true, Bool.and_false, Bool.true_or] at h1 j2
      simp [gatP_nil h1, i2 rfl _ _ h2]
  | lx, .po own e row r => by
    obtain ⟨j1, j2⟩ := gat_ok G (lx || !own) row
    obtain ⟨i1, i2⟩ := gat_ok G lx r
    refine ⟨fun cs vs a hc h => ?_, fun hlx cs a h => ?_⟩
    · simp only [gat] at h
      split at h
      · obtain ⟨b2, h2, rfl⟩ := T.get_mapO h
        obtain ⟨V, Vs, g1, g2, rfl⟩ := concs_cons.1 hc
        simp only [conc, Option.some.injEq] at g1
        obtain ⟨F2, R2, q⟩ := i1 _ _ _ g2 h2
        refine ⟨[] ++ F2, [] ++ R2, ⟨V, Vs, [], [], F2, R2, rfl, rfl, rfl, ?_, ?_⟩, q.inF, q.inR, q.nodup⟩
        · rw [prTl_mk]; exact q.data
        · rw [prHd_mk]; exact ⟨g1.symm, rfl, rfl⟩
      · rename_i v us _
        obtain ⟨b1, h1, h⟩ := T.get_bindO h
        obtain ⟨b2, h2, rfl⟩ := T.get_mapO h
        obtain ⟨V, Vs, g1, g2, rfl⟩ := concs_cons.1 hc
        obtain ⟨p, xs, F0, R0, F, R, k0, k1, k2, k3, k4, k5, k6, k7⟩ := gatP_ok G and_not j1 j2 g1 h1
        obtain ⟨F2, R2, q⟩ := i1 _ _ _ g2 h2
        refine ⟨F ++ F2, R ++ R2, ⟨V, Vs, F, R, F2, R2, rfl, rfl, rfl, ?_, ?_⟩, k4.append q.inF, k5.append q.inR, fun hn => nodup_two G k4 q.inF k6 q.nodup hn⟩
        · rw [prTl_mk]; exact q.data
        · rw [prHd_mk]; exact ⟨p, xs, F0, R0, k0, k1, k2, k3⟩
      · exact get_noG h
    · simp only [gat] at h
      split at h
      · obtain ⟨b2, h2, rfl⟩ := T.get_mapO h
        exact i2 hlx _ _ h2
      · obtain ⟨b1, h1, h⟩ := T.get_bindO h
        obtain ⟨b2, h2, rfl⟩ := T.get_mapO h
        subst hlx
        simp only [Bool.not_true, Bool.and_false] at h1
        simp [gatP_nil h1, i2 rfl _ _ h2]
      · exact get_noG h
  | lx, .mp k key row r => by
    obtain ⟨j1, j2⟩ := gat_ok G lx row
    obtain ⟨i1, i2⟩ := gat_ok G lx r
    refine ⟨fun cs vs a hc h => ?_, fun hlx cs a h => ?_⟩
    · simp only [gat] at h
      split at h
      case h_2 => exact get_noG h
      rename_i v us
      obtain ⟨b1, h1, h⟩ := T.get_bindO h
      obtain ⟨b2, h2, rfl⟩ := T.get_mapO h
      obtain ⟨V, Vs, g1, g2, rfl⟩ := concs_cons.1 hc
      obtain ⟨F, R, k1, k4, k5, k6, k7⟩ := gatO_ok G rfl j1 j2 g1 h1
      obtain ⟨F2, R2, q⟩ := i1 _ _ _ g2 h2
      refine ⟨F ++ F2, R ++ R2, ⟨V, Vs, F, R, F2, R2, rfl, ?_, ?_, rfl, rfl⟩, k4.append q.inF, k5.append q.inR, fun hn => nodup_two G k4 q.inF k6 q.nodup hn⟩
      · rw [prHd_mk]; exact k1
      · rw [prTl_mk]; exact q.data
    · simp only [gat] at h
      split at h
      case h_2 => exact get_noG h
      rename_i v us
      obtain ⟨b1, h1, h⟩ := T.get_bindO h
      obtain ⟨b2, h2, rfl⟩ := T.get_mapO h
      subst hlx
      simp [gatO_nil (j2 rfl) h1, i2 rfl _ _ h2]
  | lx, .ag tg row r => by
    obtain ⟨j1, j2⟩ := gat_ok G lx row
    obtain ⟨i1, i2⟩ := gat_ok G lx r
    refine ⟨fun cs vs a hc h => ?_, fun hlx cs a h => ?_⟩
    · simp only [gat] at h
      split at h
      case h_2 => exact get_noG h
      rename_i v us
      split at h
      case h_2 => exact get_noG h
      rename_i xs hxs
      obtain ⟨b1, h1, h⟩ := T.get_bindO h
      obtain ⟨b2, h2, rfl⟩ := T.get_mapO h
      obtain ⟨V, Vs, g1, g2, rfl⟩ := concs_cons.1 hc
      obtain ⟨Xs, rfl, g3⟩ := aggOf_conc hxs g1
      obtain ⟨F1, R1, q1⟩ := j1 _ _ _ g3 h1
      obtain ⟨F2, R2, q2⟩ := i1 _ _ _ g2 h2
      refine ⟨F1 ++ F2, R1 ++ R2, ⟨Xs, Vs, F1, R1, F2, R2, rfl, ?_, ?_, rfl, rfl⟩, q1.inF.append q2.inF, q1.inR.append q2.inR, fun hn => nodup_two G q1.inF q2.inF q1.nodup q2.nodup hn⟩
      · rw [prHd_mk]; exact q1.data
      · rw [prTl_mk]; exact q2.data
    · simp only [gat] at h
      split at h
      case h_2 => exact get_noG h
      split at h
      case h_2 => exact get_noG h
      obtain ⟨b1, h1, h⟩ := T.get_bindO h
      obtain ⟨b2, h2, rfl⟩ := T.get_mapO h
      simp [j2 hlx _ _ h1, i2 hlx _ _ h2]
end
/-! All names that are gathered are there. -/
def Som {α : Type} (lk : Nat → Option AB) (t : Gt α) : Prop := ∀ a, t.get = some a → ∀ m ∈ a.2.1 ++ a.2.2, (lk m).isSome = true
theorem gatRows_some {α : Type} {lk : Nat → Option AB} {g : List AV → Gt α} (hg : ∀ cs, Som lk (g cs)) {s : Nat} : ∀ (n : Nat) (cs : List AV), Som lk (gatRows g s n cs)
  | 0, cs => fun a h => by
    simp only [gatRows] at h
    split at h
    · simp only [T.get, Option.some.injEq] at h; subst h; intro m hm; simp at hm
    · exact get_noG h
  | n + 1, cs => fun a h => by
    simp only [gatRows] at h
    obtain ⟨a1, h1, h⟩ := T.get_bindO h
    obtain ⟨a2, h2, rfl⟩ := T.get_mapO h
    intro m hm
    have i1 := hg _ a1 h1 m
    have i2 := gatRows_some hg n _ a2 h2 m
    simp only [List.mem_append] at hm i1 i2
    rcases hm with (h | h) | (h | h)
    · exact i1 (.inl h)
    · exact i2 (.inl h)
    · exact i1 (.inr h)
    · exact i2 (.inr h)
theorem gatM_some {lk : Nat → Option AB} {row : Sh} {g : List AV → Gt (Den row)} (hg : ∀ cs, Som lk (g cs)) (y : M) : Som lk (gatM row g y) := by
  intro a h
  cases y with
  | raw e s cs =>
    simp only [gatM] at h
    cases hb : (Nat.beq s row.size && Nat.blt 0 s) with
    | false => rw [hb] at h; exact get_noG h
    | true => rw [hb] at h; exact gatRows_some hg _ _ a h
  | rows e sh l =>
    simp only [gatM] at h
    split at h
    · simp only [T.get, Option.some.injEq] at h; subst h; intro m hm; simp at hm
    · exact get_noG h
  | hol e sh l i q cs =>
    simp only [gatM] at h
    split at h
    · obtain ⟨b, hb, rfl⟩ := T.get_mapO h; exact hg _ b hb
    · exact get_noG h
theorem gatB_some {lk : Nat → Option AB} {own : Bool} {e : TypeId} {row : Sh} {g : List AV → Gt (Den row)} (hg : ∀ cs, Som lk (g cs)) (n : Nat) : Som lk (gatB lk own e row g n) := by
  intro a h
  unfold gatB at h
  cases own with
  | true =>
    simp only at h
    split at h
    case h_2 => exact get_noG h
    rename_i y hy
    cases hb : Nat.beq y.e e with
    | false => rw [hb] at h; exact get_noG h
    | true =>
      rw [hb] at h
      obtain ⟨b, hb, rfl⟩ := T.get_mapO h
      intro m hm
      simp only [List.cons_append, List.mem_cons] at hm
      rcases hm with rfl | hm
      · rw [hy]; rfl
      · exact gatM_some hg y b hb m hm
  | false =>
    simp only at h
    split at h
    case h_2 => exact get_noG h
    rename_i y hy
    obtain ⟨b, hb, rfl⟩ := T.get_mapO h
    intro m hm
    simp only [List.nil_append, List.mem_cons] at hm
    rcases hm with rfl | hm
    · obtain ⟨c, hc, _⟩ := Option.bind_eq_some_iff.1 hy; rw [hc]; rfl
    · exact gatM_some hg y b hb m hm
theorem gatCr_some {lk : Nat → Option AB} {row : Sh} {g : List AV → Gt (Den row)} (hg : ∀ cs, Som lk (g cs)) {n r o len : Nat} {c : Option Nat} : Som lk (gatCr lk row g n r o len c) := by
  intro a h
  unfold gatCr at h
  split at h
  case h_2 => exact get_noG h
  rename_i e' s cs k hy
  cases hb : (Nat.ble (r * s + o + len * row.size) cs.length && Nat.ble len k && Nat.blt 0 row.size) with
  | false => rw [hb] at h; exact get_noG h
  | true =>
    rw [hb] at h
    obtain ⟨b, hg1, rfl⟩ := T.get_mapO h
    intro m hm
    simp only [List.nil_append, List.mem_cons] at hm
    rcases hm with rfl | hm
    · obtain ⟨c', hc, _⟩ := Option.bind_eq_some_iff.1 hy; rw [hc]; rfl
    · exact gatRows_some hg _ _ b hg1 m hm
theorem gatS_some {lk : Nat → Option AB} {own : Bool} {e : TypeId} {row : Sh} {g : List AV → Gt (Den row)} (hg : ∀ cs, Som lk (g cs)) (v : AV) : Som lk (gatS lk own e row g v) := by
  intro a h
  unfold gatS at h
  split at h
  · cases hb : Nat.blt 0 row.size with
    | false => rw [hb] at h; exact get_noG h
    | true => rw [hb] at h; simp only [cond_true, T.get, Option.some.injEq] at h; subst h; intro m hm; simp at hm
  · rename_i n r o len c
    cases hcr : crossB lk own n row.size with
    | true => rw [hcr] at h; exact gatCr_some hg a h
    | false =>
    rw [hcr] at h
    simp only [cond_false] at h
    cases hb : Nat.beq o 0 with
    | false => rw [hb] at h; exact get_noG h
    | true =>
      rw [hb] at h
      simp only [cond_true] at h
      · obtain ⟨b, hb1, h⟩ := T.get_bindO h
        obtain ⟨_, rfl⟩ := whenG_get h
        exact gatB_some hg n b hb1
  · rename_i n r0 r
    obtain ⟨b, hb1, h⟩ := T.get_bindO h
    obtain ⟨_, rfl⟩ := whenG_get h
    exact gatB_some hg n b hb1
  · exact get_noG h
theorem gatP_some {lk : Nat → Option AB} {own : Bool} {e : TypeId} {row : Sh} {g : List AV → Gt (Den row)} (hg : ∀ cs, Som lk (g cs)) (v : AV) : Som lk (gatP lk own e row g v) := by
  intro a h
  unfold gatP at h
  split at h
  case h_2 => exact get_noG h
  rename_i n r o
  cases hb : (Nat.beq o 0 && Nat.beq r 0) with
  | false => rw [hb] at h; exact get_noG h
  | true =>
    rw [hb] at h
    simp only [cond_true] at h
    obtain ⟨b, hb1, h⟩ := T.get_bindO h
    split at h
    case h_2 => exact get_noG h
    simp only [T.get, Option.some.injEq] at h
    subst h
    exact gatB_some hg n b hb1
theorem gatE_some {α : Type} {lk : Nat → Option AB} {key : Sh} {g : List AV → Gt α} (hg : ∀ cs, Som lk (g cs)) : ∀ (es : List (AV × AV × Nat)), Som lk (gatE key g es)
  | [] => fun a h => by simp only [gatE, T.get, Option.some.injEq] at h; subst h; intro m hm; simp at hm
  | (k, v, b) :: es => fun a h => by
    simp only [gatE] at h
    split at h
    case h_2 => exact get_noG h
    obtain ⟨a1, h1, h⟩ := T.get_bindO h
    obtain ⟨a2, h2, rfl⟩ := T.get_mapO h
    intro m hm
    have i1 := hg _ a1 h1 m
    have i2 := gatE_some hg es a2 h2 m
    simp only [List.mem_append] at hm i1 i2
    rcases hm with (h | h) | (h | h)
    · exact i1 (.inl h)
    · exact i2 (.inl h)
    · exact i1 (.inr h)
    · exact i2 (.inr h)
theorem nmO_mem {own : Bool} {n : Nat} {as bs : List Nat} {m : Nat} (h : m ∈ (nmO own n as bs).1 ++ (nmO own n as bs).2) : m = n ∨ m ∈ as ++ bs := by
  cases own <;> simp [nmO] at h ⊢ <;> exact h
theorem gatO_some {lk : Nat → Option AB} {own : Bool} {key row : Sh} {g : List AV → Gt (Den row)} (hg : ∀ cs, Som lk (g cs)) {k : Obk} {v : AV} : Som lk (gatO lk own key row g k v) := by
  intro a h
  cases k with
  | map =>
    simp only [gatO] at h
    split at h
    case h_2 => exact get_noG h
    rename_i n
    split at h
    · rename_i o _ _ _ hb
      split at h
      case isFalse => exact get_noG h
      split at h
      case isFalse => exact get_noG h
      cases ho : (o || !own) with
      | false => rw [ho] at h; exact get_noG h
      | true =>
        rw [ho] at h
        simp only [cond_true, T.get, Option.some.injEq] at h
        subst h
        intro m hm
        rcases nmO_mem hm with rfl | hm
        · rw [hb]; rfl
        · simp at hm
    · rename_i o _ _ _ _ _ hb
      split at h
      case isFalse => exact get_noG h
      split at h
      case isFalse => exact get_noG h
      cases ho : (o || !own) with
      | false => rw [ho] at h; exact get_noG h
      | true =>
        rw [ho] at h
        obtain ⟨a1, h1, rfl⟩ := T.get_mapO h
        intro m hm
        rcases nmO_mem hm with rfl | hm
        · rw [hb]; rfl
        · exact hg _ a1 h1 m hm
    · rename_i es c hb
      obtain ⟨a1, h1, rfl⟩ := T.get_mapO h
      intro m hm
      rcases nmO_mem hm with rfl | hm
      · rw [hb]; rfl
      · exact gatE_some hg es a1 h1 m hm
    · exact get_noG h
  | ob j =>
    simp only [gatO] at h
    split at h
    case h_2 => exact get_noG h
    rename_i n
    split at h
    case h_2 => exact get_noG h
    rename_i o _ _ _ _ hb
    split at h
    case isFalse => exact get_noG h
    cases ho : (o || !own) with
    | false => rw [ho] at h; exact get_noG h
    | true =>
      rw [ho] at h
      simp only [cond_true, T.get, Option.some.injEq] at h
      subst h
      intro m hm
      rcases nmO_mem hm with rfl | hm
      · rw [hb]; rfl
      · simp at hm
theorem gat_some (lk : Nat → Option AB) : ∀ (lx : Bool) (sh : Sh) (cs : List AV), Som lk (gat lk lx sh cs)
  | lx, .nil, cs => fun a h => by
    simp only [gat] at h
    split at h
    · simp only [T.get, Option.some.injEq] at h; subst h; intro m hm; simp at hm
    · exact get_noG h
  | lx, .sc c r, cs => fun a h => by
    simp only [gat] at h
    split at h
    case h_2 => exact get_noG h
    split at h
    case h_2 => exact get_noG h
    obtain ⟨b, hb, rfl⟩ := T.get_mapO h
    exact gat_some lk lx r _ b hb
  | lx, .sl own e row r, cs => fun a h => by
    simp only [gat] at h
    split at h
    case h_2 => exact get_noG h
    obtain ⟨b1, h1, h⟩ := T.get_bindO h
    obtain ⟨b2, h2, rfl⟩ := T.get_mapO h
    have i1 := gatS_some (gat_some lk _ row) _ b1 h1
    have i2 := gat_some lk lx r _ b2 h2
    intro m hm
    have i1 := i1 m
    have i2 := i2 m
    simp only [List.mem_append] at hm i1 i2
    rcases hm with (h | h) | (h | h)
    · exact i1 (.inl h)
    · exact i2 (.inl h)
    · exact i1 (.inr h)
    · exact i2 (.inr h)
  | lx, .pt own e row r, cs => fun a h => by
    simp only [gat] at h
    split at h
    case h_2 => exact get_noG h
    obtain ⟨b1, h1, h⟩ := T.get_bindO h
    obtain ⟨b2, h2, rfl⟩ := T.get_mapO h
    have i1 := gatP_some (gat_some lk _ row) _ b1 h1
    have i2 := gat_some lk lx r _ b2 h2
    intro m hm
    have i1 := i1 m
    have i2 := i2 m
    simp only [List.mem_append] at hm i1 i2
    rcases hm with (h | h) | (h | h)
    · exact i1 (.inl h)
    · exact i2 (.inl h)
    · exact i1 (.inr h)
    · exact i2 (.inr h)
  | lx, .po own e row r, cs => fun a h => by
    simp only [gat] at h
    split at h
    · obtain ⟨b2, h2, rfl⟩ := T.get_mapO h
      exact gat_some lk lx r _ b2 h2
    · obtain ⟨b1, h1, h⟩ := T.get_bindO h
      obtain ⟨b2, h2, rfl⟩ := T.get_mapO h
      have i1 := gatP_some (gat_some lk _ row) _ b1 h1
      have i2 := gat_some lk lx r _ b2 h2
      intro m hm
      have i1 := i1 m
      have i2 := i2 m
      simp only [List.mem_append] at hm i1 i2
      rcases hm with (h | h) | (h | h)
      · exact i1 (.inl h)
      · exact i2 (.inl h)
      · exact i1 (.inr h)
      · exact i2 (.inr h)
    · exact get_noG h
  | lx, .mp k key row r, cs => fun a h => by
    simp only [gat] at h
    split at h
    case h_2 => exact get_noG h
    obtain ⟨b1, h1, h⟩ := T.get_bindO h
    obtain ⟨b2, h2, rfl⟩ := T.get_mapO h
    have i1 := gatO_some (gat_some lk _ row) b1 h1
    have i2 := gat_some lk lx r _ b2 h2
    intro m hm
    have i1 := i1 m
    have i2 := i2 m
    simp only [List.mem_append] at hm i1 i2
    rcases hm with (h | h) | (h | h)
    · exact i1 (.inl h)
    · exact i2 (.inl h)
    · exact i1 (.inr h)
    · exact i2 (.inr h)
  | lx, .ag tg row r, cs => fun a h => by
    simp only [gat] at h
    split at h
    case h_2 => exact get_noG h
    split at h
    case h_2 => exact get_noG h
    obtain ⟨b1, h1, h⟩ := T.get_bindO h
    obtain ⟨b2, h2, rfl⟩ := T.get_mapO h
    have i1 := gat_some lk lx row _ b1 h1
    have i2 := gat_some lk lx r _ b2 h2
    intro m hm
    have i1 := i1 m
    have i2 := i2 m
    simp only [List.mem_append] at hm i1 i2
    rcases hm with (h | h) | (h | h)
    · exact i1 (.inl h)
    · exact i2 (.inl h)
    · exact i1 (.inr h)
    · exact i2 (.inr h)
end Go.Proofs.YtpfbpcaehmhefaaDoorB.Sx
