/- The engine, part 1: named blocks, what they say of a world, and how one effect carries that on. -/
import Derived.Test.YtemggodhikpmdaaYM
namespace Go.Proofs.Ytemggodhikpmdaa.Sx
open Go.RowKit
set_option linter.unusedSimpArgs false
set_option linter.unusedVariables false

/-- What a named block holds. 'own': memory of the call's own (or handed over); 'ro': old memory, read only; 'mp': a map of the call's own; 'sit': an iterator over a string; 'emp': nothing that may be looked at. -/
inductive AB where
  | own (x : M)
  | ro (x : M)
  | mp (es : List (AV × AV × Nat)) (clk : Nat)
  | sit (s : ByteArray) (pos : Nat)
  | emp

def concE (E : Env) : List (AV × AV × Nat) → Option (List MapEntry)
  | [] => some []
  | (k, v, b) :: r => (conc E k).bind fun k => (conc E v).bind fun v => (concE E r).map fun r => { key := k, val := v, born := b } :: r
theorem concE_mono {E E' : Env} (h : E.le E') : ∀ (l : List (AV × AV × Nat)) (es : List MapEntry), concE E l = some es → concE E' l = some es
  | [], es, e => by simpa [concE] using e
  | (k, v, b) :: r, es, e => by
    simp only [concE, Option.bind_eq_some_iff, Option.map_eq_some_iff] at e ⊢
    obtain ⟨K, hk, V, hv, R, hr, e⟩ := e
    exact ⟨K, conc_mono h k K hk, V, conc_mono h v V hv, R, concE_mono h r R hr, e⟩
def namesE : List (AV × AV × Nat) → List Nat
  | [] => []
  | (k, v, _) :: r => k.names ++ v.names ++ namesE r
theorem concE_congr {E E' : Env} : ∀ (l : List (AV × AV × Nat)), (∀ n ∈ namesE l, E' n = E n) → concE E' l = concE E l
  | [], h => rfl
  | (k, v, b) :: r, h => by
    simp only [concE]
    rw [conc_congr k (fun n hn => h n (by simp [namesE, hn])), conc_congr v (fun n hn => h n (by simp [namesE, hn])), concE_congr r (fun n hn => h n (by simp [namesE, hn]))]

def AB.foot (p : Pl) : AB → Option Nat
  | .own _ => if p.nil then none else some p.block
  | .mp _ _ => some p.block
  | .sit _ _ => some p.block
  | _ => none
def AB.old (p : Pl) : AB → Option Nat
  | .ro _ => if p.nil then none else some p.block
  | _ => none
/-- The whole row's slice value. -/
def Pl.whole (p : Pl) (n : Nat) : Value := .slice (p.ptr 0 0) n p.cap
def AB.holds (E : Env) (w : World) (p : Pl) : AB → Prop
  | .own x => p.base = 0 ∧ p.stride = x.size ∧ 0 < x.size ∧ ∃ vs, concs E x.flat = some vs ∧ w.ownsRow 0 x.e x.size (p.whole x.len) x.len vs
  | .ro x => p.stride = x.size ∧ (p.nil = true → x.flat = [] ∧ x.len = 0) ∧ (p.nil = false → p.block < w.heap.size) ∧
      ∀ k v, x.flat[k]? = some v → ∃ V, conc E v = some V ∧ w.cell? ⟨p.block, p.base + k, none⟩ = some V
  | .mp es c => ∃ l, concE E es = some l ∧ w.heap[p.block]? = some (.map l.toArray c)
  | .sit s i => p.base = 0 ∧ p.stride = 0 ∧ w.heap[p.block]? = some (.stringIter s i)
  | .emp => True

/-- From w on, nothing that was there has turned but the blocks in S. -/
structure Fr (S : Nat → Prop) (w w' : World) : Prop where
  os : w'.os = w.os
  tape : w'.tape = w.tape
  output : w'.output = w.output
  size : w.heap.size ≤ w'.heap.size
  block : ∀ k, k < w.heap.size → ¬ S k → w'.heap[k]? = w.heap[k]?
theorem Fr.refl (S : Nat → Prop) (w : World) : Fr S w w := ⟨rfl, rfl, rfl, Nat.le_refl _, fun _ _ _ => rfl⟩
theorem Fr.trans {S T : Nat → Prop} {a b c : World} (h : Fr S a b) (k : Fr T b c) (hT : ∀ i, T i → S i ∨ a.heap.size ≤ i) : Fr S a c :=
  ⟨k.os.trans h.os, k.tape.trans h.tape, k.output.trans h.output, Nat.le_trans h.size k.size, fun i hi hs =>
    (k.block i (Nat.lt_of_lt_of_le hi h.size) (fun ht => (hT i ht).elim hs (fun h' => by omega))).trans (h.block i hi hs)⟩
theorem Fr.below {w w' : World} (h : Fr (fun _ => False) w w') : Below w.heap.size w w' := ⟨h.os, h.tape, h.output, h.size, fun k hk => h.block k hk (fun x => x)⟩
theorem Fr.drew (S : Nat → Prop) (w : World) : Fr S w w.drew := ⟨rfl, rfl, rfl, Nat.le_refl _, fun _ _ _ => rfl⟩
theorem Fr.of_below {w w' : World} (h : Below w.heap.size w w') (S : Nat → Prop) : Fr S w w' := ⟨h.os, h.tape, h.output, h.size, fun k hk _ => h.block k hk⟩

theorem Pl.whole_block {p : Pl} {n : Nat} (h : p.nil = false) : (p.whole n).ownBlock = some p.block := by
  simp [Pl.whole, Pl.ptr, h, Value.ownBlock, Pl.addr]
theorem AB.foot_lt {E : Env} {w : World} {p : Pl} {b : AB} (h : b.holds E w p) {k : Nat} (hk : b.foot p = some k) : k < w.heap.size := by
  cases b with
  | own x =>
    obtain ⟨_, _, _, vs, _, ho⟩ := h
    simp only [AB.foot] at hk
    split at hk
    · cases hk
    · rename_i hn
      simp only [Option.some.injEq] at hk
      subst hk
      exact (ho.lt _ (Pl.whole_block (by simpa using hn))).2
  | ro x => simp [AB.foot] at hk
  | mp es c =>
    obtain ⟨l, _, hh⟩ := h
    simp only [AB.foot, Option.some.injEq] at hk
    subst hk
    exact (Array.getElem?_eq_some_iff.1 hh).1
  | sit s i =>
    obtain ⟨_, _, hh⟩ := h
    simp only [AB.foot, Option.some.injEq] at hk
    subst hk
    exact (Array.getElem?_eq_some_iff.1 hh).1
  | emp => simp [AB.foot] at hk

theorem ownsRow_same {w w' : World} {e : TypeId} {size n : Nat} {v : Value} {xs : List Value} (h : w.ownsRow 0 e size v n xs) (hs : ∀ k, v.ownBlock = some k → w'.heap[k]? = w.heap[k]?) : w'.ownsRow 0 e size v n xs := by
  obtain ⟨hl, h⟩ := h
  refine ⟨hl, ?_⟩
  rcases h with h | ⟨g, cap, cur, rfl, hg, hh, h1, h2, h3, h4⟩
  · exact .inl h
  · exact .inr ⟨g, cap, cur, rfl, hg, by rw [hs g rfl]; exact hh, h1, h2, h3, h4⟩

/-- What a block holds it holds on, where its own memory has not turned. -/
theorem AB.kept {E E' : Env} {w w' : World} {p : Pl} {b : AB} (hE : E.le E') (hz : w.heap.size ≤ w'.heap.size) (h : b.holds E w p)
    (hs : ∀ k, b.foot p = some k ∨ b.old p = some k → w'.heap[k]? = w.heap[k]?) : b.holds E' w' p := by
  cases b with
  | own x =>
    obtain ⟨h0, h1, h2, vs, hv, ho⟩ := h
    refine ⟨h0, h1, h2, vs, concs_mono hE _ _ hv, ownsRow_same ho (fun k hk => hs k (.inl ?_))⟩
    cases hn : p.nil with
    | true => simp [Pl.whole, Pl.ptr, hn, Value.ownBlock] at hk
    | false =>
      rw [Pl.whole_block hn] at hk
      simpa [AB.foot, hn] using hk
  | ro x =>
    obtain ⟨h0, hn, hlt, h⟩ := h
    refine ⟨h0, hn, fun hf => by have := hlt hf; omega, fun k v hv => ?_⟩
    obtain ⟨V, h1, h2⟩ := h k v hv
    refine ⟨V, conc_mono hE _ _ h1, ?_⟩
    have hnil : p.nil = false := by
      cases hn' : p.nil with
      | false => rfl
      | true => rw [(hn hn').1] at hv; simp at hv
    rw [World.cell?_of_block (w := w) (hs _ (.inr (by simp [AB.old, hnil])))]
    exact h2
  | mp es c =>
    obtain ⟨l, hl, hh⟩ := h
    exact ⟨l, concE_mono hE _ _ hl, by rw [hs _ (.inl rfl)]; exact hh⟩
  | sit s i =>
    obtain ⟨h0, h1, hh⟩ := h
    exact ⟨h0, h1, by rw [hs _ (.inl rfl)]; exact hh⟩
  | emp => trivial
theorem AB.mono {E E' : Env} {w : World} {p : Pl} {b : AB} (hE : E.le E') (h : b.holds E w p) : b.holds E' w p := AB.kept hE (Nat.le_refl _) h (fun _ _ => rfl)
def AB.names : AB → List Nat
  | .own x => x.names
  | .ro x => x.names
  | .mp es _ => namesE es
  | _ => []
theorem AB.congr {E E' : Env} {w : World} {p : Pl} {b : AB} (hE : ∀ n ∈ b.names, E' n = E n) (h : b.holds E w p) : b.holds E' w p := by
  cases b with
  | own x =>
    obtain ⟨h0, h1, h2, vs, hv, ho⟩ := h
    exact ⟨h0, h1, h2, vs, by rw [concs_congr _ (fun n hn => hE n (M.names_ok n hn))]; exact hv, ho⟩
  | ro x =>
    obtain ⟨h0, hn, hlt, h⟩ := h
    refine ⟨h0, hn, hlt, fun k v hv => ?_⟩
    obtain ⟨V, h1, h2⟩ := h k v hv
    refine ⟨V, ?_, h2⟩
    rw [conc_congr v (fun n hn => hE n (M.names_ok n ?_))]
    · exact h1
    · have hm := List.mem_of_getElem? hv
      clear hE h h1 hv
      generalize x.flat = l at hm ⊢
      induction l with
      | nil => simp at hm
      | cons u l ih =>
        simp only [namesL, List.mem_append]
        rcases List.mem_cons.1 hm with rfl | hm
        · exact .inl hn
        · exact .inr (ih hm)
  | mp es c =>
    obtain ⟨l, hl, hh⟩ := h
    exact ⟨l, by rw [concE_congr _ hE]; exact hl, hh⟩
  | sit s i => exact h
  | emp => trivial

/-- A heap of names, read by name. -/
abbrev Hp := List (Nat × Option AB)
def look : Hp → Nat → Option AB
  | [], _ => none
  | (m, b) :: r, n => bif Nat.beq m n then b else look r n

/-- What an operation or a call does: it comes to 'val', reads the names 'reads', turns the names 'upd' (none: that name is spent) and makes the names 'news', of 'nn' new ones. -/
structure Eff where
  val : AV
  reads : List Nat := []
  upd : Hp := []
  news : Hp := []
  nn : Nat := 0

def hasName : Hp → Nat → Bool
  | [], _ => false
  | (m, _) :: r, n => Nat.beq m n || hasName r n
/-- The names that an effect turns or makes. -/
def Eff.put (e : Eff) : Hp := e.upd ++ e.news

def lookO : Hp → Nat → Option (Option AB)
  | [], _ => none
  | (m, b) :: r, n => bif Nat.beq m n then some b else lookO r n
theorem look_append (a b : Hp) (n : Nat) : look (a ++ b) n = match lookO a n with | some x => x | none => look b n := by
  induction a with
  | nil => rfl
  | cons x a ih =>
    obtain ⟨m, c⟩ := x
    simp only [List.cons_append, look, lookO]
    cases Nat.beq m n with
    | true => rfl
    | false => exact ih
theorem lookO_none {a : Hp} {n : Nat} : lookO a n = none ↔ hasName a n = false := by
  induction a with
  | nil => simp [lookO, hasName]
  | cons x a ih =>
    obtain ⟨m, c⟩ := x
    simp only [lookO, hasName]
    cases Nat.beq m n <;> simp [ih]

def touched (E : Env) (hp : Nat → Option AB) (e : Eff) (k : Nat) : Prop := ∃ n b p, (lookO e.upd n).isSome ∧ hp n = some b ∧ E n = some p ∧ b.foot p = some k

/-- What has become of a world behind an effect. -/
structure Post (E : Env) (hp : Nat → Option AB) (w : World) (lo : Nat) (e : Eff) (E' : Env) (w' : World) : Prop where
  ext : E.le E'
  dom : ∀ n, E n = none → E' n ≠ none → lo ≤ n ∧ n < lo + e.nn
  fr : Fr (touched E hp e) w w'
  holds : ∀ n b, lookO e.put n = some (some b) → ∃ p, E' n = some p ∧ b.holds E' w' p
  feet : ∀ n b p k, lookO e.put n = some (some b) → E' n = some p → b.foot p = some k → touched E hp e k ∨ w.heap.size ≤ k
  noold : ∀ n b p, lookO e.put n = some (some b) → b.old p = none
  dist : ∀ n m b c p q k, lookO e.put n = some (some b) → lookO e.put m = some (some c) → E' n = some p → E' m = some q → b.foot p = some k → c.foot q = some k → n = m

/-- What is known of a world: nothing but S has turned since W0; each name holds what is said of it; own names lie apart. -/
structure Gam (W0 : World) (S : Nat → Prop) (E : Env) (hp : Nat → Option AB) (w : World) : Prop where
  fr : Fr S W0 w
  holds : ∀ n b, hp n = some b → ∃ p, E n = some p ∧ b.holds E w p
  feet : ∀ n b p k, hp n = some b → E n = some p → b.foot p = some k → S k ∨ W0.heap.size ≤ k
  old : ∀ n b p k, hp n = some b → E n = some p → b.old p = some k → k < W0.heap.size ∧ ¬ S k
  dist : ∀ n m b c p q k, hp n = some b → hp m = some c → E n = some p → E m = some q → b.foot p = some k → c.foot q = some k → n = m

def after (hp : Nat → Option AB) (e : Eff) (n : Nat) : Option AB :=
  match lookO e.put n with
  | some x => x
  | none => hp n

theorem lookO_append (a b : Hp) (n : Nat) : lookO (a ++ b) n = match lookO a n with | some x => some x | none => lookO b n := by
  induction a with
  | nil => rfl
  | cons x a ih =>
    obtain ⟨m, c⟩ := x
    simp only [List.cons_append, lookO]
    cases Nat.beq m n with
    | true => rfl
    | false => exact ih

theorem Gam.apply {W0 : World} {S : Nat → Prop} {E E' : Env} {hp : Nat → Option AB} {w w' : World} {e : Eff} (h : Gam W0 S E hp w) {lo : Nat} (k : Post E hp w lo e E' w') : Gam W0 S E' (after hp e) w' := by
  have htouch : ∀ i, touched E hp e i → S i ∨ W0.heap.size ≤ i := fun i ⟨n, b, p, _, h1, h2, h3⟩ => h.feet n b p i h1 h2 h3
  have hsz := h.fr.size
  -- what is not put is as it was
  have keep : ∀ n b, lookO e.put n = none → hp n = some b → ∃ p, E n = some p ∧ E' n = some p ∧ b.holds E w p ∧ b.holds E' w' p := by
    intro n b hn hb
    obtain ⟨p, hp1, hh⟩ := h.holds n b hb
    refine ⟨p, hp1, k.ext n p hp1, hh, AB.kept k.ext k.fr.size hh ?_⟩
    intro i hi
    rcases hi with hi | hi
    · refine k.fr.block i (AB.foot_lt hh hi) ?_
      rintro ⟨m, c, q, hm, hc, hq, hf⟩
      have := h.dist n m b c p q i hb hc hp1 hq hi hf
      subst this
      rw [Eff.put, lookO_append] at hn
      cases hu : lookO e.upd n with
      | none => rw [hu] at hm; simp at hm
      | some x => rw [hu] at hn; simp at hn
    · obtain ⟨h1, h2⟩ := h.old n b p i hb hp1 hi
      refine k.fr.block i (by omega) ?_
      intro ht
      rcases htouch i ht with h3 | h3
      · exact h2 h3
      · omega
  have cases_ : ∀ n b, after hp e n = some b → (lookO e.put n = some (some b)) ∨ (lookO e.put n = none ∧ hp n = some b) := by
    intro n b hb
    unfold after at hb
    cases hl : lookO e.put n with
    | none => rw [hl] at hb; exact .inr ⟨rfl, hb⟩
    | some x => rw [hl] at hb; simp only at hb; subst hb; exact .inl rfl
  refine ⟨h.fr.trans k.fr htouch, ?_, ?_, ?_, ?_⟩
  · intro n b hb
    rcases cases_ n b hb with hl | ⟨hl, hb⟩
    · exact k.holds n b hl
    · obtain ⟨p, _, h2, _, h4⟩ := keep n b hl hb
      exact ⟨p, h2, h4⟩
  · intro n b p i hb hp' hf
    rcases cases_ n b hb with hl | ⟨hl, hb⟩
    · rcases k.feet n b p i hl hp' hf with h1 | h1
      · exact htouch i h1
      · exact .inr (by omega)
    · obtain ⟨q, h1, h2, _, _⟩ := keep n b hl hb
      obtain rfl : q = p := Option.some.inj (h2.symm.trans hp')
      exact h.feet n b q i hb h1 hf
  · intro n b p i hb hp' hf
    rcases cases_ n b hb with hl | ⟨hl, hb⟩
    · rw [k.noold n b p hl] at hf; cases hf
    · obtain ⟨q, h1, h2, _, _⟩ := keep n b hl hb
      obtain rfl : q = p := Option.some.inj (h2.symm.trans hp')
      exact h.old n b q i hb h1 hf
  · have mixed : ∀ n m b c p q i, lookO e.put n = some (some b) → lookO e.put m = none → hp m = some c → E' n = some p → E' m = some q → b.foot p = some i → c.foot q = some i → False := by
      intro n m b c p q i hn hm hc hp1 hq1 hfb hfc
      obtain ⟨q', g1, g2, g3, _⟩ := keep m c hm hc
      obtain rfl : q' = q := Option.some.inj (g2.symm.trans hq1)
      rcases k.feet n b p i hn hp1 hfb with ⟨n0, b0, p0, h0, h1, h2, h3⟩ | hge
      · have := h.dist n0 m b0 c p0 q' i h1 hc h2 g1 h3 hfc
        subst this
        rw [Eff.put, lookO_append] at hm
        cases hu : lookO e.upd n0 with
        | none => rw [hu] at h0; simp at h0
        | some x => rw [hu] at hm; simp at hm
      · have := AB.foot_lt g3 hfc
        omega
    intro n m b c p q i hb hc hp1 hq1 hfb hfc
    rcases cases_ n b hb with hn | ⟨hn, hb⟩ <;> rcases cases_ m c hc with hm | ⟨hm, hc⟩
    · exact k.dist n m b c p q i hn hm hp1 hq1 hfb hfc
    · exact (mixed n m b c p q i hn hm hc hp1 hq1 hfb hfc).elim
    · exact (mixed m n c b q p i hm hn hb hq1 hp1 hfc hfb).elim
    · obtain ⟨p', g1, g2, _, _⟩ := keep n b hn hb
      obtain ⟨q', k1, k2, _, _⟩ := keep m c hm hc
      obtain rfl : p' = p := Option.some.inj (g2.symm.trans hp1)
      obtain rfl : q' = q := Option.some.inj (k2.symm.trans hq1)
      exact h.dist n m b c p' q' i hb hc g1 k1 hfb hfc
end Go.Proofs.Ytemggodhikpmdaa.Sx
