/- The engine, part 1: contents and named blocks, what they say of a world, and how one effect carries that on. -/
import Derived.Test.YtpfbpcaehmhefaaDoorBZS
namespace Go.Proofs.YtpfbpcaehmhefaaDoorB.Sx
open Go.RowKit
set_option linter.unusedSimpArgs false
set_option linter.unusedVariables false

/-- What a row of memory holds. 'raw': cells that are known one by one; 'rows': rows of a shape; 'hol': such rows, of which row i (its other name is q) is told cell by cell. -/
inductive M where
  | raw (e : TypeId) (size : Nat) (cs : List AV)
  | rows (e : TypeId) (sh : Sh) (l : List (Den sh))
  | hol (e : TypeId) (sh : Sh) (l : List (Den sh)) (i q : Nat) (cs : List AV)
def M.e : M → TypeId
  | .raw e _ _ => e
  | .rows e _ _ => e
  | .hol e _ _ _ _ _ => e
def M.size : M → Nat
  | .raw _ s _ => s
  | .rows _ sh _ => sh.size
  | .hol _ sh _ _ _ _ => sh.size
def M.len : M → Nat
  | .raw _ s cs => cs.length / s
  | .rows _ _ l => l.length
  | .hol _ _ l _ _ _ => l.length
def M.names : M → List Nat
  | .raw _ _ cs => namesL cs
  | .rows _ _ _ => []
  | .hol _ _ _ _ q cs => q :: namesL cs
/-- The cells' values are those that are told; F, R: what they lead to. -/
def M.reads (E : Env) (w : World) (lx : Bool) : M → List Value → List Nat → List Nat → Prop
  | .raw _ _ cs, vs, F, R => concs E cs = some vs ∧ F = [] ∧ R = []
  | .rows _ sh l, vs, F, R => rowsH (hold w lx sh) l vs F R
  | .hol _ sh l i _ cs, vs, F, R => ∃ v1 us v2 F1 R1 F2 R2, vs = v1 ++ us ++ v2 ∧ F = F1 ++ F2 ∧ R = R1 ++ R2 ∧ i < l.length ∧ rowsH (hold w lx sh) (l.take i) v1 F1 R1 ∧ concs E cs = some us ∧ us.length = sh.size ∧
      rowsH (hold w lx sh) (l.drop (i + 1)) v2 F2 R2
/-- The other name of the row that is told cell by cell. -/
def M.links (E : Env) (p : Pl) : M → Prop
  | .hol _ sh _ i q _ => ∃ pq, E q = some pq ∧ pq.nil = false ∧ pq.block = p.block ∧ pq.base = p.base + i * sh.size
  | _ => True
theorem M.reads_kept {E E' : Env} {w w' : World} {lx : Bool} {x : M} {vs : List Value} {F R : List Nat} (hE : E.le E') (h : x.reads E w lx vs F R) (hF : ∀ k ∈ F, w'.heap[k]? = w.heap[k]?) (hR : ∀ k ∈ R, w'.heap[k]? = w.heap[k]?) : x.reads E' w' lx vs F R := by
  have key : ∀ {sh : Sh} {l : List (Den sh)} {vs : List Value} {F R : List Nat}, rowsH (hold w lx sh) l vs F R → (∀ k ∈ F, w'.heap[k]? = w.heap[k]?) → (∀ k ∈ R, w'.heap[k]? = w.heap[k]?) → rowsH (hold w' lx sh) l vs F R :=
    fun h hF hR => rowsH_imp h (fun d ys F' R' a b c => hold_kept _ _ d ys F' R' c (fun k hk => hF k (a k hk)) (fun k hk => hR k (b k hk)))
  cases x with
  | raw e s cs =>
    obtain ⟨h1, rfl, rfl⟩ := h
    exact ⟨concs_mono hE _ _ h1, rfl, rfl⟩
  | rows e sh l => exact key h hF hR
  | hol e sh l i q cs =>
    obtain ⟨v1, us, v2, F1, R1, F2, R2, rfl, rfl, rfl, h0, h1, h2, h3, h4⟩ := h
    exact ⟨v1, us, v2, F1, R1, F2, R2, rfl, rfl, rfl, h0, key h1 (fun k hk => hF k (by simp [hk])) (fun k hk => hR k (by simp [hk])), concs_mono hE _ _ h2, h3, key h4 (fun k hk => hF k (by simp [hk])) (fun k hk => hR k (by simp [hk]))⟩
theorem M.links_mono {E E' : Env} {p : Pl} {x : M} (hE : E.le E') (h : x.links E p) : x.links E' p := by
  cases x with
  | hol e sh l i q cs =>
    obtain ⟨pq, h1, h2⟩ := h
    exact ⟨pq, hE q pq h1, h2⟩
  | _ => trivial
theorem M.reads_congr {E E' : Env} {w : World} {lx : Bool} {x : M} {vs : List Value} {F R : List Nat} (hE : ∀ n ∈ x.names, E' n = E n) (h : x.reads E w lx vs F R) : x.reads E' w lx vs F R := by
  cases x with
  | raw e s cs =>
    obtain ⟨h1, rfl, rfl⟩ := h
    exact ⟨by rw [concs_congr cs (fun n hn => hE n hn)]; exact h1, rfl, rfl⟩
  | rows e sh l => exact h
  | hol e sh l i q cs =>
    obtain ⟨v1, us, v2, F1, R1, F2, R2, rfl, rfl, rfl, h0, h1, h2, h3, h4⟩ := h
    exact ⟨v1, us, v2, F1, R1, F2, R2, rfl, rfl, rfl, h0, h1, by rw [concs_congr cs (fun n hn => hE n (by simp [M.names, hn]))]; exact h2, h3, h4⟩
theorem M.links_congr {E E' : Env} {p : Pl} {x : M} (hE : ∀ n ∈ x.names, E' n = E n) (h : x.links E p) : x.links E' p := by
  cases x with
  | hol e sh l i q cs =>
    obtain ⟨pq, h1, h2⟩ := h
    exact ⟨pq, by rw [hE q (by simp [M.names])]; exact h1, h2⟩
  | _ => trivial
theorem M.reads_lt {E : Env} {w : World} {lx : Bool} {x : M} {vs : List Value} {F R : List Nat} (h : x.reads E w lx vs F R) : (∀ k ∈ F, k < w.heap.size) ∧ (∀ k ∈ R, k < w.heap.size) := by
  cases x with
  | raw e s cs =>
    obtain ⟨_, rfl, rfl⟩ := h
    exact ⟨fun k hk => by simp at hk, fun k hk => by simp at hk⟩
  | rows e sh l => exact rowsH_lt (fun d ys F R h => hold_lt lx sh d ys F R h) h
  | hol e sh l i q cs =>
    obtain ⟨v1, us, v2, F1, R1, F2, R2, rfl, rfl, rfl, h0, h1, h2, h3, h4⟩ := h
    have a := rowsH_lt (w := w) (fun d ys F R h => hold_lt lx sh d ys F R h) h1
    have b := rowsH_lt (w := w) (fun d ys F R h => hold_lt lx sh d ys F R h) h4
    exact ⟨lt_append a.1 b.1, lt_append a.2 b.2⟩

/-- What a named block holds. 'own': memory of one's own; 'ro': memory that is read only; 'al m': a row of m, told there; 'mp': a map of the call's own; 'sit': an iterator over a string; 'nan': the bits of a NaN; 'obj': an object, as data; 'mph': a map as data, of which entry i's value is told apart; 'emp': nothing that may be looked at. -/
inductive AB where
  | own (x : M)
  | ro (x : M)
  | al (m : Nat)
  | mp (es : List (AV × AV × Nat)) (clk : Nat)
  | sit (s : ByteArray) (pos : Nat)
  | nan
  | tb (q : IntKind) (es : List (Int × Nat))
  | obj (own : Bool) (k : Obk) (key row : Sh) (d : k.den (List (Den key × Den row)))
  | mph (own : Bool) (key row : Sh) (l : List (Den key × Den row)) (i : Nat) (v : AV)
  | emp

def concE (E : Env) : List (AV × AV × Nat) → Option (List MapEntry)
  | [] => some []
  | (k, v, b) :: r => (conc E k).bind fun k => (conc E v).bind fun v => (concE E r).map fun r => { key := k, val := v, born := b } :: r
theorem concE_mono {E E' : Env} (h : E.le E') : ∀ (l : List (AV × AV × Nat)) (es : List MapEntry), concE E l = some es → concE E' l = some es
  | [], es, e => by simpa [concE] using e
  | (k, v, b) :: r, es, e => by
    simp only [concE, Option.bind_eq_some_iff, Option.map_eq_some_iff] at e ⊢
    obtain ⟨K, hk, V, hv, R, hr, e⟩ := e
    exact ⟨K, conc_mono h k K hk, V, conc_mono h v V hv, R, concE_mono h r R hr, e⟩
def namesE : List (AV × AV × Nat) → List Nat
  | [] => []
  | (k, v, _) :: r => k.names ++ v.names ++ namesE r
theorem concE_congr {E E' : Env} : ∀ (l : List (AV × AV × Nat)), (∀ n ∈ namesE l, E' n = E n) → concE E' l = concE E l
  | [], h => rfl
  | (k, v, b) :: r, h => by
    simp only [concE]
    rw [conc_congr k (fun n hn => h n (by simp [namesE, hn])), conc_congr v (fun n hn => h n (by simp [namesE, hn])), concE_congr r (fun n hn => h n (by simp [namesE, hn]))]

/-- A map of functions, as it lies. -/
def TabAt (w : World) (b : Nat) (q : IntKind) (es : List (Int × Nat)) : Prop :=
  ∃ l c, w.heap[b]? = some (.map l c) ∧ (∀ e ∈ l.toList, ∃ x ∈ es, e.key = Value.int q x.1 ∧ e.val = Value.func (.func x.2) #[] #[]) ∧ ∀ x ∈ es, ∃ e ∈ l.toList, e.key = Value.int q x.1
theorem TabAt.lt {w : World} {b : Nat} {q : IntKind} {es : List (Int × Nat)} (h : TabAt w b q es) : b < w.heap.size := by
  obtain ⟨l, c, h, _⟩ := h
  exact (Array.getElem?_eq_some_iff.1 h).1
theorem TabAt.kept {w w' : World} {b : Nat} {q : IntKind} {es : List (Int × Nat)} (h : TabAt w b q es) (hk : w'.heap[b]? = w.heap[b]?) : TabAt w' b q es := by
  obtain ⟨l, c, h, h2⟩ := h
  exact ⟨l, c, hk.trans h, h2⟩
/-- An object's value. -/
def objV (p : Pl) : Obk → Value
  | .map => .map (some p.block)
  | .ob _ => .pointer p.odd
/-- F: the memory of its own; R: what it reads of other memory. -/
def AB.holds (E : Env) (w : World) (p : Pl) (b : AB) (F R : List Nat) : Prop :=
  match b with
  | .own x => x.links E p ∧ ∃ vs F0 R0, x.reads E w false vs F0 R0 ∧ boxH true w x.e x.size p x.len vs F0 R0 F R
  | .ro x => x.links E p ∧ ∃ vs F0 R0, x.reads E w true vs F0 R0 ∧ boxH false w x.e x.size p x.len vs F0 R0 F R
  | .mp es c => F = [p.block] ∧ R = [] ∧ ∃ l, concE E es = some l ∧ w.heap[p.block]? = some (.map l.toArray c)
  | .sit s i => F = [p.block] ∧ R = [] ∧ p.base = 0 ∧ p.stride = 0 ∧ w.heap[p.block]? = some (.stringIter s i)
  | .nan => F = [] ∧ R = [] ∧ (FloatKind.f64.decode p.block).isNaN = true
  | .tb q es => F = [] ∧ R = [p.block] ∧ TabAt w p.block q es
  | .obj o k key row d => objH o w (keyH key) (hold w (!o) row) k d (objV p k) F R
  | .mph o key row l i v => ∃ clk es1 e es2 F1 R1 F2 R2 x, w.heap[p.block]? = some (.map (es1 ++ e :: es2).toArray clk) ∧ l[i]? = some x ∧ keyH key x.1 e.key ∧ conc E v = some e.val ∧
      entH (keyH key) (hold w (!o) row) (l.take i) es1 F1 R1 ∧ entH (keyH key) (hold w (!o) row) (l.drop (i + 1)) es2 F2 R2 ∧ ownR o p.block (F1 ++ F2) (R1 ++ R2) F R
  | .al _ => F = [] ∧ R = []
  | .emp => F = [] ∧ R = []

/-- From w on, nothing that was there has turned but the blocks in S. -/
structure Fr (S : Nat → Prop) (w w' : World) : Prop where
  os : w'.os = w.os
  tape : w'.tape = w.tape
  output : w'.output = w.output
  size : w.heap.size ≤ w'.heap.size
  block : ∀ k, k < w.heap.size → ¬ S k → w'.heap[k]? = w.heap[k]?
theorem Fr.refl (S : Nat → Prop) (w : World) : Fr S w w := ⟨rfl, rfl, rfl, Nat.le_refl _, fun _ _ _ => rfl⟩
theorem Fr.trans {S T : Nat → Prop} {a b c : World} (h : Fr S a b) (k : Fr T b c) (hT : ∀ i, T i → S i ∨ a.heap.size ≤ i) : Fr S a c :=
  ⟨k.os.trans h.os, k.tape.trans h.tape, k.output.trans h.output, Nat.le_trans h.size k.size, fun i hi hs =>
    (k.block i (Nat.lt_of_lt_of_le hi h.size) (fun ht => (hT i ht).elim hs (fun h' => by omega))).trans (h.block i hi hs)⟩
theorem Fr.mono {S T : Nat → Prop} {a b : World} (h : Fr S a b) (hT : ∀ i, S i → T i) : Fr T a b := ⟨h.os, h.tape, h.output, h.size, fun k hk hs => h.block k hk (fun h' => hs (hT k h'))⟩
theorem Fr.below {w w' : World} (h : Fr (fun _ => False) w w') : Below w.heap.size w w' := ⟨h.os, h.tape, h.output, h.size, fun k hk => h.block k hk (fun x => x)⟩
theorem Fr.drew (S : Nat → Prop) (w : World) : Fr S w w.drew := ⟨rfl, rfl, rfl, Nat.le_refl _, fun _ _ _ => rfl⟩
theorem Fr.of_below {w w' : World} (h : Below w.heap.size w w') (S : Nat → Prop) : Fr S w w' := ⟨h.os, h.tape, h.output, h.size, fun k hk _ => h.block k hk⟩

theorem AB.lt {E : Env} {w : World} {p : Pl} {b : AB} {F R : List Nat} (h : b.holds E w p F R) : (∀ k ∈ F, k < w.heap.size) ∧ (∀ k ∈ R, k < w.heap.size) := by
  have none_ : ∀ {F R : List Nat}, F = [] ∧ R = [] → (∀ k ∈ F, k < w.heap.size) ∧ (∀ k ∈ R, k < w.heap.size) := fun ⟨h1, h2⟩ => by subst h1 h2; exact ⟨fun k hk => by simp at hk, fun k hk => by simp at hk⟩
  cases b with
  | own x =>
    obtain ⟨_, vs, F0, R0, h1, h2⟩ := h
    have a := M.reads_lt h1
    exact boxH_lt h2 a.1 a.2
  | ro x =>
    obtain ⟨_, vs, F0, R0, h1, h2⟩ := h
    have a := M.reads_lt h1
    exact boxH_lt h2 a.1 a.2
  | al m => exact none_ h
  | mp es c =>
    obtain ⟨rfl, rfl, l, _, hh⟩ := h
    refine ⟨fun k hk => ?_, fun k hk => by simp at hk⟩
    simp only [List.mem_singleton] at hk
    subst hk
    exact (Array.getElem?_eq_some_iff.1 hh).1
  | sit s i =>
    obtain ⟨rfl, rfl, _, _, hh⟩ := h
    refine ⟨fun k hk => ?_, fun k hk => by simp at hk⟩
    simp only [List.mem_singleton] at hk
    subst hk
    exact (Array.getElem?_eq_some_iff.1 hh).1
  | nan => exact none_ ⟨h.1, h.2.1⟩
  | tb q es =>
    obtain ⟨rfl, rfl, hh⟩ := h
    refine ⟨fun k hk => by simp at hk, fun k hk => ?_⟩
    simp only [List.mem_singleton] at hk
    subst hk
    exact hh.lt
  | obj own k key row d => exact objH_lt (fun d ys F R h => hold_lt _ row d ys F R h) h
  | mph own key row l i v =>
    obtain ⟨clk, es1, e, es2, F1, R1, F2, R2, x, h1, h2, h3, h4, h5, h6, h7⟩ := h
    have hb := (Array.getElem?_eq_some_iff.1 h1).1
    have a := entH_lt (w := w) (fun d ys F R h => hold_lt _ row d ys F R h) h5
    have c := entH_lt (w := w) (fun d ys F R h => hold_lt _ row d ys F R h) h6
    cases own with
    | true =>
      obtain ⟨rfl, rfl⟩ := h7
      exact ⟨fun k hk => (List.mem_cons.1 hk).elim (fun h => by rw [h]; exact hb) (lt_append a.1 c.1 k), lt_append a.2 c.2⟩
    | false =>
      obtain ⟨h0, rfl, rfl⟩ := h7
      exact ⟨fun k hk => by simp at hk, fun k hk => (List.mem_cons.1 hk).elim (fun h => by rw [h]; exact hb) (lt_append a.2 c.2 k)⟩
  | emp => exact none_ h

/-- What a block holds it holds on, where its memory has not turned. -/
theorem AB.kept {E E' : Env} {w w' : World} {p : Pl} {b : AB} {F R : List Nat} (hE : E.le E') (h : b.holds E w p F R) (hF : ∀ k ∈ F, w'.heap[k]? = w.heap[k]?) (hR : ∀ k ∈ R, w'.heap[k]? = w.heap[k]?) : b.holds E' w' p F R := by
  cases b with
  | own x =>
    obtain ⟨h0, vs, F0, R0, h1, h2⟩ := h
    obtain ⟨s1, s2⟩ := boxH_sub h2
    exact ⟨M.links_mono hE h0, vs, F0, R0, M.reads_kept hE h1 (fun k hk => hF k (s1 k hk)) (fun k hk => hR k (s2 k hk)), boxH_kept h2 hF hR⟩
  | ro x =>
    obtain ⟨h0, vs, F0, R0, h1, h2⟩ := h
    obtain ⟨s1, s2⟩ := boxH_sub h2
    exact ⟨M.links_mono hE h0, vs, F0, R0, M.reads_kept hE h1 (fun k hk => hF k (s1 k hk)) (fun k hk => hR k (s2 k hk)), boxH_kept h2 hF hR⟩
  | al m => exact h
  | mp es c =>
    obtain ⟨rfl, rfl, l, hl, hh⟩ := h
    exact ⟨rfl, rfl, l, concE_mono hE _ _ hl, by rw [hF _ (by simp)]; exact hh⟩
  | sit s i =>
    obtain ⟨rfl, rfl, h0, h1, hh⟩ := h
    exact ⟨rfl, rfl, h0, h1, by rw [hF _ (by simp)]; exact hh⟩
  | nan => exact h
  | tb q es =>
    obtain ⟨rfl, rfl, hh⟩ := h
    exact ⟨rfl, rfl, hh.kept (hR _ (by simp))⟩
  | obj own k key row d => exact objH_kept (fun d ys F' R' a b c => hold_kept _ row d ys F' R' c (fun k hk => hF k (a k hk)) (fun k hk => hR k (b k hk))) hF hR h
  | mph own key row l i v =>
    obtain ⟨clk, es1, e, es2, F1, R1, F2, R2, x, h1, h2, h3, h4, h5, h6, h7⟩ := h
    obtain ⟨s1, s2, s3⟩ := ownR_sub h7
    have kp : ∀ {l : List (Den key × Den row)} {es : List MapEntry} {F' R' : List Nat}, entH (keyH key) (hold w (!own) row) l es F' R' → (∀ k ∈ F', k ∈ F1 ++ F2) → (∀ k ∈ R', k ∈ R1 ++ R2) → entH (keyH key) (hold w' (!own) row) l es F' R' :=
      fun h hF' hR' => entH_imp h (fun d ys F'' R'' a b c => hold_kept _ row d ys F'' R'' c (fun k hk => hF k (s1 k (hF' k (a k hk)))) (fun k hk => hR k (s2 k (hR' k (b k hk)))))
    exact ⟨clk, es1, e, es2, F1, R1, F2, R2, x, by rw [s3.elim (hF _) (hR _)]; exact h1, h2, h3, conc_mono hE v _ h4, kp h5 (fun k hk => by simp [hk]) (fun k hk => by simp [hk]), kp h6 (fun k hk => by simp [hk]) (fun k hk => by simp [hk]), h7⟩
  | emp => exact h
theorem AB.mono {E E' : Env} {w : World} {p : Pl} {b : AB} {F R : List Nat} (hE : E.le E') (h : b.holds E w p F R) : b.holds E' w p F R := AB.kept hE h (fun _ _ => rfl) (fun _ _ => rfl)
def AB.names : AB → List Nat
  | .own x => x.names
  | .ro x => x.names
  | .mp es _ => namesE es
  | .mph _ _ _ _ _ v => v.names
  | .al m => [m]
  | _ => []
theorem AB.congr {E E' : Env} {w : World} {p : Pl} {b : AB} {F R : List Nat} (hE : ∀ n ∈ b.names, E' n = E n) (h : b.holds E w p F R) : b.holds E' w p F R := by
  cases b with
  | own x =>
    obtain ⟨h0, vs, F0, R0, h1, h2⟩ := h
    exact ⟨M.links_congr hE h0, vs, F0, R0, M.reads_congr hE h1, h2⟩
  | ro x =>
    obtain ⟨h0, vs, F0, R0, h1, h2⟩ := h
    exact ⟨M.links_congr hE h0, vs, F0, R0, M.reads_congr hE h1, h2⟩
  | al m => exact h
  | mp es c =>
    obtain ⟨rfl, rfl, l, hl, hh⟩ := h
    exact ⟨rfl, rfl, l, by rw [concE_congr _ hE]; exact hl, hh⟩
  | sit s i => exact h
  | nan => exact h
  | tb q es => exact h
  | obj own k key row d => exact h
  | mph own key row l i v =>
    obtain ⟨clk, es1, e, es2, F1, R1, F2, R2, x, h1, h2, h3, h4, h5, h6, h7⟩ := h
    exact ⟨clk, es1, e, es2, F1, R1, F2, R2, x, h1, h2, h3, by rw [conc_congr v hE]; exact h4, h5, h6, h7⟩
  | emp => exact h

/-- A heap of names, read by name. -/
abbrev Hp := List (Nat × Option AB)
def look : Hp → Nat → Option AB
  | [], _ => none
  | (m, b) :: r, n => bif Nat.beq m n then b else look r n

/-- What an operation or a call does: it comes to 'val', reads the names 'reads', turns the names 'upd' (none: that name is spent) and makes the names 'news', of 'nn' new ones. -/
structure Eff where
  val : AV
  reads : List Nat := []
  upd : Hp := []
  news : Hp := []
  nn : Nat := 0

def hasName : Hp → Nat → Bool
  | [], _ => false
  | (m, _) :: r, n => Nat.beq m n || hasName r n
/-- The names that an effect turns or makes. -/
def Eff.put (e : Eff) : Hp := e.upd ++ e.news

def lookO : Hp → Nat → Option (Option AB)
  | [], _ => none
  | (m, b) :: r, n => bif Nat.beq m n then some b else lookO r n
theorem look_append (a b : Hp) (n : Nat) : look (a ++ b) n = match lookO a n with | some x => x | none => look b n := by
  induction a with
  | nil => rfl
  | cons x a ih =>
    obtain ⟨m, c⟩ := x
    simp only [List.cons_append, look, lookO]
    cases Nat.beq m n with
    | true => rfl
    | false => exact ih
theorem lookO_none {a : Hp} {n : Nat} : lookO a n = none ↔ hasName a n = false := by
  induction a with
  | nil => simp [lookO, hasName]
  | cons x a ih =>
    obtain ⟨m, c⟩ := x
    simp only [lookO, hasName]
    cases Nat.beq m n <;> simp [ih]
theorem lookO_append (a b : Hp) (n : Nat) : lookO (a ++ b) n = match lookO a n with | some x => some x | none => lookO b n := by
  induction a with
  | nil => rfl
  | cons x a ih =>
    obtain ⟨m, c⟩ := x
    simp only [List.cons_append, lookO]
    cases Nat.beq m n with
    | true => rfl
    | false => exact ih
theorem look_of_lookO {h : Hp} {n : Nat} {b : AB} : look h n = some b ↔ lookO h n = some (some b) := by
  induction h with
  | nil => simp [look, lookO]
  | cons x h ih =>
    obtain ⟨m, c⟩ := x
    simp only [look, lookO]
    cases Nat.beq m n with
    | true => simp
    | false => exact ih
def after (hp : Nat → Option AB) (e : Eff) (n : Nat) : Option AB :=
  match lookO e.put n with
  | some x => x
  | none => hp n

/-- Each name holds what is said of it; own memory lies apart. -/
structure Gc (E : Env) (hp : Nat → Option AB) (w : World) (F R : Nat → List Nat) : Prop where
  holds : ∀ n b, hp n = some b → ∃ p, E n = some p ∧ b.holds E w p (F n) (R n)
  nodup : ∀ n b, hp n = some b → (F n).Nodup
  dist : ∀ n m b c k, hp n = some b → hp m = some c → k ∈ F n → k ∈ F m → n = m
/-- Old memory that may be touched, and such as may be read and stays. -/
structure Reg where
  touch : Nat → Prop
  read : Nat → Prop
/-- Blocks that nobody writes. -/
def lookG : List (Nat × GB) → Nat → Option GB
  | [], _ => none
  | (g, o) :: r, n => bif Nat.beq g n then some o else lookG r n
def CellsAt (w : World) (g : Nat) (l : List Value) : Prop := ∃ t fz, w.heap[g]? = some (.cells l.toArray t fz)
theorem CellsAt.lt {w : World} {g : Nat} {l : List Value} (h : CellsAt w g l) : g < w.heap.size := by
  obtain ⟨t, fz, h⟩ := h
  exact (Array.getElem?_eq_some_iff.1 h).1
theorem CellsAt.kept {w w' : World} {g : Nat} {l : List Value} (h : CellsAt w g l) (hk : w'.heap[g]? = w.heap[g]?) : CellsAt w' g l := by
  obtain ⟨t, fz, h⟩ := h
  exact ⟨t, fz, hk.trans h⟩
def GlobAt (w : World) (touch : Nat → Prop) (g : Nat) : GB → Prop
  | .cells l => CellsAt w g l ∧ ¬ touch g
  | .table q es => ∃ b, CellsAt w g [.map (some b)] ∧ ¬ touch g ∧ TabAt w b q es ∧ ¬ touch b
theorem GlobAt.step {w w' : World} {touch touch' : Nat → Prop} {g : Nat} {o : GB} (h : GlobAt w touch g o) (hk : ∀ k, k < w.heap.size → ¬ touch k → w'.heap[k]? = w.heap[k]? ∧ ¬ touch' k) : GlobAt w' touch' g o := by
  cases o with
  | cells l => exact ⟨h.1.kept (hk g h.1.lt h.2).1, (hk g h.1.lt h.2).2⟩
  | table q es =>
    obtain ⟨b, h1, h2, h3, h5⟩ := h
    exact ⟨b, h1.kept (hk g h1.lt h2).1, (hk g h1.lt h2).2, h3.kept (hk b h3.lt h5).1, (hk b h3.lt h5).2⟩
def GlobOk (w : World) (touch : Nat → Prop) : Prop := ∀ g o, lookG globs g = some o → GlobAt w touch g o
theorem GlobOk.to {w w' : World} {touch touch' : Nat → Prop} (h : GlobOk w touch) (hk : ∀ k, k < w.heap.size → ¬ touch k → w'.heap[k]? = w.heap[k]? ∧ ¬ touch' k) : GlobOk w' touch' := fun g o hg => (h g o hg).step hk
/-- The block of such a map. -/
def tabM (w : World) (k : Nat) : Prop := ∃ g q es, lookG globs g = some (.table q es) ∧ CellsAt w g [.map (some k)]
theorem CellsAt.one {w : World} {g b b' : Nat} (h : CellsAt w g [.map (some b)]) (h' : CellsAt w g [.map (some b')]) : b = b' := by
  obtain ⟨t, z, h⟩ := h
  obtain ⟨t', z', h'⟩ := h'
  rw [h] at h'
  cases h'
  rfl
/-- And what it reaches for: own memory may be touched, other memory is old and stays. -/
structure Gf (W0 : World) (S : Reg) (E : Env) (hp : Nat → Option AB) (w : World) (F R : Nat → List Nat) : Prop extends Gc E hp w F R where
  fr : Fr S.touch W0 w
  feet : ∀ n b k, hp n = some b → k ∈ F n → S.touch k ∨ W0.heap.size ≤ k
  rd : ∀ n b k, hp n = some b → k ∈ R n → S.read k ∨ tabM W0 k
  sep : ∀ k, S.read k → k < W0.heap.size ∧ ¬ S.touch k
  glob : GlobOk W0 S.touch
theorem GlobOk.tab {w : World} {touch : Nat → Prop} (h : GlobOk w touch) {k : Nat} (hk : tabM w k) : k < w.heap.size ∧ ¬ touch k := by
  obtain ⟨g, q, es, hg, hc⟩ := hk
  obtain ⟨b, h1, _, h3, h4⟩ := h g _ hg
  cases h1.one hc
  exact ⟨h3.lt, h4⟩
theorem tabM_back {w w1 : World} {touch : Nat → Prop} (h : GlobOk w touch) (hf : Fr touch w w1) {k : Nat} (hk : tabM w1 k) : tabM w k := by
  obtain ⟨g, q, es, hg, hc⟩ := hk
  obtain ⟨b, h1, h2, _, _⟩ := h g _ hg
  have h3 : CellsAt w1 g [.map (some b)] := h1.kept (hf.block g h1.lt h2)
  cases h3.one hc
  exact ⟨g, q, es, hg, h1⟩
theorem Gf.old {W0 : World} {S : Reg} {E : Env} {hp : Nat → Option AB} {w : World} {F R : Nat → List Nat} (h : Gf W0 S E hp w F R) (n : Nat) (b : AB) (k : Nat) (hb : hp n = some b) (hk : k ∈ R n) : k < W0.heap.size ∧ ¬ S.touch k :=
  (h.rd n b k hb hk).elim (h.sep k) fun hk => h.glob.tab hk
theorem Gf.globAt {W0 : World} {S : Reg} {E : Env} {hp : Nat → Option AB} {w : World} {F R : Nat → List Nat} (h : Gf W0 S E hp w F R) {g : Nat} {l : List Value} (hg : lookG globs g = some (.cells l)) : CellsAt w g l := by
  obtain ⟨h1, h2⟩ := h.glob g _ hg
  exact h1.kept (h.fr.block g h1.lt h2)
abbrev GlobW (w : World) : Prop := GlobOk w (fun _ => False)
theorem GlobOk.step {w w1 : World} {F F1 : List Nat} (h : GlobOk w (fun k => k ∈ F)) (hf : Fr (fun k => k ∈ F) w w1) (hs : ∀ k ∈ F1, k ∈ F ∨ w.heap.size ≤ k) : GlobOk w1 (fun k => k ∈ F1) :=
  h.to fun k hk h2 => ⟨hf.block k hk h2, fun hk' => (hs k hk').elim h2 (fun hk' => by omega)⟩
theorem GlobW.of_below {w w1 : World} (h : GlobW w) (hb : Below w.heap.size w w1) : GlobW w1 := h.to fun k hk _ => ⟨hb.block k hk, fun h => h⟩
/-- Such blocks within a frame. -/
theorem Gf.globIn {W0 : World} {S : Reg} {E : Env} {hp : Nat → Option AB} {w : World} {F R : Nat → List Nat} (h : Gf W0 S E hp w F R) {touch : Nat → Prop} (ht : ∀ k, touch k → S.touch k ∨ W0.heap.size ≤ k) : GlobOk w touch :=
  h.glob.to fun k hk h2 => ⟨h.fr.block k hk h2, fun hk' => (ht k hk').elim h2 (fun hk' => by omega)⟩
theorem addr_plus (a : Addr) (h : a.spot = none) (n : Nat) : a.add n = ⟨a.block, a.off + n, none⟩ := by
  unfold Addr.add
  obtain ⟨b, o, s⟩ := a
  simp only at h
  subst h
  split
  · rename_i h; subst h; rfl
  · rfl
/-- Such a map, at its variable's place. -/
def tabG (a : Addr) : Option (IntKind × List (Int × Nat)) :=
  match a.spot with
  | none => bif Nat.beq a.off 0 then (match lookG globs a.block with | some (.table q es) => some (q, es) | _ => none) else none
  | some _ => none
/-- Cells of such a block. -/
def cellsG (a : Addr) (k : Nat) : Option (List Value) :=
  match a.spot with
  | some _ => none
  | none => match lookG globs a.block with
    | some (.cells cs) => bif Nat.ble (a.off + k) cs.length then some ((cs.drop a.off).take k) else none
    | _ => none
theorem cellsG_ok {a : Addr} {k : Nat} {l : List Value} (h : cellsG a k = some l) {w : World} (hw : ∀ g o, lookG globs g = some (.cells o) → CellsAt w g o) : l.length = k ∧ ∀ j V, l[j]? = some V → w.cell? (a.add j) = some V := by
  unfold cellsG at h
  split at h
  · cases h
  rename_i hs
  split at h
  case h_2 => cases h
  rename_i cs hg
  obtain ⟨ty, fz, hheap⟩ := hw _ _ hg
  cases hb : Nat.ble (a.off + k) cs.length with
  | false => rw [hb] at h; cases h
  | true =>
    rw [hb] at h
    cases h
    have hle := Nat.le_of_ble_eq_true hb
    refine ⟨by rw [List.length_take, List.length_drop]; omega, fun j V hV => ?_⟩
    rw [List.getElem?_take] at hV
    split at hV
    · rw [List.getElem?_drop] at hV
      rw [addr_plus a hs j]
      simp [World.cell?, hheap, hV]
    · cases hV
theorem Gf.tab0 {W0 : World} {S : Reg} {E : Env} {hp : Nat → Option AB} {w : World} {F R : Nat → List Nat} (h : Gf W0 S E hp w F R) {k : Nat} (hk : tabM w k) : tabM W0 k := by
  obtain ⟨g, q, es, hg, hc⟩ := hk
  obtain ⟨b, h1, h2, _, _⟩ := h.glob g _ hg
  have h3 : CellsAt w g [.map (some b)] := h1.kept (h.fr.block g h1.lt h2)
  cases h3.one hc
  exact ⟨g, q, es, hg, h1⟩
/-- What is known of a world. -/
def Gam (W0 : World) (S : Reg) (E : Env) (hp : Nat → Option AB) (w : World) : Prop := ∃ F R, Gf W0 S E hp w F R

/-- The memory that an effect may touch. -/
def touched (hp : Nat → Option AB) (F : Nat → List Nat) (e : Eff) (k : Nat) : Prop := ∃ n b, (lookO e.upd n).isSome ∧ hp n = some b ∧ k ∈ F n
/-- What has become of a world behind an effect. -/
structure Post (E : Env) (hp : Nat → Option AB) (w : World) (F R : Nat → List Nat) (lo : Nat) (e : Eff) (E' : Env) (w' : World) (F' R' : Nat → List Nat) : Prop where
  ext : E.le E'
  dom : ∀ n, E n = none → E' n ≠ none → lo ≤ n ∧ n < lo + e.nn
  fr : Fr (touched hp F e) w w'
  holds : ∀ n b, lookO e.put n = some (some b) → ∃ p, E' n = some p ∧ b.holds E' w' p (F' n) (R' n)
  nodup : ∀ n b, lookO e.put n = some (some b) → (F' n).Nodup
  feet : ∀ n b k, lookO e.put n = some (some b) → k ∈ F' n → touched hp F e k ∨ w.heap.size ≤ k
  old : ∀ n b k, lookO e.put n = some (some b) → k ∈ R' n → (∃ m c, hp m = some c ∧ k ∈ R m) ∨ tabM w k
  dist : ∀ n m b c k, lookO e.put n = some (some b) → lookO e.put m = some (some c) → k ∈ F' n → k ∈ F' m → n = m

theorem Gf.apply {W0 : World} {S : Reg} {E E' : Env} {hp : Nat → Option AB} {w w' : World} {F R F' R' : Nat → List Nat} {e : Eff} (h : Gf W0 S E hp w F R) {lo : Nat} (k : Post E hp w F R lo e E' w' F' R') : Gam W0 S E' (after hp e) w' := by
  have htouch : ∀ i, touched hp F e i → S.touch i ∨ W0.heap.size ≤ i := fun i ⟨n, b, _, h1, h3⟩ => h.feet n b i h1 h3
  have hsz := h.fr.size
  let F2 : Nat → List Nat := fun n => if (lookO e.put n).isSome then F' n else F n
  let R2 : Nat → List Nat := fun n => if (lookO e.put n).isSome then R' n else R n
  have f1 : ∀ n x, lookO e.put n = some x → F2 n = F' n ∧ R2 n = R' n := fun n x hx => by simp [F2, R2, hx]
  have f0 : ∀ n, lookO e.put n = none → F2 n = F n ∧ R2 n = R n := fun n hx => by simp [F2, R2, hx]
  -- what is not put is as it was
  have keep : ∀ n b, lookO e.put n = none → hp n = some b → ∃ p, E n = some p ∧ E' n = some p ∧ b.holds E w p (F n) (R n) ∧ b.holds E' w' p (F n) (R n) := by
    intro n b hn hb
    obtain ⟨p, hp1, hh⟩ := h.holds n b hb
    have hlt := AB.lt hh
    refine ⟨p, hp1, k.ext n p hp1, hh, AB.kept k.ext hh (fun i hi => k.fr.block i (hlt.1 i hi) ?_) (fun i hi => k.fr.block i (hlt.2 i hi) ?_)⟩
    · rintro ⟨m, c, hm, hc, hf⟩
      have := h.dist n m b c i hb hc hi hf
      subst this
      rw [Eff.put, lookO_append] at hn
      cases hu : lookO e.upd n with
      | none => rw [hu] at hm; simp at hm
      | some x => rw [hu] at hn; simp at hn
    · intro ht
      obtain ⟨h1, h2⟩ := h.old n b i hb hi
      rcases htouch i ht with h3 | h3
      · exact h2 h3
      · omega
  have cases_ : ∀ n b, after hp e n = some b → (lookO e.put n = some (some b)) ∨ (lookO e.put n = none ∧ hp n = some b) := by
    intro n b hb
    unfold after at hb
    cases hl : lookO e.put n with
    | none => rw [hl] at hb; exact .inr ⟨rfl, hb⟩
    | some x => rw [hl] at hb; simp only at hb; subst hb; exact .inl rfl
  refine ⟨F2, R2, ⟨?_, ?_, ?_⟩, h.fr.trans k.fr htouch, ?_, ?_, h.sep, h.glob⟩
  · intro n b hb
    rcases cases_ n b hb with hl | ⟨hl, hb⟩
    · rw [(f1 n _ hl).1, (f1 n _ hl).2]; exact k.holds n b hl
    · obtain ⟨p, _, h2, _, h4⟩ := keep n b hl hb
      rw [(f0 n hl).1, (f0 n hl).2]
      exact ⟨p, h2, h4⟩
  · intro n b hb
    rcases cases_ n b hb with hl | ⟨hl, hb⟩
    · rw [(f1 n _ hl).1]; exact k.nodup n b hl
    · rw [(f0 n hl).1]; exact h.nodup n b hb
  · have mixed : ∀ n m b c i, lookO e.put n = some (some b) → lookO e.put m = none → hp m = some c → i ∈ F' n → i ∈ F m → False := by
      intro n m b c i hn hm hc hfb hfc
      obtain ⟨q', g1, g2, g3, _⟩ := keep m c hm hc
      rcases k.feet n b i hn hfb with ⟨n0, b0, h0, h1, h3⟩ | hge
      · have := h.dist n0 m b0 c i h1 hc h3 hfc
        subst this
        rw [Eff.put, lookO_append] at hm
        cases hu : lookO e.upd n0 with
        | none => rw [hu] at h0; simp at h0
        | some x => rw [hu] at hm; simp at hm
      · have := (AB.lt g3).1 i hfc
        omega
    intro n m b c i hb hc hfb hfc
    rcases cases_ n b hb with hn | ⟨hn, hb⟩ <;> rcases cases_ m c hc with hm | ⟨hm, hc⟩
    · rw [(f1 n _ hn).1] at hfb; rw [(f1 m _ hm).1] at hfc
      exact k.dist n m b c i hn hm hfb hfc
    · rw [(f1 n _ hn).1] at hfb; rw [(f0 m hm).1] at hfc
      exact (mixed n m b c i hn hm hc hfb hfc).elim
    · rw [(f0 n hn).1] at hfb; rw [(f1 m _ hm).1] at hfc
      exact (mixed m n c b i hm hn hb hfc hfb).elim
    · rw [(f0 n hn).1] at hfb; rw [(f0 m hm).1] at hfc
      exact h.dist n m b c i hb hc hfb hfc
  · intro n b i hb hf
    rcases cases_ n b hb with hl | ⟨hl, hb⟩
    · rw [(f1 n _ hl).1] at hf
      rcases k.feet n b i hl hf with h1 | h1
      · exact htouch i h1
      · exact .inr (by omega)
    · rw [(f0 n hl).1] at hf
      exact h.feet n b i hb hf
  · intro n b i hb hf
    rcases cases_ n b hb with hl | ⟨hl, hb⟩
    · rw [(f1 n _ hl).2] at hf
      rcases k.old n b i hl hf with ⟨m, c, hc, hr⟩ | ht
      · exact h.rd m c i hc hr
      · exact .inr (h.tab0 ht)
    · rw [(f0 n hl).2] at hf
      exact h.rd n b i hb hf
end Go.Proofs.YtpfbpcaehmhefaaDoorB.Sx
