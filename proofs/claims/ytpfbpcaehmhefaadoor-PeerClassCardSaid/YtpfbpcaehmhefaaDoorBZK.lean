/- The engine, part K: a law's arguments, as data. -/
import Derived.Test.YtpfbpcaehmhefaaDoorBZI
import Derived.Test.YtpfbpcaehmhefaaDoorBZL
import Derived.ChangeArms
import Derived.DataReads
namespace Go.Proofs.YtpfbpcaehmhefaaDoorB.Sx
open Go.ChangeShapes Go.WideShapes Go.ChangeAt Go.RowKit
set_option linter.unusedSimpArgs false
set_option linter.unusedVariables false

/-- The shape of fields' cells, in front of others. -/
def shF (P : Program) (g : TypeId → Sh → Option Sh) : List Field → Nat → Nat → Sh → Option Sh
  | [], off, n, r => bif Nat.beq off n then some r else none
  | f :: fs, off, n, r => bif Nat.beq f.offset off then (shF P g fs (off + P.cellsOf f.type) n r).bind (g f.type) else none
def shN (g : Sh → Option Sh) : Nat → Sh → Option Sh
  | 0, r => some r
  | n + 1, r => (shN g n r).bind g
/-- The shape of a type's cells, in front of others; 'deep': slices may lead to slices. -/
def shT (P : Program) (deep : Bool) : Nat → Bool → TypeId → Sh → Option Sh
  | 0, _, _, _ => none
  | d + 1, top, t, r =>
    match P.underlying t with
    | some .bool => some (.sc .bool r)
    | some (.int k) => some (.sc (.int k) r)
    | some .string => some (.sc .str r)
    | some (.float k) => some (.sc (.flt k) r)
    | some (.slice e) => bif top || deep then (shT P deep d false e .nil).bind fun row => bif Nat.blt 0 row.size && Nat.beq row.size (P.cellsOf e) then some (.sl false e row r) else none else none
    | some (.struct fs) => shF P (shT P deep d top) fs.toList 0 (P.cellsOf t) r
    | some (.array n e) => bif Nat.beq (n * P.cellsOf e) (P.cellsOf t) then shN (shT P deep d top e) n r else none
    | _ => none
def wfC : (c : Ck) → c.den → Prop
  | .int k, n => k.min ≤ n ∧ n ≤ k.max
  | .str, s => s.size ≤ maxLen
  | .flt k, b => (Lit.float k b).wf = true
  | _, _ => True
/-- Numbers within their kinds. -/
def wfD : (sh : Sh) → Den sh → Prop
  | .nil, _ => True
  | .sc c r, d => wfC c (prHd r d) ∧ wfD r (prTl r d)
  | .sl _ _ row r, d => ((prHd r d).length ≤ maxLen ∧ ∀ x ∈ prHd r d, wfD row x) ∧ wfD r (prTl r d)
  | .pt _ _ row r, d => wfD row (prHd r d) ∧ wfD r (prTl r d)
  | .po _ _ row r, d => (match prHd r d with | some x => wfD row x | none => True) ∧ wfD r (prTl r d)
  | .ag _ row r, d => wfD row (prHd r d) ∧ wfD r (prTl r d)
  | .mp _ _ _ r, d => wfD r (prTl r d)
section
variable {H : Type} {enc : TypeId × Value → H} {P : Program} {w : World} {base : Nat} {spare : Nat → Bool} {held : Bool}
/-- What a shape's reading gives. -/
def Holds1 (w : World) (S r : Sh) (cs : List Value) : Prop :=
  ∀ cs' D R, hold w true r D cs' [] R → wfD r D → ∃ D' R', hold w true S D' (cs ++ cs') [] R' ∧ wfD S D'
theorem addrPlus (a : Addr) (h : a.spot = none) (n : Nat) : a.add n = ⟨a.block, a.off + n, none⟩ := by
  unfold Addr.add
  obtain ⟨b, o, s⟩ := a
  simp only at h
  subst h
  split
  · rename_i h; subst h; rfl
  · rfl
theorem rows_of {e : TypeId} {row : Sh} {fuel : Nat} (a : Addr) (ha : a.spot = none) (hg : ∀ cs x, DataW.trod enc P w base spare held fuel e cs = some x → (∀ v ∈ cs, ∃ b, w.cell? b = some v) → Holds1 w row .nil cs) (hs : row.size = P.cellsOf e) :
    ∀ (k m : Nat), (∀ i, m ≤ i → i < m + k → ∃ x, (w.cells? base (a.add (i * P.cellsOf e)) (P.cellsOf e)).bind (DataW.trod enc P w base spare held fuel e) = some x) →
      ∃ (Ds : List (Den row)) (xs : List Value) (R0 : List Nat), Ds.length = k ∧ rowsH (hold w true row) Ds xs [] R0 ∧ xs.length = k * row.size ∧ (∀ j V, xs[j]? = some V → w.cell? ⟨a.block, a.off + m * row.size + j, none⟩ = some V) ∧ ∀ D ∈ Ds, wfD row D
  | 0, m, h => ⟨[], [], [], rfl, ⟨rfl, rfl, rfl⟩, by simp, fun j V h => by simp at h, fun D h => by simp at h⟩
  | k + 1, m, h => by
    obtain ⟨x, h0⟩ := h m (Nat.le_refl _) (by omega)
    obtain ⟨ys, hys, hx⟩ := Option.bind_eq_some_iff.1 h0
    obtain ⟨_, hl, hc⟩ := World.cells?_some hys
    obtain ⟨Ds, xs, R0, h1, h2, h3, h4, h5⟩ := rows_of a ha hg hs k (m + 1) (fun i h1 h2 => h i (by omega) (by omega))
    have hcell : ∀ i, i < P.cellsOf e → w.cell? ⟨a.block, a.off + m * row.size + i, none⟩ = ys[i]? := by
      intro i hi
      have := hc i hi
      rw [addrPlus a ha, addrPlus _ rfl] at this
      rw [← this, hs]
    obtain ⟨D, R1, g1, g2⟩ := hg ys x hx (by
      intro v hv
      obtain ⟨i, hi, hv⟩ := List.getElem_of_mem hv
      exact ⟨_, (hcell i (by omega)).trans (by rw [List.getElem?_eq_getElem hi, hv])⟩) [] () [] ⟨rfl, rfl, rfl⟩ trivial
    rw [List.append_nil] at g1
    refine ⟨D :: Ds, ys ++ xs, R1 ++ R0, by simp [h1], ⟨ys, xs, [], [], R1, R0, rfl, rfl, rfl, g1, h2⟩, ?_, ?_, ?_⟩
    · rw [List.length_append, hl, h3, ← hs, Nat.succ_mul]; omega
    · intro j V hj
      rcases Nat.lt_or_ge j ys.length with hlt | hge
      · rw [List.getElem?_append_left hlt] at hj
        rw [hcell j (by omega)]
        exact hj
      · rw [List.getElem?_append_right hge] at hj
        have := h4 _ V hj
        rw [← this]
        congr 2
        rw [hl, ← hs] at hge ⊢
        rw [Nat.succ_mul]
        omega
    · intro D' hD
      rcases List.mem_cons.1 hD with rfl | hD
      · exact g2
      · exact h5 D' hD
theorem hold_sc {c : Ck} {r : Sh} {x : c.den} {D : Den r} {cs : List Value} {R : List Nat} (h1 : oneCell (.v (c.enc x)) = true) (h2 : wfC c x) (h : hold w true r D cs [] R) (hw : wfD r D) :
    ∃ D' R', hold w true (.sc c r) D' ([c.enc x] ++ cs) [] R' ∧ wfD (.sc c r) D' := by
  refine ⟨prMk r x D, R, ⟨cs, ?_, ?_, ?_⟩, ?_, ?_⟩
  · rw [prHd_mk]; rfl
  · rw [prHd_mk]; exact h1
  · rw [prTl_mk]; exact h
  · rw [prHd_mk]; exact h2
  · rw [prTl_mk]; exact hw
theorem shF_hold {g : TypeId → Sh → Option Sh} {fuel : Nat} (hg : ∀ t r S, g t r = some S → ∀ cs x, DataW.trod enc P w base spare held fuel t cs = some x → Holds1 w S r cs) {cs : List Value} :
    ∀ (fs : List Field) (off : Nat) (r S : Sh), shF P g fs off cs.length r = some S → (∀ f ∈ fs, ∃ x, DataW.trod enc P w base spare held fuel f.type ((cs.drop f.offset).take (P.cellsOf f.type)) = some x) → Holds1 w S r (cs.drop off)
  | [], off, r, S, h, _ => by
    simp only [shF] at h
    cases hb : Nat.beq off cs.length with
    | false => rw [hb] at h; cases h
    | true =>
      rw [hb] at h
      cases h
      have := Nat.eq_of_beq_eq_true hb
      intro cs' D R h hw
      rw [this, List.drop_length]
      exact ⟨D, R, h, hw⟩
  | f :: fs, off, r, S, h, hx => by
    simp only [shF] at h
    cases hb : Nat.beq f.offset off with
    | false => rw [hb] at h; cases h
    | true =>
      rw [hb] at h
      simp only [cond_true] at h
      have he := Nat.eq_of_beq_eq_true hb
      obtain ⟨S1, h1, h2⟩ := Option.bind_eq_some_iff.1 h
      obtain ⟨x, hx0⟩ := hx f (by simp)
      intro cs' D R hD hw
      obtain ⟨D1, R1, k1, k2⟩ := shF_hold hg fs _ r S1 h1 (fun f hf => hx f (by simp [hf])) cs' D R hD hw
      have hx := hx0
      rw [he] at hx
      obtain ⟨D2, R2, k3, k4⟩ := hg _ _ _ h2 _ x hx _ D1 R1 k1 k2
      refine ⟨D2, R2, ?_, k4⟩
      have : List.take (P.cellsOf f.type) (List.drop off cs) ++ (List.drop (off + P.cellsOf f.type) cs ++ cs') = List.drop off cs ++ cs' := by
        rw [← List.append_assoc, ← List.drop_drop, List.take_append_drop]
      rw [← this]
      exact k3
theorem shN_hold {g : Sh → Option Sh} {e : TypeId} {fuel : Nat} (hg : ∀ r S, g r = some S → ∀ cs x, DataW.trod enc P w base spare held fuel e cs = some x → Holds1 w S r cs) {cs : List Value} :
    ∀ (n m : Nat) (r S : Sh), (m + n) * P.cellsOf e = cs.length → shN g n r = some S → (∀ i, m ≤ i → i < m + n → ∃ x, DataW.trod enc P w base spare held fuel e ((cs.drop (i * P.cellsOf e)).take (P.cellsOf e)) = some x) → Holds1 w S r (cs.drop (m * P.cellsOf e))
  | 0, m, r, S, hl, h, _ => by
    cases h
    intro cs' D R h hw
    rw [Nat.add_zero] at hl
    rw [hl, List.drop_length]
    exact ⟨D, R, h, hw⟩
  | n + 1, m, r, S, hl, h, hx => by
    simp only [shN] at h
    obtain ⟨S1, h1, h2⟩ := Option.bind_eq_some_iff.1 h
    obtain ⟨x, hx0⟩ := hx m (Nat.le_refl _) (by omega)
    intro cs' D R hD hw
    obtain ⟨D1, R1, k1, k2⟩ := shN_hold hg n (m + 1) r S1 (by rw [← hl]; congr 1; omega) h1 (fun i h1 h2 => hx i (by omega) (by omega)) cs' D R hD hw
    have hx := hx0
    obtain ⟨D2, R2, k3, k4⟩ := hg _ _ h2 _ x hx _ D1 R1 k1 k2
    refine ⟨D2, R2, ?_, k4⟩
    have : List.take (P.cellsOf e) (List.drop (m * P.cellsOf e) cs) ++ (List.drop ((m + 1) * P.cellsOf e) cs ++ cs') = List.drop (m * P.cellsOf e) cs ++ cs' := by
      rw [← List.append_assoc, Nat.succ_mul, ← List.drop_drop, List.take_append_drop]
    rw [← this]
    exact k3
/-- Cells that are read as data hold it. -/
theorem shT_hold {deep : Bool} : ∀ (d : Nat) (top : Bool) (fuel : Nat) (t : TypeId) (r S : Sh), shT P deep d top t r = some S → ∀ cs x, DataW.trod enc P w base spare held fuel t cs = some x → Holds1 w S r cs
  | 0, _, _, _, _, _, h, _, _, _ => by cases h
  | d + 1, top, 0, _, _, _, h, _, _, hx => by simp [DataW.trod] at hx
  | d + 1, top, fuel + 1, t, r, S, h, cs, x, hx => by
    unfold shT at h
    split at h
    · rename_i ht
      cases h
      obtain ⟨b, rfl, _⟩ := DataW.trod_bool ht hx
      intro cs' D R hD hw
      exact hold_sc (c := .bool) rfl trivial hD hw
    · rename_i k ht
      cases h
      obtain ⟨n, rfl, _, hwf⟩ := DataW.trod_int ht hx
      intro cs' D R hD hw
      refine hold_sc (c := .int k) rfl ?_ hD hw
      simp only [Lit.wf, Bool.and_eq_true, decide_eq_true_eq] at hwf
      exact hwf
    · rename_i ht
      cases h
      obtain ⟨z, rfl, _, hz⟩ := DataW.trod_string ht hx
      intro cs' D R hD hw
      exact hold_sc (c := .str) rfl hz hD hw
    · rename_i k ht
      cases h
      obtain ⟨b, rfl, hb⟩ : ∃ b, cs = [.float k b] ∧ (Lit.float k b).wf = true := by
        unfold DataW.trod at hx
        rw [ht] at hx
        split at hx <;> simp_all
      intro cs' D R hD hw
      exact hold_sc (c := .flt k) rfl hb hD hw
    · rename_i e ht
      cases hb : (top || deep) with
      | false => rw [hb] at h; cases h
      | true =>
      rw [hb] at h
      simp only [cond_true] at h
      obtain ⟨row, hrow, h⟩ := Option.bind_eq_some_iff.1 h
      cases hb2 : (Nat.blt 0 row.size && Nat.beq row.size (P.cellsOf e)) with
      | false => rw [hb2] at h; cases h
      | true =>
      rw [hb2] at h
      cases h
      simp only [Bool.and_eq_true, Bool.or_eq_true] at hb hb2
      have hs := Nat.eq_of_beq_eq_true hb2.2
      have h0 : 0 < row.size := by simpa using hb2.1
      intro cs' D R hD hw
      rcases DataW.trod_slice ht hx with ⟨rfl, _⟩ | ⟨a, len, cap, elems, rest, n, hn, rfl, _, _, hlen, hcap, hel, hcells⟩
      · refine ⟨prMk r ([] : List (Den row)) D, R, ⟨⟨0, 0, row.size, true, 0, undef, none⟩, cs', [], [], [], [], [], [], R, ?_, ?_, ?_, ?_, rfl, rfl⟩, ?_, ?_⟩
        · rw [prHd_mk]; rfl
        · rw [prHd_mk]; exact ⟨rfl, rfl, rfl⟩
        · rw [prHd_mk]; exact ⟨rfl, h0, by simp, ⟨fun _ => rfl, Nat.le_refl _⟩, fun j V h => by simp at h, rfl, rfl, rfl⟩
        · rw [prTl_mk]; exact hD
        · rw [prHd_mk]; exact ⟨by simp, fun x h => by simp at h⟩
        · rw [prTl_mk]; exact hw
      · obtain rfl : fuel = n := by omega
        cases ha : a.spot with
        | some sp =>
          have hl0 : len = 0 := by
            rcases Nat.eq_zero_or_pos len with h | h
            · exact h
            · exfalso
              have := hcells.1 0 h
              have hlt : 0 < elems.length := by omega
              rw [List.getElem?_eq_getElem hlt] at this
              obtain ⟨ys, hys, _⟩ := Option.bind_eq_some_iff.1 this
              obtain ⟨_, hl, hc⟩ := World.cells?_some hys
              have h1 := hc 0 (by omega)
              rw [List.getElem?_eq_getElem (by omega)] at h1
              have h2 := World.cell?_spot h1
              simp [Addr.add, ha] at h2
          subst hl0
          refine ⟨prMk r ([] : List (Den row)) D, R, ⟨⟨0, 0, row.size, true, cap, undef, some a⟩, cs', [], [], [], [], [], [], R, ?_, ?_, ?_, ?_, rfl, rfl⟩, ?_, ?_⟩
          · rw [prHd_mk]; rfl
          · rw [prHd_mk]; exact ⟨rfl, rfl, rfl⟩
          · rw [prHd_mk]; exact ⟨rfl, h0, by simp, ⟨fun _ => rfl, Nat.zero_le _⟩, fun j V h => by simp at h, rfl, rfl, rfl⟩
          · rw [prTl_mk]; exact hD
          · rw [prHd_mk]; exact ⟨by simp, fun x h => by simp at h⟩
          · rw [prTl_mk]; exact hw
        | none =>
        obtain ⟨Ds, xs, R0, k1, k2, k3, k4, k5⟩ := rows_of (P := P) (enc := enc) (w := w) (base := base) (spare := spare) (held := held) (fuel := fuel) (e := e) a ha
          (fun cs x hx hc => shT_hold d false fuel e .nil row hrow cs x hx) hs len 0 (fun i _ hi => by
            have := hcells.1 i (by omega)
            have hlt : i < elems.length := by omega
            rw [List.getElem?_eq_getElem hlt] at this
            exact ⟨_, this⟩)
        refine ⟨prMk r Ds D, blkR ⟨a.block, a.off, row.size, false, cap, undef, none⟩ xs ++ R0 ++ R, ⟨⟨a.block, a.off, row.size, false, cap, undef, none⟩, cs', xs, [], R0, [], _, [], R, ?_, ?_, ?_, ?_, rfl, rfl⟩, ?_, ?_⟩
        · rw [prHd_mk, k1]
          obtain ⟨b, o, sp⟩ := a
          simp only at ha
          subst ha
          simp [Pl.ptr, Pl.addr]
        · rw [prHd_mk]; exact k2
        · rw [prHd_mk, k1]
          refine ⟨rfl, h0, k3, ⟨(fun h => by cases h), hlen⟩, fun j V hj => ?_, rfl, rfl, rfl⟩
          have := k4 j V hj
          simpa [Pl.addr] using this
        · rw [prTl_mk]; exact hD
        · rw [prHd_mk, k1]; exact ⟨by omega, k5⟩
        · rw [prTl_mk]; exact hw
    · rename_i fs ht
      obtain ⟨xs, n, hn, _, hl, hlen, hf'⟩ := DataW.trod_struct ht hx
      obtain rfl : fuel = n := by omega
      rw [← hl] at h
      have := shF_hold (P := P) (enc := enc) (w := w) (base := base) (spare := spare) (held := held) (g := shT P deep d top) (fuel := fuel) (fun t r S h cs x hx => shT_hold d top fuel t r S h cs x hx) fs.toList 0 r S h (fun f hf => by
        obtain ⟨i, hi, he⟩ := List.getElem_of_mem hf
        have hi' : i < xs.length := by rw [hlen]; simpa using hi
        have := hf' i f (by rw [← Array.getElem?_toList, List.getElem?_eq_getElem hi, he])
        rw [List.getElem?_eq_getElem hi'] at this
        exact ⟨_, this⟩)
      simpa using this
    · rename_i n e ht
      obtain ⟨xs, m, hm, _, hl, hlen, hf⟩ := DataW.trod_array ht hx
      obtain rfl : fuel = m := by omega
      cases hb : Nat.beq (n * P.cellsOf e) (P.cellsOf t) with
      | false => rw [hb] at h; cases h
      | true =>
      rw [hb] at h
      simp only [cond_true] at h
      have hb := Nat.eq_of_beq_eq_true hb
      have := shN_hold (P := P) (enc := enc) (w := w) (base := base) (spare := spare) (held := held) (g := shT P deep d top e) (e := e) (fuel := fuel) (fun r S h cs x hx => shT_hold d top fuel e r S h cs x hx) n 0 r S (by rw [Nat.zero_add, hb, hl]) h (fun i _ hi => by
        have hi' : i < xs.length := by omega
        have := hf i (by omega)
        rw [List.getElem?_eq_getElem hi'] at this
        exact ⟨_, this⟩)
      simpa using this
    · cases h
/-- The shapes of arguments. -/
def shA (P : Program) (deep : Bool) : List TypeId → Option Sh
  | [] => some .nil
  | t :: ts => (shA P deep ts).bind fun r => match P.underlying t with
    | some (.struct _) => (shT P deep P.depth true t .nil).map fun row => .ag none row r
    | some (.array _ _) => (shT P deep P.depth true t .nil).map fun row => .ag none row r
    | _ => shT P deep P.depth true t r
theorem agg_not {r : Reach} {b : Nat} {t : TypeId} {cs : Array Value} (h : Cell.okWide P w r b t (.agg cs)) : False := by
  unfold Cell.okWide at h
  split at h
  all_goals first | (rename_i he; cases he; done) | skip
  unfold Cell.ok at h
  split at h <;> simp_all
theorem trodAll_hold {deep : Bool} {r : Reach} {b : Nat} : ∀ (ts : List TypeId) (S : Sh) (vs : List Value) (ds : List (DataW H)) (ps : List MemPlace), shA P deep ts = some S →
    (∀ (j : Nat) t v, ts[j]? = some t → vs[j]? = some v → Value.okWide P w r b t v) → DataW.TrodAll enc P w base spare held ts vs ds ps → ∃ D R, hold w true S D vs [] R ∧ wfD S D
  | [], S, vs, ds, ps, h, _, ht => by
    obtain ⟨rfl, rfl, rfl⟩ := trodAll_nil ht
    cases h
    exact ⟨(), [], ⟨rfl, rfl, rfl⟩, trivial⟩
  | t :: ts, S, vs, ds, ps, h, hv, ht => by
    obtain ⟨v, vs', d, ds', p, q, rfl, rfl, rfl, ⟨fuel, h0⟩, hr⟩ := trodAll_cons ht
    simp only [shA] at h
    obtain ⟨rest, h1, h2⟩ := Option.bind_eq_some_iff.1 h
    obtain ⟨D, R, k1, k2⟩ := trodAll_hold ts rest vs' ds' q h1 (fun j t v a b => hv (j + 1) t v (by simpa using a) (by simpa using b)) hr
    have hv0 := hv 0 t v rfl rfl
    have agg : (∃ row, shT P deep P.depth true t .nil = some row ∧ S = .ag none row rest) → (∃ cs, v = .agg cs ∧ Row.okWide P w r b t cs) → ∃ D R, hold w true S D (v :: vs') [] R ∧ wfD S D := by
      rintro ⟨row, hrow, rfl⟩ ⟨cs, rfl, hrow2⟩
      obtain ⟨D1, R1, g1, g2⟩ := shT_hold P.depth true fuel t .nil row hrow cs.toList (d, p) h0 [] () [] ⟨rfl, rfl, rfl⟩ trivial
      rw [List.append_nil] at g1
      refine ⟨prMk rest D1 D, R1 ++ R, ⟨cs.toList, vs', [], R1, [], R, by simp [mkAg], ?_, ?_, rfl, rfl⟩, ?_, ?_⟩
      · rw [prHd_mk]; exact g1
      · rw [prTl_mk]; exact k1
      · rw [prHd_mk]; exact g2
      · rw [prTl_mk]; exact k2
    unfold Value.okWide at hv0
    split at h2
    · rename_i fs hu
      rw [hu] at hv0
      obtain ⟨cs, rfl, _, h3⟩ := hv0
      obtain ⟨row, g1, g2⟩ := Option.map_eq_some_iff.1 h2
      exact agg ⟨row, g1, g2.symm⟩ ⟨cs, rfl, h3⟩
    · rename_i n e hu
      rw [hu] at hv0
      obtain ⟨cs, rfl, _, h3⟩ := hv0
      obtain ⟨row, g1, g2⟩ := Option.map_eq_some_iff.1 h2
      exact agg ⟨row, g1, g2.symm⟩ ⟨cs, rfl, h3⟩
    · rename_i hn1 hn2
      have hc : Cell.okWide P w r b t v := by
        split at hv0
        · rename_i fs hu; exact (hn1 fs hu).elim
        · rename_i n e hu; exact (hn2 n e hu).elim
        · exact hv0
      have hcells : v.cells.toList = [v] := by
        cases v with
        | agg cs => exact (agg_not hc).elim
        | _ => rfl
      rw [hcells] at h0
      exact shT_hold P.depth true fuel t rest S h2 [v] (d, p) h0 vs' D R k1 k2
end
/-- Read only, all through. -/
def roAll : Sh → Bool
  | .nil => true
  | .sc _ r => roAll r
  | .sl own _ _ r => !own && roAll r
  | .pt own _ _ r => !own && roAll r
  | .po own _ _ r => !own && roAll r
  | .ag _ row r => roAll row && roAll r
  | .mp _ _ _ _ => false
theorem hold_ro {w : World} : ∀ (S : Sh) (D : Den S) (vs : List Value) (F R : List Nat), roAll S = true → hold w true S D vs F R → hold w false S D vs F R
  | .nil, D, vs, F, R, _, h => h
  | .sc c r, D, vs, F, R, hq, h => by
    obtain ⟨vs', h1, h2, h3⟩ := h
    exact ⟨vs', h1, h2, hold_ro r _ _ _ _ hq h3⟩
  | .sl own e row r, D, vs, F, R, hq, h => by
    simp only [roAll, Bool.and_eq_true, Bool.not_eq_true'] at hq
    obtain ⟨rfl, hq⟩ := hq
    obtain ⟨p, vs', xs, F0, R0, F1, R1, F2, R2, h1, h2, h3, h4, h5, h6⟩ := h
    exact ⟨p, vs', xs, F0, R0, F1, R1, F2, R2, h1, h2, h3, hold_ro r _ _ _ _ hq h4, h5, h6⟩
  | .pt own e row r, D, vs, F, R, hq, h => by
    simp only [roAll, Bool.and_eq_true, Bool.not_eq_true'] at hq
    obtain ⟨rfl, hq⟩ := hq
    obtain ⟨p, vs', xs, F0, R0, F1, R1, F2, R2, h0, h1, h2, h3, h4, h5, h6⟩ := h
    exact ⟨p, vs', xs, F0, R0, F1, R1, F2, R2, h0, h1, h2, h3, hold_ro r _ _ _ _ hq h4, h5, h6⟩
  | .po own e row r, D, vs, F, R, hq, h => by
    simp only [roAll, Bool.and_eq_true, Bool.not_eq_true'] at hq
    obtain ⟨rfl, hq⟩ := hq
    obtain ⟨v, vs', F1, R1, F2, R2, h1, h2, h3, h4, h5⟩ := h
    exact ⟨v, vs', F1, R1, F2, R2, h1, h2, h3, hold_ro r _ _ _ _ hq h4, h5⟩
  | .mp _ _ _ _, D, vs, F, R, hq, h => by simp [roAll] at hq
  | .ag tg row r, D, vs, F, R, hq, h => by
    simp only [roAll, Bool.and_eq_true] at hq
    obtain ⟨us, vs', F1, R1, F2, R2, h1, h2, h3, h4, h5⟩ := h
    exact ⟨us, vs', F1, R1, F2, R2, h1, hold_ro row _ _ _ _ hq.1 h2, hold_ro r _ _ _ _ hq.2 h3, h4, h5⟩
theorem hold_A {w : World} : ∀ (S : Sh) (D : Den S) (vs : List Value) (F R : List Nat), roAll S = true → hold w false S D vs F R → holdA w S D vs [] F R
  | .nil, D, vs, F, R, _, h => ⟨h.1, rfl, h.2.1, h.2.2⟩
  | .sc c r, D, vs, F, R, hq, h => by
    obtain ⟨vs', h1, h2, h3⟩ := h
    exact ⟨vs', h1, h2, hold_A r _ _ _ _ hq h3⟩
  | .sl own e row r, D, vs, F, R, hq, h => by
    simp only [roAll, Bool.and_eq_true] at hq
    obtain ⟨p, vs', xs, F0, R0, F1, R1, F2, R2, rfl, h2, h3, h4, rfl, rfl⟩ := h
    exact ⟨_, vs', F1, R1, F2, R2, rfl, ⟨p, [], xs, F0, R0, F1, R1, [], [], rfl, h2, h3, ⟨rfl, rfl, rfl⟩, by simp, by simp⟩, hold_A r _ _ _ _ hq.2 h4, rfl, rfl⟩
  | .pt own e row r, D, vs, F, R, hq, h => by
    simp only [roAll, Bool.and_eq_true, Bool.not_eq_true'] at hq
    obtain ⟨rfl, hq⟩ := hq
    obtain ⟨p, vs', xs, F0, R0, F1, R1, F2, R2, h0, rfl, h2, h3, h4, rfl, rfl⟩ := h
    exact ⟨_, vs', F1, R1, F2, R2, rfl, ⟨p, [], xs, F0, R0, F1, R1, [], [], h0, rfl, h2, h3, ⟨rfl, rfl, rfl⟩, by simp, by simp⟩, hold_A r _ _ _ _ hq h4, rfl, rfl⟩
  | .po own e row r, D, vs, F, R, hq, h => by
    simp only [roAll, Bool.and_eq_true] at hq
    obtain ⟨v, vs', F1, R1, F2, R2, rfl, rfl, rfl, h4, h5⟩ := h
    exact ⟨_, vs', F1, R1, F2, R2, rfl, ⟨v, [], F1, R1, [], [], rfl, by simp, by simp, ⟨rfl, rfl, rfl⟩, h5⟩, hold_A r _ _ _ _ hq.2 h4, rfl, rfl⟩
  | .mp _ _ _ _, D, vs, F, R, hq, h => by simp [roAll] at hq
  | .ag tg row r, D, vs, F, R, hq, h => by
    simp only [roAll, Bool.and_eq_true] at hq
    obtain ⟨us, vs', F1, R1, F2, R2, rfl, h2, h3, rfl, rfl⟩ := h
    exact ⟨_, vs', F1, R1, F2, R2, rfl, ⟨us, [], F1, R1, [], [], rfl, h2, ⟨rfl, rfl, rfl⟩, by simp, by simp⟩, hold_A r _ _ _ _ hq.2 h3, rfl, rfl⟩
/-- A LAW, from its contract: true at all data within their kinds. -/
theorem law_of_F {H : Type} {enc : TypeId × Value → H} {P : Program} {f : FuncId} {S : Sh} {F : Den S → Option (Den (.sc .bool .nil) × Den (posts S))} (hM : MeetsF P f ⟨S, .sc .bool .nil, F⟩) {deep : Bool} {ts : List TypeId} (hS : shA P deep ts = some S) (hro : roAll S = true)
    (h : ∀ d, wfD S d → ∃ q, F d = some (true, q))
    {W : World} {base b : Nat} {spare : Nat → Bool} {held : Bool} {r : Reach} {args : Array Value} {ds : List (DataW H)} {p : List MemPlace}
    (hval : ∀ (j : Nat) t v, ts[j]? = some t → args[j]? = some v → Value.okWide P W r b t v) (hA : DataW.TrodAll enc P W base spare held ts args.toList ds p) (hW : GlobW W) : Calls P f args W (Law.Told W) := by
  obtain ⟨D, R, h1, h2⟩ := trodAll_hold (P := P) (w := W) (deep := deep) ts S args.toList ds p hS (fun j t v a b => hval j t v a (by simpa using b)) hA
  have h3 := hold_A S D _ _ _ hro (hold_ro S D _ _ _ hro h1)
  obtain ⟨q, hq⟩ := h D h2
  have := hM W D _ [] [] R _ (hW.to fun k _ _ => ⟨rfl, fun h => by cases h⟩) h3 List.nodup_nil (fun k hk => by simp at hk) hq
  rw [Array.toArray_toList] at this
  refine this.mono ?_
  rintro e w' ⟨rs, F1, R1, ps, F2, R2, rfl, g1, _, _, _, _, g2⟩
  obtain ⟨vs', rfl, _, g3, _⟩ := g1
  subst g3
  exact ⟨rfl, Fr.below (g2.mono fun k hk => by simp at hk)⟩
end Go.Proofs.YtpfbpcaehmhefaaDoorB.Sx
