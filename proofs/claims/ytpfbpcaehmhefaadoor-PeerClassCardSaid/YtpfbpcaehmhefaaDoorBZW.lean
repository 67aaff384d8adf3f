/- The engine, part W: what a row says of package variables: cells of flat data; the row's step with such variables. -/
import Derived.Test.YtpfbpcaehmhefaaDoorBZK
import Derived.Test.YtpfbpcaehmhefaaDoorBLaw
import Derived.Lay
import Derived.MakeChecks
import Derived.Stop.Joined
import Derived.LaidMore
import Derived.LaidHandle
import Derived.WideKeyElems2
import Derived.Maps.RangeWalk
namespace Go.Proofs.YtpfbpcaehmhefaaDoorB.Sx
open Go.ChangeShapes Go.WideShapes Go.ChangeAt Go.RowKit
set_option linter.unusedSimpArgs false
set_option linter.unusedVariables false

def unlayL (P : Program) (g : TypeId → DataW Unit → Option (List Value)) : List (TypeId × Nat) → List (DataW Unit) → Nat → Option (List Value)
  | [], [], _ => some []
  | f :: fs, d :: ds, off => bif Nat.beq f.2 off then
      match g f.1 d with
      | some l => bif Nat.beq l.length (P.cellsOf f.1) then (unlayL P g fs ds (off + P.cellsOf f.1)).map (l ++ ·) else none
      | none => none
    else none
  | _, _, _ => none
/-- The cells that read as flat data. -/
def unlay (P : Program) : Nat → TypeId → DataW Unit → Option (List Value)
  | 0, _, _ => none
  | n + 1, t, d =>
    match P.underlying t, d with
    | some .bool, .lit (.bool b) => some [.bool b]
    | some (.int k), .lit (.int k' i) => if k = k' then some [.int k i] else none
    | some .string, .lit (.string s) => some [.string ⟨s.toArray⟩]
    | some (.struct fs), .agg ds => match unlayL P (unlay P n) (fs.toList.map fun f => (f.type, f.offset)) ds 0 with
      | some l => bif Nat.beq l.length (P.cellsOf t) then some l else none
      | none => none
    | some (.array k e), .agg ds => match unlayL P (unlay P n) ((List.range k).map fun i => (e, i * P.cellsOf e)) ds 0 with
      | some l => bif Nat.beq l.length (P.cellsOf t) then some l else none
      | none => none
    | _, _ => none
section
variable {enc : TypeId × Value → Unit} {P : Program} {w : World} {base : Nat} {sp : Nat → Bool} {held : Bool}
theorem unlayL_ok {g : TypeId → DataW Unit → Option (List Value)} {n : Nat} (hg : ∀ t d l, g t d = some l → ∀ cs p, DataW.trod enc P w base sp held n t cs = some (d, p) → cs = l) {cs : List Value} :
    ∀ (fs : List (TypeId × Nat)) (ds : List (DataW Unit)) (off : Nat) (vs : List Value), (∀ (i : Nat) f, fs[i]? = some f → ∃ d p, ds[i]? = some d ∧ DataW.trod enc P w base sp held n f.1 ((cs.drop f.2).take (P.cellsOf f.1)) = some (d, p)) →
      unlayL P g fs ds off = some vs → (cs.drop off).take vs.length = vs
  | [], ds, off, vs, _, h => by
    cases ds with
    | nil => simp only [unlayL, Option.some.injEq] at h; subst h; simp
    | cons d ds => simp [unlayL] at h
  | f :: fs, [], off, vs, _, h => by simp [unlayL] at h
  | f :: fs, d :: ds, off, vs, hx, h => by
    simp only [unlayL] at h
    cases hb : Nat.beq f.2 off with
    | false => rw [hb] at h; cases h
    | true =>
      rw [hb] at h
      simp only [cond_true] at h
      have hb := Nat.eq_of_beq_eq_true hb
      split at h
      case h_2 => cases h
      rename_i l hl
      cases hc : Nat.beq l.length (P.cellsOf f.1) with
      | false => rw [hc] at h; cases h
      | true =>
        rw [hc] at h
        simp only [cond_true, Option.map_eq_some_iff] at h
        obtain ⟨r, hr, rfl⟩ := h
        have hc := Nat.eq_of_beq_eq_true hc
        obtain ⟨d', p, h1, h2⟩ := hx 0 f rfl
        simp only [List.getElem?_cons_zero, Option.some.injEq] at h1
        subst h1
        have e1 := hg _ _ _ hl _ _ h2
        have e2 := unlayL_ok hg fs ds _ r (fun i f h => hx (i + 1) f (by simpa using h)) hr
        rw [hb] at e1
        rw [List.length_append, List.take_add, hc, e1, List.drop_drop, e2]
theorem unlay_ok : ∀ (n : Nat) (t : TypeId) (d : DataW Unit) (l : List Value), unlay P n t d = some l → ∀ (m : Nat) (cs : List Value) (p : List MemPlace), DataW.trod enc P w base sp held m t cs = some (d, p) → cs = l
  | 0, _, _, _, h, _, _, _, _ => by cases h
  | n + 1, t, d, l, h, m, cs, p, ht => by
    unfold unlay at h
    split at h
    · rename_i hu
      cases h
      obtain ⟨b', rfl, e⟩ := DataW.trod_bool hu ht
      simp_all
    · rename_i k k' i hu
      split at h
      · rename_i hk
        subst hk
        cases h
        obtain ⟨b', rfl, e, _⟩ := DataW.trod_int hu ht
        simp_all
      · cases h
    · rename_i s hu
      cases h
      obtain ⟨b', rfl, e, _⟩ := DataW.trod_string hu ht
      simp only [Prod.mk.injEq, DataW.lit.injEq, Lit.string.injEq] at e
      rw [e.1]
    · rename_i fs ds hu
      split at h
      case h_2 => cases h
      rename_i r hr
      cases hb : Nat.beq r.length (P.cellsOf t) with
      | false => rw [hb] at h; cases h
      | true =>
        rw [hb] at h
        cases h
        have hb := Nat.eq_of_beq_eq_true hb
        obtain ⟨xs, q, rfl, hx, hl, hxl, hall⟩ := DataW.trod_struct hu ht
        simp only [Prod.mk.injEq, DataW.agg.injEq] at hx
        have := unlayL_ok (P := P) (enc := enc) (w := w) (base := base) (sp := sp) (held := held) (n := q) (fun t d l h cs p ht => unlay_ok n t d l h q cs p ht) (cs := cs) _ ds 0 l (fun i f hf => by
          rw [List.getElem?_map, Option.map_eq_some_iff] at hf
          obtain ⟨fd, hfd, rfl⟩ := hf
          rw [Array.getElem?_toList] at hfd
          have h1 := hall i fd hfd
          have hi : i < xs.length := by rw [hxl]; exact (Array.getElem?_eq_some_iff.1 hfd).1
          rw [List.getElem?_eq_getElem hi] at h1
          refine ⟨xs[i].1, xs[i].2, ?_, h1⟩
          rw [hx.1, List.getElem?_map, List.getElem?_eq_getElem hi]; rfl) hr
        rw [List.drop_zero, hb, ← hl, List.take_length] at this
        exact this
    · rename_i k e ds hu
      split at h
      case h_2 => cases h
      rename_i r hr
      cases hb : Nat.beq r.length (P.cellsOf t) with
      | false => rw [hb] at h; cases h
      | true =>
        rw [hb] at h
        cases h
        have hb := Nat.eq_of_beq_eq_true hb
        obtain ⟨xs, q, rfl, hx, hl, hxl, hall⟩ := DataW.trod_array hu ht
        simp only [Prod.mk.injEq, DataW.agg.injEq] at hx
        have := unlayL_ok (P := P) (enc := enc) (w := w) (base := base) (sp := sp) (held := held) (n := q) (fun t d l h cs p ht => unlay_ok n t d l h q cs p ht) (cs := cs) _ ds 0 l (fun i f hf => by
          rw [List.getElem?_map, Option.map_eq_some_iff] at hf
          obtain ⟨j, hj, rfl⟩ := hf
          have hik : i < k := by
            have := (List.getElem?_eq_some_iff.1 hj).1
            simpa using this
          have hji : j = i := by
            rw [List.getElem?_range hik] at hj
            exact (Option.some.inj hj).symm
          subst hji
          have h1 := hall j hik
          have hi : j < xs.length := by omega
          rw [List.getElem?_eq_getElem hi] at h1
          refine ⟨xs[j].1, xs[j].2, ?_, h1⟩
          rw [hx.1, List.getElem?_map, List.getElem?_eq_getElem hi]; rfl) hr
        rw [List.drop_zero, hb, ← hl, List.take_length] at this
        exact this
    · cases h
end
theorem laidVars_reads {P : Program} {w : World} : ∀ {l : List (String × DataW Unit)} {ps : List MemPlace}, DataW.LaidVars P w l ps → ∀ n d, (n, d) ∈ l →
    ∃ g t cs fuel p, P.globalNamed n = some g ∧ (P.globals[g]?).map (·.type) = some t ∧ w.var? P n = some cs ∧ DataW.trod (fun _ => ()) P w 0 (fun _ => true) false fuel t cs.toList = some (d, p)
  | [], _, _, _, _, hm => by cases hm
  | (n', d') :: r, ps, h, n, d, hm => by
    obtain ⟨g, t, cs, fuel, p, q, h1, h2, h3, h4, h5, _⟩ := h
    rcases List.mem_cons.1 hm with e | e
    · cases e
      exact ⟨g, t, cs, fuel, p, h1, h2, h3, h4⟩
    · exact laidVars_reads h5 n d e
/-- A listed variable's cells. -/
theorem cells_of_laid {P : Program} {w : World} {laid : List (String × DataW Unit)} (h : laidMet P laid w) {n : String} {d : DataW Unit} (hm : (n, d) ∈ laid) {g : Nat} {t : TypeId} {l : List Value} (hg : P.globalNamed n = some g) (ht : (P.globals[g]?).map (·.type) = some t)
    (hu : unlay P 8 t d = some l) : CellsAt w g l := by
  obtain ⟨_, hv, _⟩ := h
  obtain ⟨g', t', cs, fuel, p, e1, e2, e3, e4⟩ := laidVars_reads hv n d hm
  rw [hg] at e1
  cases e1
  rw [ht] at e2
  cases e2
  have := unlay_ok 8 t d l hu fuel cs.toList p e4
  subst this
  unfold World.var? at e3
  rw [hg] at e3
  simp only [Option.bind_some] at e3
  split at e3
  · rename_i cs' t' fz hh
    cases e3
    exact ⟨t', fz, by rw [hh]⟩
  · cases e3
/-- A listed map of functions. -/
theorem globAt_funcs {P : Program} {w : World} {n : String} {d : DataW Unit} (h : funcsAt P w n d) {g : Nat} {t k e : TypeId} {q : IntKind} {ps rs : Array TypeId} {va : Bool} (hg : P.globalNamed n = some g) (ht : (P.globals[g]?).map (·.type) = some t)
    (hu : P.underlying t = some (.map k e)) (hk : P.underlying k = some (.int q)) (he : P.underlying e = some (.func ps rs va)) {L : List (Int × List UInt8 × Nat)} (hd : d.funcsOut = .map (L.map fun x => (Lit.int q x.1, DataW.held x.2.1)))
    (hL : (L.all fun x => !x.2.1.isEmpty && decide (((List.range P.funcs.size).filter fun f => (P.funcs[f]?).any (·.name.toUTF8.data.toList == x.2.1)) = [x.2.2])) = true) : GlobAt w (fun _ => False) g (.table q (L.map fun x => (x.1, x.2.2))) := by
  obtain ⟨g', t', cs, fuel, p, e1, e2, e3, e4⟩ := h
  rw [hg] at e1
  cases e1
  rw [ht] at e2
  cases e2
  rw [hd] at e4
  rcases WideElems.open_map hu e4 with ⟨_, hx⟩ | ⟨b, es, clock, m, rfl, hcs, hb, _, F, hx⟩
  · cases hx
  · have hcells : CellsAt w g [.map (some b)] := by
      unfold World.var? at e3
      rw [hg] at e3
      simp only [Option.bind_some] at e3
      split at e3
      · rename_i cs' t' fz hh
        cases e3
        exact ⟨t', fz, by rw [hh, ← hcs]⟩
      · cases e3
    simp only [Prod.mk.injEq, DataW.map.injEq] at hx
    obtain ⟨hx, _⟩ := hx
    have hmem : ∀ y, y ∈ (L.map fun x => (Lit.int q x.1, (DataW.held x.2.1 : DataW (List UInt8)))) ↔ y ∈ es.toList.map (WideElems.rg P k (WideElems.elemAt (funcToken P) P w 0 (fun _ => true) true m e)) := by
      intro y
      rw [hx]
      exact (sorted_perm _).mem_iff
    refine ⟨b, hcells, id, ⟨es, clock, hb, ?_, ?_⟩, id⟩
    · intro x hxe
      obtain ⟨y, hy⟩ := F.reads x hxe
      have hy1 := (hmem y).2 (List.mem_map.2 ⟨x, hxe, WideElems.rg_of hy⟩)
      obtain ⟨z, hz, rfl⟩ := List.mem_map.1 hy1
      obtain ⟨v, hkey, hv, _⟩ := Maps.keyOf_int_inv hk (WideElems.rd_key hy)
      simp only [Lit.int.injEq, true_and] at hv
      refine ⟨_, List.mem_map.2 ⟨z, hz, rfl⟩, by rw [hkey, ← hv], ?_⟩
      obtain ⟨u, hu1, hu2⟩ := WideElems.rd_val hy
      unfold WideElems.elemAt at hu1
      split at hu1
      case isFalse => cases hu1
      rename_i hform
      have hL1 := List.all_eq_true.1 hL z hz
      simp only [Bool.and_eq_true, decide_eq_true_eq, Bool.not_eq_true', List.isEmpty_eq_false_iff] at hL1
      obtain ⟨hne, hone⟩ := hL1
      obtain ⟨u1, u2⟩ := u
      simp only at hu2
      subst hu2
      cases hn : z.2.1 with
      | nil => exact (hne hn).elim
      | cons b0 r0 =>
        rw [hn] at hu1 hone
        cases hvv : x.val with
        | agg cs0 => rw [hvv] at hform; simp [Value.formed, he] at hform
        | _ => rw [hvv] at hu1; exact func_of_trod he hone hu1
    · intro x hx1
      obtain ⟨z, hz, rfl⟩ := List.mem_map.1 hx1
      obtain ⟨y, hye, hy2⟩ := List.mem_map.1 ((hmem _).1 (List.mem_map.2 ⟨z, hz, rfl⟩))
      obtain ⟨y', hy'⟩ := F.reads y hye
      rw [WideElems.rg_of hy'] at hy2
      subst hy2
      obtain ⟨v, hkey, hv, _⟩ := Maps.keyOf_int_inv hk (WideElems.rd_key hy')
      simp only [Lit.int.injEq, true_and] at hv
      exact ⟨y, hye, by rw [hkey, ← hv]⟩
theorem globW_of {w : World} (h : ∀ x ∈ globs, GlobAt w (fun _ => False) x.1 x.2) : GlobW w := by
  have : ∀ (l : List (Nat × GB)), (∀ x ∈ l, GlobAt w (fun _ => False) x.1 x.2) → ∀ g o, lookG l g = some o → GlobAt w (fun _ => False) g o := by
    intro l
    induction l with
    | nil => intro _ g o h; cases h
    | cons x l ih =>
      intro hl g o h
      simp only [lookG] at h
      cases hb : Nat.beq x.1 g with
      | true =>
        rw [hb] at h
        cases h
        rw [← Nat.eq_of_beq_eq_true hb]
        exact hl x (by simp)
      | false => rw [hb] at h; exact ih (fun y hy => hl y (by simp [hy])) g o h
  exact this globs h
/-- THE ROW's STEP, where the row lists variables. -/
theorem lifted_laid {C : Checked} {os : Os} {F : FuncId} {fn : Func} {s : ChangeSpec} {tb : TypeId} {H : Type} {enc : TypeId × Value → H} {laid : List (String × DataW Unit)}
    (own : ownKnob C.prog.godebug = none) (started : os.Started) (noInit : C.prog.inits.idxOf? F = none) (hfn : C.prog.funcs[F]? = some fn)
    (hres : fn.resultTypes = #[tb]) (hub : C.prog.underlying tb = some .bool) (hvars : s.vars = []) (hspec : ∀ ds : List (DataW H), ds.length = fn.params.size → s.fn H ds = { results := [.lit (.bool true)], args := ds })
    (hl : laidOutB C.prog = true) (hpar : fn.params.toList.all (fun t => C.prog.readableRec t && decide (t < C.prog.types.size)) = true)
    (witness : ∃ (w : World) (tape : Tape) (i : Input), w.os = os ∧ (w.forCall tape i).Shaped C.prog ∧ i.vars = [] ∧ Input.okWide C.prog (w.forCall tape i) .any w.heap.size F i ∧
      ((s.pre enc C.prog fn [] false (w.forCall tape i).memory i.args ∧ laidMetH C.prog laid (w.forCall tape i).memory) ∧ sizedMet enc C.prog fn (OpenSpec.ofChange s) false (w.forCall tape i).memory i.args) ∧ ({} : Assume).holds C.prog (lone (Frame.enter C.prog F i.args .normal) [] (w.forCall tape i)))
    (law : ∀ (W : World) (base : Nat) (args : Array Value) (ds : List (DataW H)) (p : List MemPlace),
      (∀ (j : Nat) t v, fn.params[j]? = some t → args[j]? = some v → Value.okWide C.prog W .any base t v) →
      DataW.TrodAll enc C.prog W 0 (fun _ => true) true fn.params.toList args.toList ds p → laidMetH C.prog laid W → Calls C.prog F args W (Law.Told W)) :
    ReturnsInHanded {} C os F .any (fun w args => (s.pre enc C.prog fn [] false w args ∧ laidMetH C.prog laid w) ∧ sizedMet enc C.prog fn (OpenSpec.ofChange s) false w args) (s.post enc C.prog fn false true false false) := by
  refine returnsInHanded_of_change_and (C := C) (X := fun w _ => laidMetH C.prog laid w) (fun _ _ _ hh h => h.of_heap hh) own started noInit hfn witness ?_
  intro W base args ds gs before hval hW _ hsz hL _
  have hlt := hW.lt
  have hW0 := hW
  obtain ⟨p, q, hA, hV, rfl, hfz, hnd⟩ := hW
  have hV' := hV
  rw [hvars] at hV'
  obtain ⟨rfl, rfl⟩ := trodVars_none hV'
  refine (law W base args ds p hval hA hL).mono fun e W' ⟨he, hb⟩ => ?_
  refine ⟨_, he, Law.post_law hres hub hvars hspec hl ?_ hW0 hb⟩
  intro t ht
  have := List.all_eq_true.1 hpar t ht
  simpa using this
end Go.Proofs.YtpfbpcaehmhefaaDoorB.Sx
