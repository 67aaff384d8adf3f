/- The engine, part 6: soundness of the effects: new memory, literals. -/
import Derived.Test.YtpfbpcaehmhefaaDoorBZ5
namespace Go.Proofs.YtpfbpcaehmhefaaDoorB.Sx
open Go.RowKit
set_option linter.unusedSimpArgs false
set_option linter.unusedVariables false

theorem box_ok {C : Cx} {el : TypeId} {x : Operand} {o : Oper} {a : Act} {w W0 : World} {S : Reg} {E : Env} {hp : Nat → Option AB} {av : AV} {fr : Nat} {e : Eff} (G : Gam W0 S E hp w) (ho : o.op = .box el x) (hx : conc E av = some (a.eval x))
    (hfr : ∀ n, fr ≤ n → n < fr + e.nn → E n = none) (h : (effBox el av fr).get = some e) : OpOk C.P o a w W0 S E hp fr e := by
  unfold effBox at h
  cases hb : Nat.blt 0 (acells av).length with
  | false => rw [hb] at h; exact get_no h
  | true =>
    rw [hb] at h
    simp only [cond_true] at h
    obtain rfl := get_one h
    have hs : 0 < (acells av).length := by simpa using hb
    have hcs := acells_conc hx
    have hl := concs_length hcs
    obtain ⟨F, R, G⟩ := G
    have hrun : (execOp a.eval o).run C.P w = .ok (.value (.pointer (some ⟨w.heap.size, 0, none⟩))) (w.alloc (.cells (a.eval x).cells el)) := by
      simp [execOp, ho, Instr.box, newVar, newRow]
    refine OpOk.post G hrun ?_ (Post.box (L := 1) (cap := 1) (hfr fr (Nat.le_refl _) (by simp)) rfl rfl rfl hs (by simp) hcs (by rw [← hl]; simp) (Nat.le_refl _) (by simp [maxLen]) ?_)
    · simp [conc, Env.set, Pl.addr]
    · rw [Nat.one_mul, ← hl]
      exact List.take_length

theorem alloc_ok {C : Cx} {el : TypeId} {o : Oper} {a : Act} {w W0 : World} {S : Reg} {E : Env} {hp : Nat → Option AB} {fr : Nat} {e : Eff} (G : Gam W0 S E hp w) (ho : o.op = .alloc el)
    (hfr : ∀ n, fr ≤ n → n < fr + e.nn → E n = none) (h : (effAlloc C.P el fr).get = some e) : OpOk C.P o a w W0 S E hp fr e := by
  unfold effAlloc at h
  split at h
  case h_2 => exact get_no h
  rename_i i hi
  split at h
  case h_2 => exact get_no h
  rename_i z hz
  cases hb : Nat.blt 0 z.cells.toList.length with
  | false => rw [hb] at h; exact get_no h
  | true =>
    rw [hb] at h
    simp only [cond_true] at h
    obtain rfl := get_one h
    have hs : 0 < z.cells.toList.length := by simpa using hb
    obtain ⟨F, R, G⟩ := G
    have hrun : (execOp a.eval o).run C.P w = .ok (.value (.pointer (some ⟨w.heap.size, 0, none⟩))) (w.alloc (.cells z.cells el)) := by
      simp [execOp, ho, Instr.alloc, zeroValue, typeInfo, hi, hz, newVar, newRow]
    refine OpOk.post G hrun ?_ (Post.box (L := 1) (cap := 1) (hfr fr (Nat.le_refl _) (by simp)) rfl rfl rfl hs (by simp) (concs_plain z.cells.toList) (by simp) (Nat.le_refl _) (by simp [maxLen]) ?_)
    · simp [conc, Env.set, Pl.addr]
    · rw [Nat.one_mul]
      exact List.take_length

/-! ### Literals -/
theorem fill_step {v : Value} {off : Nat} {cells : Array Value} (h : off + v.cells.size ≤ cells.size) :
    (v.cells.zipIdx.foldl (fun cs (x : Value × Nat) => cs.setIfInBounds (off + x.2) x.1) cells).toList = cells.toList.take off ++ v.cells.toList ++ cells.toList.drop (off + v.cells.size) := by
  have he : v.cells.zipIdx.foldl (fun cs (x : Value × Nat) => cs.setIfInBounds (off + x.2) x.1) cells = (v.cells.toList.zipIdx 0).foldl (fun cs (x : Value × Nat) => cs.setIfInBounds (off + x.2) x.1) cells := by
    rw [← Array.foldl_toList]; simp
  obtain ⟨h1, h2⟩ := Great.foldl_set off v.cells.toList 0 cells
  rw [he]
  apply List.ext_getElem?
  intro k
  have := h2 k
  rw [← Array.getElem?_toList] at this
  rw [this]
  have hvl : v.cells.toList.length = v.cells.size := by simp
  have hcl : cells.toList.length = cells.size := by simp
  simp only [Nat.add_zero, List.getElem?_append, List.length_append, List.length_take, List.getElem?_take, List.getElem?_drop, hvl, hcl, Nat.min_eq_left (show off ≤ cells.size by omega)]
  by_cases k1 : k < off
  · rw [if_neg (by omega), if_pos (by omega), if_pos k1, if_pos k1]; simp
  · by_cases k2 : k < off + v.cells.size
    · rw [if_pos (by omega), if_pos k2, if_neg k1]
    · rw [if_neg (by omega), if_neg k2]
      rw [show off + v.cells.size + (k - (off + v.cells.size)) = k by omega]; simp

theorem afill_conc {E : Env} {place : Nat → Option (Nat × Nat)} : ∀ {parts : List (Nat × AV)} {vparts : List (Nat × Value)} {cells cs : List AV} {vcells : Array Value}, afill place cells parts = some cs →
    concs E cells = some vcells.toList → vparts.map Prod.fst = parts.map Prod.fst → concs E (parts.map Prod.snd) = some (vparts.map Prod.snd) → ∃ r, Instr.fill place vcells vparts = some r ∧ concs E cs = some r.toList
  | [], vparts, cells, cs, vcells, h, hc, hf, hs => by
    simp only [List.map_nil, List.map_eq_nil_iff] at hf
    subst hf
    simp only [afill, Option.some.injEq] at h
    subst h
    exact ⟨vcells, rfl, hc⟩
  | (i, v) :: rest, [], cells, cs, vcells, h, hc, hf, hs => by simp at hf
  | (i, v) :: rest, (i', V) :: vrest, cells, cs, vcells, h, hc, hf, hs => by
    simp only [List.map_cons, List.cons.injEq] at hf
    obtain ⟨rfl, hf⟩ := hf
    simp only [List.map_cons] at hs
    obtain ⟨V', vs', hV, hs', he⟩ := concs_cons.1 hs
    simp only [List.cons.injEq] at he
    obtain ⟨rfl, rfl⟩ := he
    simp only [afill] at h
    cases hp : place i' with
    | none => rw [hp] at h; cases h
    | some os =>
      obtain ⟨off, size⟩ := os
      rw [hp] at h
      simp only at h
      cases hb : (Nat.beq (acells v).length size && Nat.ble (off + size) cells.length) with
      | false => rw [hb] at h; cases h
      | true =>
        rw [hb] at h
        simp only [cond_true] at h
        simp only [Bool.and_eq_true] at hb
        have h1 := Nat.eq_of_beq_eq_true hb.1
        have h2 := Nat.le_of_ble_eq_true hb.2
        have hvc := acells_conc hV
        have hvl : V.cells.size = size := by rw [← h1, ← concs_length hvc]; simp
        have hcl := concs_length hc
        have hcl' : vcells.size = cells.length := by simpa using hcl
        have hst := fill_step (v := V) (off := off) (cells := vcells) (by omega)
        have hnew : concs E (cells.take off ++ acells v ++ cells.drop (off + size)) = some (V.cells.zipIdx.foldl (fun cs (x : Value × Nat) => cs.setIfInBounds (off + x.2) x.1) vcells).toList := by
          rw [hst, hvl]
          exact concs_append.2 ⟨_, _, concs_append.2 ⟨_, _, concs_take off hc, hvc, rfl⟩, concs_drop (off + size) hc, rfl⟩
        obtain ⟨r, hr, hcr⟩ := afill_conc h hnew hf hs'
        refine ⟨r, ?_, hcr⟩
        unfold Instr.fill
        simp only [hp]
        rw [if_neg (by simp only [Bool.or_eq_true, decide_eq_true_eq, ne_eq]; omega)]
        exact hr

theorem places_ok {P : Program} : ∀ {fs : List Field} {l : List (Nat × Nat)}, placesOf P fs = some l → fs.mapM (fun f => (P.info? f.type).map fun i => (f.offset, i.size)) = some l
  | [], l, h => by simp only [placesOf, Option.some.injEq] at h; subst h; rfl
  | f :: fs, l, h => by
    simp only [placesOf] at h
    split at h
    case h_2 => cases h
    rename_i i r hi hr
    simp only [Option.some.injEq] at h
    subst h
    simp [List.mapM_cons, hi, places_ok hr]

theorem build_ok {C : Cx} {ty : TypeId} {parts : Array (Nat × Operand)} {o : Oper} {a : Act} {w W0 : World} {S : Reg} {E : Env} {hp : Nat → Option AB} {lo : Nat} {e : Eff} {t : Operand → AV} (G : Gam W0 S E hp w) (ho : o.op = .build ty parts) (hv : ∀ p ∈ parts.toList, conc E (t p.2) = some (a.eval p.2))
    (h : (effBuild C.P ty (parts.toList.map fun p => (p.1, t p.2))).get = some e) : OpOk C.P o a w W0 S E hp lo e := by
  have hparts : ∀ l : List (Nat × Operand), (∀ p ∈ l, conc E (t p.2) = some (a.eval p.2)) → concs E ((l.map fun p => (p.1, t p.2)).map Prod.snd) = some ((l.map fun p => (p.1, a.eval p.2)).map Prod.snd) := by
    intro l
    induction l with
    | nil => intro _; rfl
    | cons p l ih => intro hl; exact concs_cons.2 ⟨_, _, hl p (by simp), ih (fun q hq => hl q (by simp [hq])), rfl⟩
  have hfst : ((parts.toList.map fun p => (p.1, a.eval p.2)).map Prod.fst) = ((parts.toList.map fun p => (p.1, t p.2)).map Prod.fst) := by simp [List.map_map, Function.comp_def]
  have hsnd := hparts parts.toList hv
  have fin : ∀ (cs : List AV), (∃ r, C.P.built ty (parts.toList.map fun p => (p.1, a.eval p.2)) = some r ∧ concs E cs = some r.toList) → e = { val := .agg cs } → OpOk C.P o a w W0 S E hp lo e := by
    rintro cs ⟨r, hr, hcr⟩ rfl
    refine OpOk.value G (V := .agg r) ?_ (by simp [conc, hcr]) rfl rfl
    have := run_build (P := C.P) w ty (parts.map fun (i, x) => (i, a.eval x)) r (by simpa using hr)
    simp [execOp, ho, this]
  unfold effBuild at h
  split at h
  case h_2 => exact get_no h
  rename_i it hit
  split at h
  case h_2 => exact get_no h
  rename_i z hz
  split at h
  · rename_i n el hu
    split at h
    case h_2 => exact get_no h
    rename_i ie hie
    simp only [T.get, Option.map_eq_some_iff] at h
    obtain ⟨cs, hcs, rfl⟩ := h
    obtain ⟨r, hr, hcr⟩ := afill_conc hcs (concs_plain z.cells.toList) hfst hsnd
    exact fin cs ⟨r, by simp only [Program.built, hit, hu, hz, hie]; exact hr, hcr⟩ rfl
  · rename_i fs hu
    split at h
    case h_2 => exact get_no h
    rename_i places hpl
    simp only [T.get, Option.map_eq_some_iff] at h
    obtain ⟨cs, hcs, rfl⟩ := h
    obtain ⟨r, hr, hcr⟩ := afill_conc hcs (concs_plain z.cells.toList) hfst hsnd
    refine fin cs ⟨r, ?_, hcr⟩ rfl
    simp only [Program.built, hit, hu, hz, places_ok hpl]
    simpa using hr
  · exact get_no h

theorem zerosOf_conc {E : Env} (z : Array Value) (n : Nat) : concs E (zerosOf z n) = some ((Array.range n).map (z[· % z.size]!)).toList := by
  have := concs_plain (E := E) ((List.range n).map fun i => z[i % z.size]!)
  simpa [zerosOf, List.map_map, Function.comp_def, Array.toList_range] using this
theorem zerosOf_length (z : Array Value) (n : Nat) : (zerosOf z n).length = n := by simp [zerosOf]

theorem run_buildSliceA {P : Program} (w : World) (t e : TypeId) (len : Nat) (parts : Array (Nat × Value)) (cells : Array Value) (ie : TypeInfo) (z : Value)
    (hu : P.underlying t = some (.slice e)) (hie : P.info? e = some ie) (hz : ie.zero = some z) (hsmall : ¬ len * ie.size > 2 ^ 24)
    (h : Instr.fill (fun i => some (i * ie.size, ie.size)) ((Array.range (len * ie.size)).map (z.cells[· % z.cells.size]!)) parts.toList = some cells) :
    (Instr.buildSlice t len parts).run P w = .ok (.slice (some ⟨w.heap.size, 0, none⟩) len len) (w.alloc (.cells cells e)) := by
  by_cases hpos : len * ie.size = 0
  · have hr0 : Array.range 0 = #[] := Array.eq_empty_of_size_eq_zero (by simp)
    rw [hpos, hr0] at h
    have h : Instr.fill (fun i => some (i * ie.size, ie.size)) #[] parts.toList = some cells := by simpa using h
    simp [Instr.buildSlice, run_underlying hu, sizeOf, typeInfo, hie, hpos, hr0, h, newRow]
  · exact run_buildSlice w t e len parts cells ie z hu hie hz hsmall hpos h
theorem buildSlice_ok {C : Cx} {ty : TypeId} {len : Nat} {parts : Array (Nat × Operand)} {o : Oper} {a : Act} {w W0 : World} {S : Reg} {E : Env} {hp : Nat → Option AB} {fr : Nat} {e : Eff} {t : Operand → AV} (G : Gam W0 S E hp w) (ho : o.op = .buildSlice ty len parts) (hv : ∀ p ∈ parts.toList, conc E (t p.2) = some (a.eval p.2))
    (hfr : ∀ n, fr ≤ n → n < fr + e.nn → E n = none) (h : (effBuildSlice C.P ty len (parts.toList.map fun p => (p.1, t p.2)) fr).get = some e) : OpOk C.P o a w W0 S E hp fr e := by
  have hparts : ∀ l : List (Nat × Operand), (∀ p ∈ l, conc E (t p.2) = some (a.eval p.2)) → concs E ((l.map fun p => (p.1, t p.2)).map Prod.snd) = some ((l.map fun p => (p.1, a.eval p.2)).map Prod.snd) := by
    intro l
    induction l with
    | nil => intro _; rfl
    | cons p l ih => intro hl; exact concs_cons.2 ⟨_, _, hl p (by simp), ih (fun q hq => hl q (by simp [hq])), rfl⟩
  have hfst : ((parts.toList.map fun p => (p.1, a.eval p.2)).map Prod.fst) = ((parts.toList.map fun p => (p.1, t p.2)).map Prod.fst) := by simp [List.map_map, Function.comp_def]
  have hsnd := hparts parts.toList hv
  unfold effBuildSlice at h
  split at h
  case h_2 => exact get_no h
  rename_i el hu
  split at h
  case h_2 => exact get_no h
  rename_i ie hie
  split at h
  case h_2 => exact get_no h
  rename_i z hz
  cases hb : (Nat.ble (len * ie.size) (2 ^ 24) && Nat.blt 0 ie.size) with
  | false => rw [hb] at h; exact get_no h
  | true =>
    rw [hb] at h
    simp only [cond_true] at h
    simp only [Bool.and_eq_true] at hb
    have b1 := Nat.le_of_ble_eq_true hb.1
    have b2 : 0 < ie.size := by simpa using hb.2
    split at h
    case h_2 => exact get_no h
    rename_i cs hcs
    cases hl : Nat.beq cs.length (len * ie.size) with
    | false => rw [hl] at h; exact get_no h
    | true =>
      rw [hl] at h
      simp only [cond_true] at h
      obtain rfl := get_one h
      have hl := Nat.eq_of_beq_eq_true hl
      obtain ⟨r, hr, hcr⟩ := afill_conc hcs (zerosOf_conc z.cells (len * ie.size)) hfst hsnd
      have hrl := concs_length hcr
      have hrs : r.size = len * ie.size := by rw [← hl, ← hrl]; simp
      have hrun := run_buildSliceA (P := C.P) w ty el len (parts.map fun (i, x) => (i, a.eval x)) r ie z hu hie hz (by omega) (by simpa using hr)
      obtain ⟨F, R, G⟩ := G
      have hex : (execOp a.eval o).run C.P w = .ok (.value (.slice (some ⟨w.heap.size, 0, none⟩) len len)) (w.alloc (.cells r el)) := by
        simp only [execOp, ho, Sem.run_bind, hrun, Result.andThen_ok, Sem.run_pure]
      refine OpOk.post G hex ?_ (Post.box (L := len) (cap := len) (hfr fr (Nat.le_refl _) (by simp)) rfl rfl rfl b2 hl hcr hrs (Nat.le_refl _) ?_ ?_)
      · simp [conc, Env.set, Pl.addr, Pl.ptr]
      · have h1 : len * 1 ≤ len * ie.size := Nat.mul_le_mul_left _ b2
        simp only [maxLen]; omega
      · rw [← hrs, ← Array.length_toList]
        exact List.take_length

theorem range_mul_mod {α : Type} (f : Nat → α) (s : Nat) (n : Nat) : (List.range ((n + 1) * s)).map (fun i => f (i % s)) = (List.range s).map f ++ (List.range (n * s)).map (fun i => f (i % s)) := by
  rw [show (n + 1) * s = s + n * s by rw [Nat.add_mul, Nat.one_mul]; omega, List.range_add, List.map_append, List.map_map]
  congr 1
  · refine List.map_congr_left fun i hi => ?_
    rw [Nat.mod_eq_of_lt (by simpa using hi)]
  · refine List.map_congr_left fun i hi => ?_
    simp
theorem rowsH_replicate {w : World} {sh : Sh} {d : Den sh} {z : Array Value} (h : hold w false sh d z.toList [] []) : ∀ n, rowsH (hold w false sh) (List.replicate n d) ((List.range (n * z.size)).map (z[· % z.size]!)) [] []
  | 0 => by simp [rowsH]
  | n + 1 => by
    have e1 := range_mul_mod (fun i => z[i]!) z.size n
    refine ⟨z.toList, _, [], [], [], [], ?_, rfl, rfl, h, rowsH_replicate h n⟩
    rw [e1]
    congr 1
    apply List.ext_getElem?
    intro k
    by_cases hk : k < z.size
    · simp [hk]
    · simp [hk]
theorem makeSlice_ok {C : Cx} {ty : TypeId} {l c : Operand} {o : Oper} {a : Act} {w W0 : World} {S : Reg} {E : Env} {hp : Nat → Option AB} {fr : Nat} {e : Eff} {lv cv : AV} (G : Gam W0 S E hp w) (ho : o.op = .makeSlice ty l c) (hl : conc E lv = some (a.eval l)) (hc : conc E cv = some (a.eval c))
    (hfr : ∀ n, fr ≤ n → n < fr + e.nn → E n = none) (h : (effMakeSlice C.P C.ms ty lv cv fr).get = some e) : OpOk C.P o a w W0 S E hp fr e := by
  unfold effMakeSlice at h
  split at h
  case h_2 => exact get_no h
  rename_i el kl L kc cc hu
  split at h
  case h_2 => exact get_no h
  rename_i ie hie
  split at h
  case h_2 => exact get_no h
  rename_i z hz
  simp only [conc, Option.some.injEq] at hl hc
  cases hb : (Nat.blt 0 ie.size && Nat.beq z.cells.size ie.size) with
  | false => rw [hb] at h; exact get_no h
  | true =>
    rw [hb] at h
    simp only [cond_true] at h
    simp only [Bool.and_eq_true] at hb
    have b1 : 0 < ie.size := by simpa using hb.1
    obtain ⟨hd, h⟩ := T.get_when h
    have hd' : 0 ≤ L ∧ L ≤ cc ∧ cc ≤ 1073741824 ∧ (ie.bytes : Int) * cc ≤ 281474976710656 := by simpa using hd
    have hrun := run_makeSlice' (P := C.P) w ty el ie z hu hie hz kl kc L cc hd'.1 hd'.2.1 hd'.2.2.1 hd'.2.2.2 b1
    obtain ⟨F, R, G⟩ := G
    have hfr0 : 0 < e.nn → E fr = none := fun h => hfr fr (Nat.le_refl _) (by omega)
    have hex : (execOp a.eval o).run C.P w = .ok (.value (.slice (some ⟨w.heap.size, 0, none⟩) L.toNat cc.toNat)) (w.alloc (.cells ((Array.range (cc.toNat * ie.size)).map (z.cells[· % z.cells.size]!)) el)) := by
      simp only [execOp, ho, ← hl, ← hc, Sem.run_bind, hrun, Result.andThen_ok, Sem.run_pure]
    have hLc : L.toNat ≤ cc.toNat := by omega
    have htk : (((Array.range (cc.toNat * ie.size)).map (z.cells[· % z.cells.size]!)).toList).take (L.toNat * ie.size) = (List.range (L.toNat * ie.size)).map (z.cells[· % z.cells.size]!) := by
      have hle : L.toNat * ie.size ≤ cc.toNat * ie.size := Nat.mul_le_mul_right _ hLc
      simp only [Array.toList_map, Array.toList_range]
      rw [← List.map_take, List.take_range, Nat.min_eq_left hle]
    split at h
    · rename_i sh hmk
      split at h
      case h_2 => exact get_no h
      rename_i x hx
      obtain rfl := get_one h
      unfold madeRows at hx
      cases hc : (sh.flat && Nat.beq sh.size ie.size && sh.mem) with
      | false => rw [hc] at hx; cases hx
      | true =>
        rw [hc] at hx
        simp only [cond_true] at hx
        simp only [Bool.and_eq_true] at hc
        have hss := Nat.eq_of_beq_eq_true hc.1.2
        split at hx
        case h_2 => cases hx
        rename_i d hdec
        simp only [Option.some.injEq] at hx
        subst hx
        have hzs : z.cells.size = ie.size := Nat.eq_of_beq_eq_true hb.2
        refine OpOk.post G hex ?_ (Post.one (p := { block := w.heap.size, stride := ie.size, cap := cc.toNat }) (F1 := [w.heap.size]) (R1 := []) (hfr0 (by simp)) rfl rfl (fun n x h => by simp [lookO] at h)
          ⟨rfl, rfl, rfl, (show w.heap.size ≤ (w.heap.push _).size by simp), fun k hk _ => Below.heap_alloc _ _ _ hk⟩ ?_ (by simp) (fun k hk => by simp at hk; exact .inr (by omega)) (fun k hk => by simp at hk))
        · simp [conc, Env.set, Pl.addr, Pl.ptr]
        · refine ⟨trivial, (List.range (L.toNat * ie.size)).map (z.cells[· % z.cells.size]!), [], [], ?_, ?_, by simp [blkO], rfl⟩
          · have h0 := decF_ok (w := w.alloc (.cells ((Array.range (cc.toNat * ie.size)).map (z.cells[· % z.cells.size]!)) el)) (lx := false) (E := E) sh _ d _ hdec (concs_plain z.cells.toList)
            show rowsH _ (List.replicate L.toNat d) _ _ _
            rw [show L.toNat * ie.size = L.toNat * z.cells.size by rw [hzs]]
            exact rowsH_replicate h0 L.toNat
          · show rowAt _ el sh.size _ (List.replicate L.toNat d).length _
            rw [List.length_replicate, hss]
            exact rowAt_alloc b1 (by simp) (by simp) hLc (by simp only [maxLen]; omega) htk
    · obtain rfl := get_one h
      refine OpOk.post G hex ?_ (Post.box (L := L.toNat) (cap := cc.toNat) (hfr0 (by simp)) rfl rfl rfl b1 (zerosOf_length _ _) (zerosOf_conc _ _) (by simp) hLc (by simp only [maxLen]; omega) ?_)
      · simp [conc, Env.set, Pl.addr, Pl.ptr]
      · rw [htk]; simp [Array.toList_map, Array.toList_range]
end Go.Proofs.YtpfbpcaehmhefaaDoorB.Sx
