/- The engine, part 5: soundness of the effects, third half: slices, appending, calls; every effect is sound. -/
import Derived.Test.YtemggodhikpmdaaY4
namespace Go.Proofs.Ytemggodhikpmdaa.Sx
open Go.RowKit
set_option linter.unusedSimpArgs false
set_option linter.unusedVariables false

/-! ### Slices of slices -/
def valI : Option Value → Option Int → Prop
  | none, none => True
  | some v, some i => ∃ k, v = .int k i
  | _, _ => False
theorem boundOf_ok {E : Env} {t : Operand → AV} {ρ : Operand → Value} {x : Option Operand} {l : Option Int} (hx : ∀ y, x = some y → conc E (t y) = some (ρ y)) (h : boundOf (x.map t) = some l) : valI (x.map ρ) l := by
  cases x with
  | none => simp only [Option.map_none, boundOf, Option.some.injEq] at h; subst h; trivial
  | some y =>
    have hy := hx y rfl
    simp only [Option.map_some] at h ⊢
    unfold boundOf at h
    split at h
    · rename_i he; cases he
    · rename_i k i he
      simp only [Option.some.injEq] at h he
      subst h
      rw [he] at hy
      simp only [conc, Option.some.injEq] at hy
      exact ⟨k, hy.symm⟩
    · cases h
theorem run_bound {P : Program} {w : World} {k : IntKind} {i : Int} {y : Nat} {code : BoundsCode} (h : 0 ≤ i ∧ i ≤ y) : (Instr.sliceBound (.int k i) y code).run P w = .ok i.toNat w := by
  simp [Instr.sliceBound, asIntOf, h]
theorem run_bounds {P : Program} {w : World} {b : Bool} {len cap : Nat} {lo hi mx : Option Value} {l h m : Option Int} (hl : valI lo l) (hh : valI hi h) (hm : valI mx m) (hmh : m.isSome = true → h.isSome = true)
    (c1 : 0 ≤ l.getD 0) (c2 : l.getD 0 ≤ h.getD len) (c3 : h.getD len ≤ m.getD cap) (c4 : m.getD cap ≤ cap) :
    (Instr.sliceBounds b len cap lo hi mx).run P w = .ok ((l.getD 0).toNat, (h.getD len).toNat, (m.getD cap).toNat) w := by
  have e1 : ∀ (x : Nat), ((x : Int)).toNat = x := fun x => by omega
  cases mx with
  | none =>
    cases m with
    | some _ => exact hm.elim
    | none =>
      simp only [Option.getD_none] at c3 c4 ⊢
      cases hi with
      | none =>
        cases h with
        | some _ => exact hh.elim
        | none =>
          simp only [Option.getD_none] at c2 c3 ⊢
          cases lo with
          | none => cases l with
            | some _ => exact hl.elim
            | none => simp [Instr.sliceBounds]
          | some v => cases l with
            | none => exact hl.elim
            | some i =>
              obtain ⟨k, rfl⟩ := hl
              simp only [Option.getD_some] at c1 c2 ⊢
              simp [Instr.sliceBounds, run_bound (P := P) (w := w) (k := k) ⟨c1, c2⟩]
      | some v =>
        cases h with
        | none => exact hh.elim
        | some j =>
          obtain ⟨k, rfl⟩ := hh
          simp only [Option.getD_some] at c2 c3 ⊢
          have hj := run_bound (P := P) (w := w) (k := k) (i := j) (y := cap) (code := if b then .sliceAcap else .sliceAlen) ⟨by omega, by omega⟩
          cases lo with
          | none => cases l with
            | some _ => exact hl.elim
            | none => simp only [Option.getD_none] at c1 c2 ⊢; simp [Instr.sliceBounds, hj]
          | some v => cases l with
            | none => exact hl.elim
            | some i =>
              obtain ⟨k', rfl⟩ := hl
              simp only [Option.getD_some] at c1 c2 ⊢
              simp [Instr.sliceBounds, hj, run_bound (P := P) (w := w) (k := k') (i := i) (y := j.toNat) ⟨c1, by omega⟩]
  | some vm =>
    cases m with
    | none => exact hm.elim
    | some mm =>
      obtain ⟨km, rfl⟩ := hm
      simp only [Option.getD_some] at c3 c4 ⊢
      have hmm := run_bound (P := P) (w := w) (k := km) (i := mm) (y := cap) (code := if b then .slice3Acap else .slice3Alen) ⟨by omega, by omega⟩
      cases h with
      | none => simp at hmh
      | some j =>
        cases hi with
        | none => exact hh.elim
        | some v =>
          obtain ⟨k, rfl⟩ := hh
          simp only [Option.getD_some] at c2 c3 ⊢
          have hj := run_bound (P := P) (w := w) (k := k) (i := j) (y := mm.toNat) (code := .slice3B) ⟨by omega, by omega⟩
          cases lo with
          | none => cases l with
            | some _ => exact hl.elim
            | none => simp only [Option.getD_none] at c1 c2 ⊢; simp [Instr.sliceBounds, hmm, hj]
          | some v => cases l with
            | none => exact hl.elim
            | some i =>
              obtain ⟨k', rfl⟩ := hl
              simp only [Option.getD_some] at c1 c2 ⊢
              simp [Instr.sliceBounds, hmm, hj, run_bound (P := P) (w := w) (k := k') (i := i) (y := j.toNat) ⟨c1, by omega⟩]

/-- What a cut comes to: 'base' the slice's pointer, 'cap' its capacity. -/
theorem cut_ok {P : Program} {o : Oper} {a : Act} {w : World} {E : Env} {hp : Nat → Option AB} {fr : Nat} {e : Eff} {n r of len : Nat} {c : Option Nat} {y : M} {size : Nat} {l h m : Option Int} {lo hi mx : Option Value} {p : Pl} {b : AB} {cap : Nat} {isS : Bool} {base : Option Addr}
    (hl : valI lo l) (hh : valI hi h) (hm : valI mx m) (hp1 : E n = some p) (hb : b.holds E w p) (hy : b.cont = some y) (hown : c = none → ∃ z, b = .own z)
    (hbase : base = p.ptr r of) (hcap : cap = c.getD (p.cap - r)) (hfr : ∀ k, fr ≤ k → k < fr + e.nn → E k = none)
    (hrun : ∀ L H K : Nat, (Instr.sliceBounds isS len cap lo hi mx).run P w = .ok (L, H, K) w → (execOp a.eval o).run P w = .ok (.value (.slice (if K = L then base else base.map (·.add (L * size))) (H - L) (K - L))) w)
    (he : (effCut n r of len c y size l h m fr).get = some e) : OpOk P o a w E hp fr e := by
  obtain ⟨hstr, _, _⟩ := cont_cells hb hy
  -- with the capacity known
  have known : ∀ k : Nat, (m.getD cap) = (k : Int) → (m.isSome = true → h.isSome = true) → 0 ≤ l.getD 0 → l.getD 0 ≤ h.getD len → h.getD len ≤ (k : Int) → (k : Int) ≤ cap → (effCutK n r of k y size (l.getD 0) (h.getD len)).get = some e → OpOk P o a w E hp fr e := by
    intro k hk hmh c1 c2 c3 c4 he
    have hbd := run_bounds (P := P) (w := w) (b := isS) hl hh hm hmh c1 c2 (by rw [hk]; exact c3) (by rw [hk]; exact c4)
    rw [hk] at hbd
    have hkt : ((k : Int)).toNat = k := by omega
    rw [hkt] at hbd
    have hex := hrun _ _ _ hbd
    generalize hL : l.getD 0 = L at *
    generalize hH : h.getD len = H at *
    have hHL : H.toNat - L.toNat = (H - L).toNat := by omega
    rw [hHL] at hex
    unfold effCutK at he
    cases hkl : decide ((k : Int) = L) with
    | true =>
      rw [hkl] at he
      simp only [T.get] at he
      obtain rfl := get_one he
      have hkl' : k = L.toNat := by have : (k : Int) = L := by simpa using hkl
                                    omega
      rw [if_pos hkl'] at hex
      refine OpOk.value hex ?_ rfl rfl
      simp [conc, hp1, hbase]
    | false =>
      rw [hkl] at he
      simp only [T.get] at he
      obtain rfl := get_one he
      have hkl' : ¬ k = L.toNat := by have : ¬ (k : Int) = L := by simpa using hkl
                                      omega
      rw [if_neg hkl'] at hex
      refine OpOk.value hex ?_ rfl rfl
      have hmove : (p.ptr r of).map (·.add (L.toNat * size)) = p.ptr r (of + L.toNat * size) := by
        unfold Pl.ptr
        split
        · rfl
        · simp [addr_add]
      cases hq : (Nat.beq y.size size && Nat.beq of 0) with
      | true =>
        simp only [Bool.and_eq_true] at hq
        have h1 := Nat.eq_of_beq_eq_true hq.1
        have h2 := Nat.eq_of_beq_eq_true hq.2
        subst h1 h2
        have hrow : p.ptr (r + L.toNat) 0 = p.ptr r (0 + L.toNat * y.size) := by
          unfold Pl.ptr
          rw [addr_rows, hstr, Nat.zero_add]
        simp [conc, hp1, hbase, hmove, hrow]
      | false => simp [conc, hp1, hbase, hmove]
  unfold effCut at he
  split at he
  · rename_i mm k
    cases hs : h.isSome with
    | false => rw [hs] at he; exact get_no he
    | true =>
      rw [hs] at he
      simp only [cond_true] at he
      obtain ⟨hd, he⟩ := T.get_when he
      simp only [decide_eq_true_eq] at hd
      simp only [Option.getD_some] at hcap
      exact known mm.toNat (by simp; omega) (fun _ => hs) hd.1 hd.2.1 (by omega) (by omega) he
  · rename_i mm
    cases hs : h.isSome with
    | false => rw [hs] at he; exact get_no he
    | true =>
      rw [hs] at he
      simp only [cond_true] at he
      obtain ⟨hd, he⟩ := T.get_when he
      simp only [decide_eq_true_eq] at hd
      simp only [Option.getD_none] at hcap
      obtain ⟨z, rfl⟩ := hown rfl
      simp only [AB.cont, Option.some.injEq] at hy
      subst hy
      have hle : z.len ≤ p.cap := by
        obtain ⟨_, _, _, vs, _, _, ho⟩ := hb
        rcases ho with ⟨he', hn⟩ | ⟨g, cp, cur, he', _, _, hc1, _⟩
        · omega
        · simp only [Pl.whole, Value.slice.injEq] at he'
          omega
      exact known mm.toNat (by simp; omega) (fun _ => hs) hd.1 hd.2.1 (by omega) (by omega) he
  · rename_i k
    obtain ⟨hd, he⟩ := T.get_when he
    simp only [decide_eq_true_eq] at hd
    simp only [Option.getD_some] at hcap
    exact known k (by simp [hcap]) (fun h => by simp at h) hd.1 hd.2.1 hd.2.2 (by omega) he
  · cases hq : (Nat.beq y.size size && Nat.beq of 0) with
    | false => rw [hq] at he; exact get_no he
    | true =>
      rw [hq] at he
      simp only [cond_true] at he
      simp only [Bool.and_eq_true] at hq
      have h1 := Nat.eq_of_beq_eq_true hq.1
      have h2 := Nat.eq_of_beq_eq_true hq.2
      subst h1 h2
      obtain ⟨hd, he2⟩ := T.get_when he
      clear he
      simp only [decide_eq_true_eq] at hd
      simp only [Option.getD_none] at hcap
      obtain ⟨z, rfl⟩ := hown rfl
      simp only [AB.cont, Option.some.injEq] at hy
      subst hy
      have hle : z.len ≤ p.cap := by
        obtain ⟨_, _, _, vs, _, _, ho⟩ := hb
        rcases ho with ⟨he', hn⟩ | ⟨g, cp, cur, he', _, _, hc1, _⟩
        · omega
        · simp only [Pl.whole, Value.slice.injEq] at he'
          omega
      have hbd : (Instr.sliceBounds isS len cap lo hi mx).run P w = .ok ((l.getD 0).toNat, (h.getD len).toNat, cap) w :=
        run_bounds (P := P) (w := w) (b := isS) (cap := cap) hl hh hm (fun h => by simp at h) hd.1 hd.2.1 (by simp only [Option.getD_none]; omega) (by simp)
      have hct : ((cap : Int)).toNat = cap := by omega
      have hex := hrun _ _ _ hbd
      cases hll : decide (l.getD 0 = len) with
      | true =>
        rw [hll] at he2
        simp only [T.get] at he2
        obtain rfl := get_one he2
        have hll' : l.getD 0 = len := by simpa using hll
        intro next Q hnext
        unfold Oper.wp
        rw [hex]
        generalize hbb : (if cap = (l.getD 0).toNat then base else base.map (·.add ((l.getD 0).toNat * z.size))) = bb at *
        have hm0 : E fr = none := hfr fr (Nat.le_refl _) (by simp)
        have hzero : (h.getD ↑len).toNat - (l.getD 0).toNat = 0 := by omega
        rw [hzero]
        refine hnext _ w (E.set fr { block := (bb.getD ⟨0, 0, none⟩).block, base := (bb.getD ⟨0, 0, none⟩).off, stride := 0, nil := bb.isNone, cap := cap - (l.getD 0).toNat }) ?_ (Post.one (b := .emp) hm0 rfl rfl (fun n x h => by simp [lookO] at h) ⟨rfl, rfl, rfl, Nat.le_refl _, fun _ _ _ => rfl⟩ (fun _ => rfl) trivial (fun k hk => by simp [AB.foot] at hk))
        have hspot : ∀ A, bb = some A → A.spot = none := by
          intro A hA
          have : base = none ∨ ∃ B, base = some B ∧ B.spot = none := by
            rw [hbase]; unfold Pl.ptr
            split
            · exact .inl rfl
            · exact .inr ⟨_, rfl, rfl⟩
          rcases this with hn | ⟨B, hB, hBs⟩
          · rw [hn] at hbb
            simp only [Option.map_none, ite_self] at hbb
            rw [← hbb] at hA; cases hA
          · rw [hB] at hbb
            rw [← hbb] at hA
            by_cases hcl : cap = (l.getD 0).toNat
            · rw [if_pos hcl] at hA
              cases hA
              exact hBs
            · rw [if_neg hcl] at hA
              cases hA
              unfold Addr.add
              split
              · exact hBs
              · rfl
        simp only [conc, Env.set, if_true, Option.map_some, Option.some.injEq, Option.getD_none, Nat.sub_zero, Pl.ptr, Pl.addr, Nat.zero_mul, Nat.add_zero]
        cases bb with
        | none => rfl
        | some A =>
          have := hspot A rfl
          obtain ⟨ab, ao, as⟩ := A
          simp only at this
          subst this
          rfl
      | false =>
        rw [hll] at he2
        simp only [T.get] at he2
        obtain rfl := get_one he2
        have hll' : ¬ l.getD 0 = len := by simpa using hll
        rw [if_neg (by omega)] at hex
        refine OpOk.value hex ?_ rfl rfl
        have hmove : (p.ptr r 0).map (·.add ((l.getD 0).toNat * z.size)) = p.ptr (r + (l.getD 0).toNat) 0 := by
          unfold Pl.ptr
          split
          · rfl
          · simp only [Option.map_some, Option.some.injEq]
            rw [addr_add, addr_rows, hstr, Nat.zero_add]
        simp only [conc, hp1, Option.map_some, hbase, hmove, Option.getD_none, Option.some.injEq, Value.slice.injEq, true_and]
        omega

theorem slice_ok {C : Cx} {ty : TypeId} {x : Operand} {l h m : Option Operand} {o : Oper} {a : Act} {w : World} {E : Env} {hp : Nat → Option AB} {fr : Nat} {e : Eff} {t : Operand → AV} (ho : o.op = .slice ty x l h m)
    (hx : conc E (t x) = some (a.eval x)) (hl : ∀ y, l = some y → conc E (t y) = some (a.eval y)) (hh : ∀ y, h = some y → conc E (t y) = some (a.eval y)) (hm : ∀ y, m = some y → conc E (t y) = some (a.eval y))
    (G : ∀ n b, hp n = some b → ∃ p, E n = some p ∧ b.holds E w p) (hfr : ∀ k, fr ≤ k → k < fr + e.nn → E k = none)
    (he : (effSlice C.P ty (t x) (l.map t) (h.map t) (m.map t) hp fr).get = some e) : OpOk C.P o a w E hp fr e := by
  unfold effSlice at he
  split at he
  · rename_i el L H K hu h1 h2 h3
    have v1 := boundOf_ok hl h1
    have v2 := boundOf_ok hh h2
    have v3 := boundOf_ok hm h3
    split at he
    case h_2 => exact get_no he
    rename_i n r of len c ie htx hie
    rw [htx] at hx
    have go : ∀ (b : AB) (y : M), hp n = some b → b.cont = some y → (c = none → ∃ z, b = .own z) → (effCut n r of len c y ie.size L H K fr).get = some e → OpOk C.P o a w E hp fr e := by
      intro b y hb hy hown he
      obtain ⟨p, hp1, hbh⟩ := G n b hb
      simp only [conc, hp1, Option.map_some, Option.some.injEq] at hx
      refine cut_ok v1 v2 v3 hp1 hbh hy hown rfl rfl hfr (isS := true) (cap := c.getD (p.cap - r)) (base := p.ptr r of) ?_ he
      intro L' H' K' hbd
      simp only [execOp, ho, ← hx, Instr.sliceAt, Sem.run_bind, run_underlying hu, Result.andThen_ok, Instr.slice, hbd, run_sizeOf hie, Sem.run_pure]
    split at he
    · rename_i y hb
      exact go _ y hb rfl (fun _ => ⟨y, rfl⟩) he
    · rename_i y hb
      split at he
      case h_2 => exact get_no he
      rename_i k
      exact go _ y hb rfl (fun h => by cases h) he
    · exact get_no he
  · rename_i k el L H K hu h1 h2 h3
    have v1 := boundOf_ok hl h1
    have v2 := boundOf_ok hh h2
    have v3 := boundOf_ok hm h3
    split at he
    case h_2 => exact get_no he
    rename_i n r of ie htx hie
    rw [htx] at hx
    split at he
    case h_2 => exact get_no he
    rename_i y hb
    cases hpos : Nat.blt 0 y.len with
    | false => rw [hpos] at he; exact get_no he
    | true =>
      rw [hpos] at he
      simp only [cond_true] at he
      have hpos : 0 < y.len := by simpa using hpos
      obtain ⟨p, hp1, hbh⟩ := G n _ hb
      simp only [conc, hp1, Option.map_some, Option.some.injEq] at hx
      have hnil : p.nil = false := by
        cases hn : p.nil with
        | false => rfl
        | true => have := nil_len hbh rfl hn; omega
      refine cut_ok v1 v2 v3 hp1 hbh rfl (fun h => by cases h) rfl rfl hfr (isS := false) (cap := k) (base := p.ptr r of) ?_ he
      intro L' H' K' hbd
      have hptr : p.ptr r of = some (p.addr r of) := by simp [Pl.ptr, hnil]
      rw [hptr]
      simp only [execOp, ho, ← hx, Instr.sliceAt, Sem.run_bind, run_underlying hu, Result.andThen_ok, Instr.sureAddr, hbd, run_sizeOf hie, Sem.run_pure]
      congr 4
      split <;> rfl
  · exact get_no he

/-! ### Lengths -/
theorem len_ok {C : Cx} {x : Operand} {ty : TypeId} {as : Array Operand} {ts : Array TypeId} {o : Oper} {a : Act} {w : World} {E : Env} {hp : Nat → Option AB} {lo : Nat} {e : Eff} {av : AV} (ho : o.op = .call ⟨.builtin .len, as, ts⟩) (has : as = #[x]) (hts : ts = #[ty])
    (hv : conc E av = some (a.eval x)) (G : ∀ n b, hp n = some b → ∃ p, E n = some p ∧ b.holds E w p) (h : (effLen C.P ty av hp).get = some e) : OpOk C.P o a w E hp lo e := by
  subst has hts
  unfold effLen at h
  split at h
  · rename_i el n r of len c hu
    obtain rfl := get_one h
    simp only [conc, Option.map_eq_some_iff] at hv
    obtain ⟨p, _, hv⟩ := hv
    refine OpOk.value (V := goInt len) ?_ rfl rfl rfl
    simp [execOp, ho, resolve, invoke, builtin, Builtin.len_, ← hv, run_underlying hu]
  · rename_i n el hu
    obtain rfl := get_one h
    refine OpOk.value (V := goInt n) ?_ rfl rfl rfl
    simp [execOp, ho, resolve, invoke, builtin, Builtin.len_, run_underlying hu]
  · rename_i k el n hu
    split at h
    case h_2 => exact get_no h
    rename_i es clk hb
    obtain rfl := get_one h
    obtain ⟨p, hp1, l, hl, hheap⟩ := G n _ hb
    simp only [conc, hp1, Option.map_some, Option.some.injEq] at hv
    have hlen : l.length = es.length := by
      clear hheap hb G h
      induction es generalizing l with
      | nil => simp only [concE, Option.some.injEq] at hl; subst hl; rfl
      | cons z es ih =>
        obtain ⟨k', v', b'⟩ := z
        simp only [concE, Option.bind_eq_some_iff, Option.map_eq_some_iff] at hl
        obtain ⟨_, _, _, _, r, hr, rfl⟩ := hl
        simp [ih r hr]
    refine OpOk.value (V := goInt es.length) ?_ rfl rfl rfl
    have hg : (Go.getObj p.block).run C.P w = .ok (.map l.toArray clk) w := by simp [Go.getObj, Sem.run, hheap]
    simp [execOp, ho, resolve, invoke, builtin, Builtin.len_, ← hv, run_underlying hu, hg, hlen]
  · exact get_no h
theorem cap_ok {C : Cx} {x : Operand} {ty : TypeId} {as : Array Operand} {ts : Array TypeId} {o : Oper} {a : Act} {w : World} {E : Env} {hp : Nat → Option AB} {lo : Nat} {e : Eff} {av : AV} (ho : o.op = .call ⟨.builtin .cap, as, ts⟩) (has : as = #[x]) (hts : ts = #[ty])
    (hv : conc E av = some (a.eval x)) (h : (effCap C.P ty av).get = some e) : OpOk C.P o a w E hp lo e := by
  subst has hts
  unfold effCap at h
  split at h
  case h_2 => exact get_no h
  rename_i el n r of len c hu
  obtain rfl := get_one h
  simp only [conc, Option.map_eq_some_iff, Option.getD_some] at hv
  obtain ⟨p, _, hv⟩ := hv
  refine OpOk.value (V := goInt c) ?_ rfl rfl rfl
  simp [execOp, ho, resolve, invoke, builtin, Builtin.cap_, ← hv, run_underlying hu]
end Go.Proofs.Ytemggodhikpmdaa.Sx
