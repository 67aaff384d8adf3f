/- The engine, part 7: soundness of the effects: slices of slices, lengths. -/
import Derived.Test.YtpfbpcaehmhefaaDoorBZ6
namespace Go.Proofs.YtpfbpcaehmhefaaDoorB.Sx
open Go.RowKit
set_option linter.unusedSimpArgs false
set_option linter.unusedVariables false

/-! ### Slices of slices -/
def valI : Option Value → Option Int → Prop
  | none, none => True
  | some v, some i => ∃ k, v = .int k i
  | _, _ => False
theorem boundOf_ok {E : Env} {t : Operand → AV} {ρ : Operand → Value} {x : Option Operand} {l : Option Int} (hx : ∀ y, x = some y → conc E (t y) = some (ρ y)) (h : boundOf (x.map t) = some l) : valI (x.map ρ) l := by
  cases x with
  | none => simp only [Option.map_none, boundOf, Option.some.injEq] at h; subst h; trivial
  | some y =>
    have hy := hx y rfl
    simp only [Option.map_some] at h ⊢
    unfold boundOf at h
    split at h
    · rename_i he; cases he
    · rename_i k i he
      simp only [Option.some.injEq] at h he
      subst h
      rw [he] at hy
      simp only [conc, Option.some.injEq] at hy
      exact ⟨k, hy.symm⟩
    · cases h
theorem run_bound {P : Program} {w : World} {k : IntKind} {i : Int} {y : Nat} {code : BoundsCode} (h : 0 ≤ i ∧ i ≤ y) : (Instr.sliceBound (.int k i) y code).run P w = .ok i.toNat w := by
  simp [Instr.sliceBound, asIntOf, h]
theorem run_bounds {P : Program} {w : World} {b : Bool} {len cap : Nat} {lo hi mx : Option Value} {l h m : Option Int} (hl : valI lo l) (hh : valI hi h) (hm : valI mx m) (hmh : m.isSome = true → h.isSome = true)
    (c1 : 0 ≤ l.getD 0) (c2 : l.getD 0 ≤ h.getD len) (c3 : h.getD len ≤ m.getD cap) (c4 : m.getD cap ≤ cap) :
    (Instr.sliceBounds b len cap lo hi mx).run P w = .ok ((l.getD 0).toNat, (h.getD len).toNat, (m.getD cap).toNat) w := by
  have e1 : ∀ (x : Nat), ((x : Int)).toNat = x := fun x => by omega
  cases mx with
  | none =>
    cases m with
    | some _ => exact hm.elim
    | none =>
      simp only [Option.getD_none] at c3 c4 ⊢
      cases hi with
      | none =>
        cases h with
        | some _ => exact hh.elim
        | none =>
          simp only [Option.getD_none] at c2 c3 ⊢
          cases lo with
          | none => cases l with
            | some _ => exact hl.elim
            | none => simp [Instr.sliceBounds]
          | some v => cases l with
            | none => exact hl.elim
            | some i =>
              obtain ⟨k, rfl⟩ := hl
              simp only [Option.getD_some] at c1 c2 ⊢
              simp [Instr.sliceBounds, run_bound (P := P) (w := w) (k := k) ⟨c1, c2⟩]
      | some v =>
        cases h with
        | none => exact hh.elim
        | some j =>
          obtain ⟨k, rfl⟩ := hh
          simp only [Option.getD_some] at c2 c3 ⊢
          have hj := run_bound (P := P) (w := w) (k := k) (i := j) (y := cap) (code := if b then .sliceAcap else .sliceAlen) ⟨by omega, by omega⟩
          cases lo with
          | none => cases l with
            | some _ => exact hl.elim
            | none => simp only [Option.getD_none] at c1 c2 ⊢; simp [Instr.sliceBounds, hj]
          | some v => cases l with
            | none => exact hl.elim
            | some i =>
              obtain ⟨k', rfl⟩ := hl
              simp only [Option.getD_some] at c1 c2 ⊢
              simp [Instr.sliceBounds, hj, run_bound (P := P) (w := w) (k := k') (i := i) (y := j.toNat) ⟨c1, by omega⟩]
  | some vm =>
    cases m with
    | none => exact hm.elim
    | some mm =>
      obtain ⟨km, rfl⟩ := hm
      simp only [Option.getD_some] at c3 c4 ⊢
      have hmm := run_bound (P := P) (w := w) (k := km) (i := mm) (y := cap) (code := if b then .slice3Acap else .slice3Alen) ⟨by omega, by omega⟩
      cases h with
      | none => simp at hmh
      | some j =>
        cases hi with
        | none => exact hh.elim
        | some v =>
          obtain ⟨k, rfl⟩ := hh
          simp only [Option.getD_some] at c2 c3 ⊢
          have hj := run_bound (P := P) (w := w) (k := k) (i := j) (y := mm.toNat) (code := .slice3B) ⟨by omega, by omega⟩
          cases lo with
          | none => cases l with
            | some _ => exact hl.elim
            | none => simp only [Option.getD_none] at c1 c2 ⊢; simp [Instr.sliceBounds, hmm, hj]
          | some v => cases l with
            | none => exact hl.elim
            | some i =>
              obtain ⟨k', rfl⟩ := hl
              simp only [Option.getD_some] at c1 c2 ⊢
              simp [Instr.sliceBounds, hmm, hj, run_bound (P := P) (w := w) (k := k') (i := i) (y := j.toNat) ⟨c1, by omega⟩]

/-- Rows of contents. -/
theorem M.sub_ok {E : Env} {w : World} {lx : Bool} {x y : M} {vs : List Value} {F R : List Nat} (h : x.reads E w lx vs F R) {r n : Nat} (hs : (x.sub r n).get = some y) (hvl : vs.length = x.len * x.size) :
    y.e = x.e ∧ y.size = x.size ∧ y.len = n ∧ r + n ≤ x.len ∧ (x.noHol = true → ∀ E' p, y.links E' p) ∧ (y.links = x.links ∨ x.noHol = true) ∧ ∃ F' R', y.reads E w lx ((vs.drop (r * x.size)).take (n * x.size)) F' R' ∧ (∀ k ∈ F', k ∈ F) ∧ (∀ k ∈ R', k ∈ R) ∧ (F.Nodup → F'.Nodup) := by
  cases x with
  | raw e s cs =>
    simp only [M.sub, T.get] at hs
    cases hb : (Nat.ble ((r + n) * s) cs.length && Nat.blt 0 s) with
    | false => rw [hb] at hs; cases hs
    | true =>
      rw [hb] at hs
      simp only [cond_true, Option.some.injEq] at hs
      subst hs
      simp only [Bool.and_eq_true] at hb
      have h1 := Nat.le_of_ble_eq_true hb.1
      have h3 : 0 < s := by simpa using hb.2
      obtain ⟨hc, rfl, rfl⟩ := h
      refine ⟨rfl, rfl, ?_, ?_, fun _ _ _ => trivial, .inr rfl, [], [], ⟨concs_take _ (concs_drop _ hc), rfl, rfl⟩, fun k hk => hk, fun k hk => hk, id⟩
      · simp only [M.len, List.length_take, List.length_drop]
        rw [Nat.add_mul] at h1
        rw [Nat.min_eq_left (by omega), Nat.mul_div_cancel _ h3]
      · simp only [M.len]
        exact (Nat.le_div_iff_mul_le h3).2 h1
  | rows e sh l =>
    simp only [M.sub] at hs
    obtain ⟨h1, h2⟩ := T.get_when hs
    simp only [T.get, Option.some.injEq] at h2
    subst h2
    have hr : r + n ≤ l.length := by simpa using h1
    obtain ⟨F', R', g⟩ := rowsH_sub (s := sh.size) (fun d ys F R h => hold_length lx sh d ys F R h) h hr
    exact ⟨rfl, rfl, subL_length hr, hr, fun _ _ _ => trivial, .inr rfl, F', R', g⟩
  | hol e sh l i q cs =>
    simp only [M.sub] at hs
    obtain ⟨h1, h2⟩ := T.get_when hs
    simp only [T.get, Option.some.injEq] at h2
    subst h2
    have h1 : r = 0 ∧ n = l.length := by simpa using h1
    obtain ⟨rfl, rfl⟩ := h1
    refine ⟨rfl, rfl, rfl, by simp [M.len], fun h => by simp [M.noHol] at h, .inl rfl, F, R, ?_, fun k hk => hk, fun k hk => hk, id⟩
    rw [Nat.zero_mul, List.drop_zero, List.take_of_length_le (by rw [hvl]; exact Nat.le_refl _)]
    exact h

/-- Where a cut of none lies. -/
def placeOf (bb : Option Addr) (stride cap : Nat) : Pl :=
  match bb with
  | none => { block := 0, stride := stride, nil := true, cap := cap }
  | some A => { block := A.block, base := A.off, stride := stride, nil := A.spot.isSome, cap := cap, odd := some A }
theorem placeOf_ptr (bb : Option Addr) (s c : Nat) : (placeOf bb s c).ptr 0 0 = bb := by
  cases bb with
  | none => rfl
  | some A =>
    obtain ⟨b, o, sp⟩ := A
    cases sp <;> simp [placeOf, Pl.ptr, Pl.addr]
theorem placeOf_stride (bb : Option Addr) (s c : Nat) : (placeOf bb s c).stride = s := by cases bb <;> rfl
theorem placeOf_cap (bb : Option Addr) (s c : Nat) : (placeOf bb s c).cap = c := by cases bb <;> rfl
/-- What a cut comes to: 'base' the slice's pointer, 'cap' its capacity. -/
theorem cut_ok {P : Program} {o : Oper} {a : Act} {w W0 : World} {S : Reg} {E : Env} {hp : Nat → Option AB} {fr : Nat} {e : Eff} {n r of len : Nat} {c : Option Nat} {y : M} {size : Nat} {l h m : Option Int} {lo hi mx : Option Value} {p : Pl} {b : AB} {cap : Nat} {isS own : Bool} {base : Option Addr}
    (hl : valI lo l) (hh : valI hi h) (hm : valI mx m) (Gm : Gam W0 S E hp w) (hb : hp n = some b) (hp1 : E n = some p) (hby : b = box own y)
    (hbase : base = p.ptr r of) (hcap : cap = c.getD (p.cap - r)) (hfr : ∀ k, fr ≤ k → k < fr + e.nn → E k = none)
    (hrun : ∀ L H K : Nat, (Instr.sliceBounds isS len cap lo hi mx).run P w = .ok (L, H, K) w → (execOp a.eval o).run P w = .ok (.value (.slice (if K = L then base else base.map (·.add (L * size))) (H - L) (K - L))) w)
    (he : (effCut n r of len c own y size l h m fr).get = some e) : OpOk P o a w W0 S E hp fr e := by
  have hy : b.cont = some y := by subst hby; cases own <;> rfl
  obtain ⟨F, R, G⟩ := id Gm
  obtain ⟨p', hp', hbh⟩ := G.holds n b hb
  rw [hp1] at hp'
  cases hp'
  obtain ⟨own', lx, vs, F0, R0, hreads, hbox⟩ := cont_box hbh hy
  obtain ⟨hstr, hpos, hvl, hnil0, hcells⟩ := boxH_cells hbox
  -- with the capacity known
  have hodd : own = true → p.nil = true → p.odd = none := by
    intro ho hn
    subst hby ho
    obtain ⟨_, vs', F1, R1, _, ⟨_, _, _, h4⟩, _⟩ := hbh
    rcases h4 with ⟨_, _, _, h5⟩ | ⟨h5, _⟩
    · exact h5
    · rw [hn] at h5; cases h5
  have known : ∀ k : Nat, own = true → (m.getD cap) = (k : Int) → (m.isSome = true → h.isSome = true) → 0 ≤ l.getD 0 → l.getD 0 ≤ h.getD len → h.getD len ≤ (k : Int) → (k : Int) ≤ cap → (effCutK n r of k y size (l.getD 0) (h.getD len)).get = some e → OpOk P o a w W0 S E hp fr e := by
    intro k how hk hmh c1 c2 c3 c4 he
    have hbd := run_bounds (P := P) (w := w) (b := isS) hl hh hm hmh c1 c2 (by rw [hk]; exact c3) (by rw [hk]; exact c4)
    rw [hk] at hbd
    have hkt : ((k : Int)).toNat = k := by omega
    rw [hkt] at hbd
    have hex := hrun _ _ _ hbd
    generalize hL : l.getD 0 = L at *
    generalize hH : h.getD len = H at *
    have hHL : H.toNat - L.toNat = (H - L).toNat := by omega
    rw [hHL] at hex
    unfold effCutK at he
    cases hkl : decide ((k : Int) = L) with
    | true =>
      rw [hkl] at he
      simp only [T.get] at he
      obtain rfl := get_one he
      have hkl' : k = L.toNat := by have : (k : Int) = L := by simpa using hkl
                                    omega
      rw [if_pos hkl'] at hex
      refine OpOk.value Gm hex ?_ rfl rfl
      simp [conc, hp1, hbase]
    | false =>
      rw [hkl] at he
      simp only [T.get] at he
      obtain rfl := get_one he
      have hkl' : ¬ k = L.toNat := by have : ¬ (k : Int) = L := by simpa using hkl
                                      omega
      rw [if_neg hkl'] at hex
      refine OpOk.value Gm hex ?_ rfl rfl
      have hmove : (p.ptr r of).map (·.add (L.toNat * size)) = p.ptr r (of + L.toNat * size) := by
        unfold Pl.ptr
        split
        · rename_i hn; rw [hodd how hn]; rfl
        · simp [addr_add]
      cases hq : (Nat.beq y.size size && Nat.beq of 0) with
      | true =>
        simp only [Bool.and_eq_true] at hq
        have h1 := Nat.eq_of_beq_eq_true hq.1
        have h2 := Nat.eq_of_beq_eq_true hq.2
        subst h1 h2
        have hrow : p.ptr (r + L.toNat) 0 = p.ptr r (0 + L.toNat * y.size) := by
          unfold Pl.ptr
          rw [addr_rows, hstr, Nat.zero_add]
        simp [conc, hp1, hbase, hmove, hrow]
      | false => simp [conc, hp1, hbase, hmove]
  have ownle : own = true → y.len ≤ p.cap := by
    intro ho
    subst hby ho
    obtain ⟨_, vs', F1, R1, _, ⟨_, _, _, h4⟩, _⟩ := hbh
    rcases h4 with ⟨_, hn, _⟩ | ⟨_, cur, _, hc1, _⟩
    · rw [hn]; exact Nat.zero_le _
    · exact hc1
  unfold effCut at he
  split at he
  · rename_i mm k
    cases hs : (h.isSome && own) with
    | false => rw [hs] at he; exact get_no he
    | true =>
      rw [hs] at he
      simp only [cond_true] at he
      simp only [Bool.and_eq_true] at hs
      obtain ⟨hd, he⟩ := T.get_when he
      simp only [decide_eq_true_eq] at hd
      simp only [Option.getD_some] at hcap
      exact known mm.toNat hs.2 (by simp; omega) (fun _ => hs.1) hd.1 hd.2.1 (by omega) (by omega) he
  · rename_i mm
    cases hs : (h.isSome && own) with
    | false => rw [hs] at he; exact get_no he
    | true =>
      rw [hs] at he
      simp only [cond_true] at he
      simp only [Bool.and_eq_true] at hs
      obtain ⟨hd, he⟩ := T.get_when he
      simp only [decide_eq_true_eq] at hd
      simp only [Option.getD_none] at hcap
      have hle := ownle hs.2
      exact known mm.toNat hs.2 (by simp; omega) (fun _ => hs.1) hd.1 hd.2.1 (by omega) (by omega) he
  · rename_i k
    cases ho : own with
    | false => rw [ho] at he; exact get_no he
    | true =>
    rw [ho] at he
    simp only [cond_true] at he
    obtain ⟨hd, he⟩ := T.get_when he
    simp only [decide_eq_true_eq] at hd
    simp only [Option.getD_some] at hcap
    exact known k ho (by simp [hcap]) (fun h => by simp at h) hd.1 hd.2.1 hd.2.2 (by omega) he
  · cases hq : (Nat.beq y.size size && Nat.beq of 0) with
    | false => rw [hq] at he; exact get_no he
    | true =>
      rw [hq] at he
      simp only [cond_true] at he
      simp only [Bool.and_eq_true] at hq
      have h1 := Nat.eq_of_beq_eq_true hq.1
      have h2 := Nat.eq_of_beq_eq_true hq.2
      subst h1 h2
      simp only [Option.getD_none] at hcap
      have hcapge : r + len ≤ y.len → len ≤ cap := by
        intro hle
        cases ho : own with
        | true => have := ownle ho; omega
        | false =>
          subst hby ho
          obtain ⟨_, vs', F1, R1, _, _, _, _, h4, _⟩ := hbh
          have := h4.2
          omega
      have bd : 0 ≤ l.getD 0 → l.getD 0 ≤ h.getD len → h.getD len ≤ (len : Int) → r + len ≤ y.len → (execOp a.eval o).run P w = .ok (.value (.slice (if cap = (l.getD 0).toNat then base else base.map (·.add ((l.getD 0).toNat * y.size))) ((h.getD len).toNat - (l.getD 0).toNat) (cap - (l.getD 0).toNat))) w := by
        intro d1 d2 d3 d4
        have hbd : (Instr.sliceBounds isS len cap lo hi mx).run P w = .ok ((l.getD 0).toNat, (h.getD len).toNat, cap) w :=
          run_bounds (P := P) (w := w) (b := isS) (cap := cap) hl hh hm (fun h => by simp at h) d1 d2 (by simp only [Option.getD_none]; have := hcapge d4; omega) (by simp)
        exact hrun _ _ _ hbd
      have hnil1 : 0 < y.len → p.nil = false := by
        intro hpos'
        cases hn : p.nil with
        | false => rfl
        | true => have := hnil0 hn; omega
      have hmove : ∀ L : Nat, p.nil = false → (p.ptr r 0).map (·.add (L * y.size)) = p.ptr (r + L) 0 := by
        intro L hn0
        unfold Pl.ptr
        split
        · rename_i hn; rw [hn0] at hn; cases hn
        · simp only [Option.map_some, Option.some.injEq]
          rw [addr_add, addr_rows, hstr, Nat.zero_add]
      split at he
      · obtain ⟨hd, he⟩ := T.get_when he
        obtain rfl := get_one he
        simp only [decide_eq_true_eq] at hd
        have hex := bd (by simp) (by simpa using hd.1) hd.2.1 hd.2.2
        simp only [Option.getD_none, Int.toNat_zero, Nat.sub_zero, Nat.zero_mul] at hex
        refine OpOk.value Gm hex ?_ rfl rfl
        have : (if cap = 0 then base else base.map (·.add 0)) = base := by
          split
          · rfl
          · cases base with
            | none => rfl
            | some A => simp [Addr.add]
        rw [this, hbase, hcap]
        simp [conc, hp1]
      · rename_i L
        obtain ⟨hd, he2⟩ := T.get_when he
        clear he
        simp only [decide_eq_true_eq] at hd
        have hex := bd (by simpa using hd.1) (by simpa using hd.2.1) hd.2.2.1 hd.2.2.2
        simp only [Option.getD_some] at hex
        -- a new name for the cut
        have anew : ∀ {bb : Option Addr} {b' : AB} {q : Pl} {F1 R1 : List Nat}, (execOp a.eval o).run P w = .ok (.value (.slice (q.ptr 0 0) (h.getD len - L).toNat q.cap)) w → e = { val := .sl fr 0 0 (h.getD len - L).toNat none, reads := [n], news := [(fr, some b')], nn := 1 } →
            b'.holds (E.set fr q) w q F1 R1 → F1 = [] → (∀ k ∈ R1, k ∈ R n) → OpOk P o a w W0 S E hp fr e := by
          rintro bb b' q F1 R1 hex rfl hb' rfl hR1
          exact OpOk.post G hex (by simp [conc, Env.set]) (Post.one (hfr fr (Nat.le_refl _) (by simp)) rfl rfl (fun n x h => by simp [lookO] at h) ⟨rfl, rfl, rfl, Nat.le_refl _, fun _ _ _ => rfl⟩ hb' List.nodup_nil (fun k hk => by simp at hk) (fun k hk => ⟨n, _, hb, hR1 k hk⟩))
        have hHL : (h.getD ↑len).toNat - L.toNat = (h.getD ↑len - L).toNat := by omega
        rw [hHL] at hex
        cases own with
        | true =>
          simp only [cond_true, T.get_ite] at he2
          split at he2
          · rename_i hll
            have hll' : L = len := by simpa using hll
            obtain rfl := get_one he2
            have hzero : (h.getD ↑len - L).toNat = 0 := by omega
            rw [hzero] at hex
            refine OpOk.value Gm hex ?_ rfl rfl
            have hcc := hcapge hd.2.2.2
            have hole := ownle rfl
            have hLn : L.toNat = len := by omega
            simp only [conc, hp1, Option.map_some, Option.some.injEq, Value.slice.injEq, true_and]
            rw [hLn, hcap, hbase]
            refine ⟨?_, by omega⟩
            by_cases hcl : p.cap = r + len
            · rw [if_pos hcl, if_pos (by omega)]
            · rw [if_neg hcl, if_neg (by omega)]
              cases hn : p.nil with
              | false => exact (hmove len hn).symm
              | true =>
                have hy0 := hnil0 hn
                have : len = 0 := by omega
                subst this
                rw [Nat.zero_mul, Nat.add_zero]
                cases p.ptr r 0 <;> simp [Addr.add]
          · rename_i hll
            have hll' : ¬ L = len := by simpa using hll
            obtain rfl := get_one he2
            have := hcapge hd.2.2.2
            rw [if_neg (by omega), hbase, hmove _ (hnil1 (by omega))] at hex
            refine OpOk.value Gm hex ?_ rfl rfl
            simp only [conc, hp1, Option.map_some, Option.getD_none, Option.some.injEq, Value.slice.injEq, true_and]
            omega
        | false =>
          simp only [cond_false] at he2
          cases hnh : y.noHol with
          | false => rw [hnh] at he2; exact get_no he2
          | true =>
          rw [hnh] at he2
          simp only [Bool.not_true, cond_false] at he2
          obtain ⟨z, hz, he2⟩ := T.get_bindO he2
          obtain rfl := get_one he2
          obtain ⟨s1, s2, s3, s4, s5, s6, F', R', s7, s8, s9, s10⟩ := M.sub_ok hreads hz hvl
          subst hby
          obtain ⟨_, vs', F1, R1, hr', hbox'⟩ := hbh
          have hlxf : own' = false ∨ True := .inr trivial
          obtain ⟨d1, d2, d3, d4, d5, d6, d7, d8⟩ := hbox'
          obtain ⟨t1, t2, t3, t4, t5, t6, F2, R2, t7, t8, t9, t10⟩ := M.sub_ok hr' hz d3
          have hF2 : F2 = [] := List.eq_nil_iff_forall_not_mem.2 (fun k hk => by have := t8 k hk; rw [d6] at this; simp at this)
          subst hF2
          by_cases hempty : (h.getD ↑len - L).toNat = 0
          · -- nothing is in it
            generalize hbb : (if cap = L.toNat then base else base.map (·.add (L.toNat * y.size))) = bb at *
            have hstq := placeOf_stride bb y.size (cap - L.toNat)
            have hplace : (cap - L.toNat) = (placeOf bb y.size (cap - L.toNat)).cap ∧ bb = (placeOf bb y.size (cap - L.toNat)).ptr 0 0 := ⟨(placeOf_cap _ _ _).symm, (placeOf_ptr _ _ _).symm⟩
            generalize placeOf bb y.size (cap - L.toNat) = q at hplace hstq
            rw [hplace.1, hplace.2] at hex
            have hxs : (vs'.drop ((r + L.toNat) * y.size)).take ((h.getD ↑len - L).toNat * y.size) = [] := by rw [hempty]; simp
            rw [hxs] at t7
            refine anew (bb := bb) hex rfl (F1 := []) (R1 := R2) ⟨?_, [], [], R2, M.reads_kept (Env.le_set (hfr fr (Nat.le_refl _) (by simp)) _) t7 (fun _ _ => rfl) (fun _ _ => rfl), ?_⟩ rfl (fun k hk => by rw [d8]; simp [t9 k hk])
            · exact t5 hnh _ _
            · rw [t3, t2, hempty]
              exact ⟨hstq, d2, by simp, ⟨fun _ => rfl, Nat.zero_le _⟩, fun j V hV => by simp at hV, rfl, rfl, by simp [blkR]⟩
          · have hcc := hcapge hd.2.2.2
            rw [if_neg (by omega), hbase, hmove _ (hnil1 (by omega))] at hex
            have hqq : p.ptr (r + L.toNat) 0 = ({ p with base := p.base + (r + L.toNat) * p.stride, cap := cap - L.toNat } : Pl).ptr 0 0 := by simp [Pl.ptr, Pl.addr]
            rw [hqq] at hex
            refine anew (bb := none) hex rfl (F1 := []) (R1 := blkR p ((vs'.drop ((r + L.toNat) * y.size)).take ((h.getD ↑len - L).toNat * y.size)) ++ R2) ⟨?_, _, [], R2, M.reads_kept (Env.le_set (hfr fr (Nat.le_refl _) (by simp)) _) t7 (fun _ _ => rfl) (fun _ _ => rfl), ?_⟩ rfl (fun k hk => ?_)
            · exact t5 hnh _ _
            · rw [t3, t2]
              refine ⟨d1, d2, ?_, ⟨?_, ?_⟩, ?_, rfl, rfl, ?_⟩
              · rw [List.length_take, List.length_drop, d3]
                have : (r + L.toNat + (h.getD ↑len - L).toNat) * y.size ≤ y.len * y.size := Nat.mul_le_mul_right _ t4
                rw [Nat.add_mul] at this
                omega
              · intro hn
                have := d4.1 hn
                omega
              · show (h.getD ↑len - L).toNat ≤ cap - L.toNat
                omega
              · intro j V hV
                rw [List.getElem?_take] at hV
                split at hV
                · rw [List.getElem?_drop] at hV
                  have := d5 _ _ hV
                  simp only [Pl.addr, Nat.zero_mul, Nat.add_zero] at this ⊢
                  rw [d1, Nat.add_assoc]
                  exact this
                · cases hV
              · rfl
            · rw [d8]
              rcases List.mem_append.1 hk with hk | hk
              · refine List.mem_append_left _ ?_
                cases vs' with
                | nil => simp [blkR] at hk
                | cons x xs =>
                  generalize ((x :: xs).drop ((r + L.toNat) * y.size)).take ((h.getD ↑len - L).toNat * y.size) = zs at hk
                  cases zs with
                  | nil => simp [blkR] at hk
                  | cons _ _ => simpa [blkR] using hk
              · exact List.mem_append_right _ (t9 k hk)

theorem slice_ok {C : Cx} {ty : TypeId} {x : Operand} {l h m : Option Operand} {o : Oper} {a : Act} {w W0 : World} {S : Reg} {E : Env} {hp : Nat → Option AB} {fr : Nat} {e : Eff} {t : Operand → AV} (ho : o.op = .slice ty x l h m)
    (hx : conc E (t x) = some (a.eval x)) (hl : ∀ y, l = some y → conc E (t y) = some (a.eval y)) (hh : ∀ y, h = some y → conc E (t y) = some (a.eval y)) (hm : ∀ y, m = some y → conc E (t y) = some (a.eval y))
    (G : Gam W0 S E hp w) (hfr : ∀ k, fr ≤ k → k < fr + e.nn → E k = none)
    (he : (effSlice C.P ty (t x) (l.map t) (h.map t) (m.map t) hp fr).get = some e) : OpOk C.P o a w W0 S E hp fr e := by
  unfold effSlice at he
  split at he
  · rename_i el L H K hu h1 h2 h3
    have v1 := boundOf_ok hl h1
    have v2 := boundOf_ok hh h2
    have v3 := boundOf_ok hm h3
    split at he
    · rename_i n r of len c ie htx hie
      rw [htx] at hx
      have go : ∀ (own : Bool) (y : M), hp n = some (box own y) → (effCut n r of len c own y ie.size L H K fr).get = some e → OpOk C.P o a w W0 S E hp fr e := by
        intro own y hb he
        obtain ⟨F, R, Gx⟩ := id G
        obtain ⟨p, hp1, hbh⟩ := Gx.holds n _ hb
        simp only [conc, hp1, Option.map_some, Option.some.injEq] at hx
        refine cut_ok v1 v2 v3 G hb hp1 rfl rfl rfl hfr (isS := true) (cap := c.getD (p.cap - r)) (base := p.ptr r of) ?_ he
        intro L' H' K' hbd
        simp only [execOp, ho, ← hx, Instr.sliceAt, Sem.run_bind, run_underlying hu, Result.andThen_ok, Instr.slice, hbd, run_sizeOf hie, Sem.run_pure]
      split at he
      · rename_i y hb
        exact go true y hb he
      · rename_i y hb
        exact go false y hb he
      · exact get_no he
    · rename_i ie htx hie
      rw [htx] at hx
      obtain ⟨hd, he⟩ := T.get_when he
      obtain rfl := get_one he
      simp only [conc, Option.some.injEq] at hx
      simp only [Bool.and_eq_true] at hd
      obtain ⟨⟨⟨d1, d2⟩, d3⟩, d4⟩ := hd
      have z : ∀ {i : Option Int}, nilB i = true → i.getD 0 = 0 := by
        intro i hi
        cases i with
        | none => rfl
        | some j => simpa [nilB] using hi
      have hK : K.getD (0 : Nat) = 0 := by simpa using z d3
      have hH : H.getD (0 : Nat) = 0 := by simpa using z d2
      have hbd := run_bounds (P := C.P) (w := w) (b := true) (len := 0) (cap := 0) v1 v2 v3 (fun h => by
        rw [Bool.or_eq_true] at d4
        rcases d4 with h5 | h5
        · cases K with
          | none => simp at h
          | some _ => simp at h5
        · exact h5) (by rw [z d1]; exact Int.le_refl _) (by rw [z d1, hH]; exact Int.le_refl _) (by rw [hH, hK]; exact Int.le_refl _) (by rw [hK]; exact Int.le_refl _)
      rw [z d1, hH, hK] at hbd
      refine OpOk.value G (V := .slice none 0 0) ?_ rfl rfl rfl
      have hbd' : (Instr.sliceBounds true 0 0 (l.map a.eval) (h.map a.eval) (m.map a.eval)).run C.P w = .ok (0, 0, 0) w := hbd
      simp only [execOp, ho, ← hx, Instr.sliceAt, Sem.run_bind, run_underlying hu, Result.andThen_ok, Instr.slice, hbd', run_sizeOf hie, Sem.run_pure]
      rfl
    · exact get_no he
  · rename_i k el L H K hu h1 h2 h3
    have v1 := boundOf_ok hl h1
    have v2 := boundOf_ok hh h2
    have v3 := boundOf_ok hm h3
    split at he
    case h_3 => exact get_no he
    case h_2 =>
      rename_i A ie htx hie
      rw [htx] at hx
      simp only [conc, Option.some.injEq] at hx
      obtain ⟨hd, he⟩ := T.get_when he
      obtain rfl := get_one he
      simp only [Bool.and_eq_true] at hd
      obtain ⟨⟨⟨d1, d2⟩, d3⟩, d4⟩ := hd
      have hL : L.getD 0 = 0 := by
        cases L with
        | none => rfl
        | some j => simpa [nilB] using d1
      have hH : H = none := by cases H with | none => rfl | some _ => simp at d2
      have hK : K = none := by cases K with | none => rfl | some _ => simp at d3
      subst hH hK
      have hbd := run_bounds (P := C.P) (w := w) (b := false) (len := k) (cap := k) v1 v2 v3 (fun h => by simp at h) (by rw [hL]; exact Int.le_refl _) (by rw [hL]; simp) (by simp) (by simp)
      rw [hL] at hbd
      refine OpOk.value G (V := .slice (some A) k k) ?_ rfl rfl rfl
      have hbd' : (Instr.sliceBounds false k k (l.map a.eval) (h.map a.eval) (m.map a.eval)).run C.P w = .ok (0, k, k) w := by simpa using hbd
      have hk : k ≠ 0 := by have : 0 < k := by simpa using d4
                            omega
      simp [execOp, ho, ← hx, Instr.sliceAt, Sem.run_bind, run_underlying hu, Result.andThen_ok, Instr.sureAddr, hbd', run_sizeOf hie, Sem.run_pure, hk, Addr.add]
    rename_i n r of ie htx hie
    rw [htx] at hx
    split at he
    · rename_i y hb
      cases hpos : Nat.blt 0 y.len with
      | false => rw [hpos] at he; exact get_no he
      | true =>
        rw [hpos] at he
        simp only [cond_true] at he
        have hpos : 0 < y.len := by simpa using hpos
        obtain ⟨F, R, Gx⟩ := id G
        obtain ⟨p, hp1, hbh⟩ := Gx.holds n _ hb
        simp only [conc, hp1, Option.map_some, Option.some.injEq] at hx
        have hnil : p.nil = false := by
          cases hn : p.nil with
          | false => rfl
          | true =>
            obtain ⟨_, vs, F0, R0, _, hbox⟩ := hbh
            have := (boxH_cells hbox).2.2.2.1 hn
            omega
        refine cut_ok v1 v2 v3 G hb hp1 (own := true) rfl rfl rfl hfr (isS := false) (cap := k) (base := p.ptr r of) ?_ he
        intro L' H' K' hbd
        have hptr : p.ptr r of = some (p.addr r of) := by simp [Pl.ptr, hnil]
        rw [hptr]
        simp only [execOp, ho, ← hx, Instr.sliceAt, Sem.run_bind, run_underlying hu, Result.andThen_ok, Instr.sureAddr, hbd, run_sizeOf hie, Sem.run_pure]
        congr 4
        split <;> rfl
    · split at he <;> exact get_no he
    · exact get_no he
  · exact get_no he

/-! ### Lengths -/
theorem len_ok {C : Cx} {x : Operand} {ty : TypeId} {as : Array Operand} {ts : Array TypeId} {o : Oper} {a : Act} {w W0 : World} {S : Reg} {E : Env} {hp : Nat → Option AB} {lo : Nat} {e : Eff} {av : AV} (ho : o.op = .call ⟨.builtin .len, as, ts⟩) (has : as = #[x]) (hts : ts = #[ty])
    (hv : conc E av = some (a.eval x)) (Gm : Gam W0 S E hp w) (h : (effLen C.P ty av hp).get = some e) : OpOk C.P o a w W0 S E hp lo e := by
  subst has hts
  unfold effLen at h
  split at h
  · rename_i el n r of len c hu
    obtain rfl := get_one h
    simp only [conc, Option.map_eq_some_iff] at hv
    obtain ⟨p, _, hv⟩ := hv
    refine OpOk.value Gm (V := goInt len) ?_ rfl rfl rfl
    simp [execOp, ho, resolve, invoke, builtin, Builtin.len_, ← hv, run_underlying hu]
  · rename_i el n r0 r hu
    obtain rfl := get_one h
    simp only [conc, Option.map_eq_some_iff] at hv
    obtain ⟨p, _, hv⟩ := hv
    refine OpOk.value Gm (V := goInt 0) ?_ rfl rfl rfl
    simp [execOp, ho, resolve, invoke, builtin, Builtin.len_, ← hv, run_underlying hu]
  · rename_i n el hu
    obtain rfl := get_one h
    refine OpOk.value Gm (V := goInt n) ?_ rfl rfl rfl
    simp [execOp, ho, resolve, invoke, builtin, Builtin.len_, run_underlying hu]
  · rename_i k el n hu
    have objs : ∀ {es : Array MapEntry} {clk : Nat} {p : Pl} {k : Nat}, E n = some p → w.heap[p.block]? = some (.map es clk) → es.toList.length = k → OpOk C.P o a w W0 S E hp lo { val := .v (goInt k), reads := [n] } := by
      intro es clk p k hp1 hh hlen
      simp only [conc, hp1, Option.map_some, Option.some.injEq] at hv
      refine OpOk.value Gm (V := goInt k) ?_ rfl rfl rfl
      have hg : (Go.getObj p.block).run C.P w = .ok (.map es clk) w := by simp [Go.getObj, Sem.run, hh]
      rw [Array.length_toList] at hlen
      simp [execOp, ho, resolve, invoke, builtin, Builtin.len_, ← hv, run_underlying hu, hg, hlen]
    have entl : ∀ {κ α : Type} {K : κ → Value → Prop} {Pp : α → List Value → List Nat → List Nat → Prop} {l : List (κ × α)} {es : List MapEntry} {F R : List Nat}, entH K Pp l es F R → es.length = l.length := by
      intro κ α K Pp l
      induction l with
      | nil => intro es F R h; obtain ⟨rfl, _, _⟩ := h; rfl
      | cons y l ih =>
        intro es F R h
        obtain ⟨e, es', F1, F2, R1, R2, rfl, rfl, rfl, h0, h1, h2⟩ := h
        simp [ih h2]
    split at h
    case h_4 => exact get_no h
    case h_2 =>
      rename_i own key row l hb
      obtain rfl := get_one h
      obtain ⟨F, R, G⟩ := id Gm
      obtain ⟨p, hp1, b, es, clk, F0, R0, e1, h1, h2, h3⟩ := G.holds n _ hb
      simp only [objV, Value.map.injEq, Option.some.injEq] at e1
      subst e1
      exact objs hp1 h1 (entl h2)
    case h_3 =>
      rename_i own key row l i v hb
      obtain rfl := get_one h
      obtain ⟨F, R, G⟩ := id Gm
      obtain ⟨p, hp1, clk, es1, e, es2, F1, R1, F2, R2, x, h1, h2, h3, h4, h5, h6, h7⟩ := G.holds n _ hb
      refine objs hp1 h1 ?_
      have hlt := (List.getElem?_eq_some_iff.1 h2).1
      simp only [List.length_append, List.length_cons, entl h5, entl h6, List.length_take, List.length_drop]
      omega
    rename_i es clk hb
    obtain rfl := get_one h
    obtain ⟨F, R, G⟩ := id Gm
    obtain ⟨p, hp1, _, _, l, hl, hheap⟩ := G.holds n _ hb
    simp only [conc, hp1, Option.map_some, Option.some.injEq] at hv
    have hlen : l.length = es.length := by
      clear hheap hb G h Gm
      induction es generalizing l with
      | nil => simp only [concE, Option.some.injEq] at hl; subst hl; rfl
      | cons z es ih =>
        obtain ⟨k', v', b'⟩ := z
        simp only [concE, Option.bind_eq_some_iff, Option.map_eq_some_iff] at hl
        obtain ⟨_, _, _, _, r, hr, rfl⟩ := hl
        simp [ih r hr]
    refine OpOk.value Gm (V := goInt es.length) ?_ rfl rfl rfl
    have hg : (Go.getObj p.block).run C.P w = .ok (.map l.toArray clk) w := by simp [Go.getObj, Sem.run, hheap]
    simp [execOp, ho, resolve, invoke, builtin, Builtin.len_, ← hv, run_underlying hu, hg, hlen]
  · exact get_no h
theorem cap_ok {C : Cx} {x : Operand} {ty : TypeId} {as : Array Operand} {ts : Array TypeId} {o : Oper} {a : Act} {w W0 : World} {S : Reg} {E : Env} {hp : Nat → Option AB} {lo : Nat} {e : Eff} {av : AV} (ho : o.op = .call ⟨.builtin .cap, as, ts⟩) (has : as = #[x]) (hts : ts = #[ty])
    (hv : conc E av = some (a.eval x)) (Gm : Gam W0 S E hp w) (h : (effCap C.P ty av).get = some e) : OpOk C.P o a w W0 S E hp lo e := by
  subst has hts
  unfold effCap at h
  split at h
  case h_2 => exact get_no h
  rename_i el n r of len c hu
  obtain rfl := get_one h
  simp only [conc, Option.map_eq_some_iff, Option.getD_some] at hv
  obtain ⟨p, _, hv⟩ := hv
  refine OpOk.value Gm (V := goInt c) ?_ rfl rfl rfl
  simp [execOp, ho, resolve, invoke, builtin, Builtin.cap_, ← hv, run_underlying hu]
end Go.Proofs.YtpfbpcaehmhefaaDoorB.Sx
