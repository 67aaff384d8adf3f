/- The engine, part 5: soundness of the effects: addresses, parts, equality. -/
import Derived.Test.YtpfbpcaehmhefaaDoorBZ4
namespace Go.Proofs.YtpfbpcaehmhefaaDoorB.Sx
open Go.RowKit
set_option linter.unusedSimpArgs false
set_option linter.unusedVariables false

/-! ### A row that was told cell by cell is one of the rows again -/
theorem ro_nil {E : Env} {hp : Nat → Option AB} {w : World} {F R : Nat → List Nat} (G : Gc E hp w F R) {m : Nat} {x : M} (h : hp m = some (.ro x)) : F m = [] := by
  obtain ⟨p, _, _, vs, F0, R0, _, hbox⟩ := G.holds m _ h
  obtain ⟨_, _, _, _, _, _, hF, _⟩ := hbox
  exact hF
/-- Rows gathered at a name. -/
theorem Post.gather {W0 : World} {S : Reg} {E : Env} {hp : Nat → Option AB} {w : World} {F R : Nat → List Nat} (G : Gf W0 S E hp w F R) {n : Nat} {el : TypeId} {sh : Sh} {a : List (Den sh) × List Nat × List Nat}
    (h : (gatB hp true el sh (gat hp false sh) n).get = some (a.1, n :: a.2.1, a.2.2)) (h1 : (n :: a.2.1).Nodup) (h2 : ∀ m ∈ a.2.2, ∃ x, hp m = some (.ro x)) {fr : Nat} {e : Eff} (hu : e.upd = (n, some (.own (.rows el sh a.1))) :: spent a.2.1) (hn : e.news = []) :
    ∃ F' R', Post E hp w F R fr e E w F' R' := by
  obtain ⟨j1, j2⟩ := gat_ok G.toGc false sh
  obtain ⟨p, xs, F0, R0, F1, R1, hp1, g1, g2, g3, g4, g5, _⟩ := gatB_ok G.toGc (by rfl) j1 j2 h
  have hput : ∀ m x, lookO e.put m = some (some x) → m = n ∧ x = .own (.rows el sh a.1) := by
    intro m x h
    simp only [Eff.put, hu, hn, List.append_nil, lookO] at h
    cases hb : Nat.beq n m with
    | true => rw [hb] at h; simp at h; exact ⟨(Nat.eq_of_beq_eq_true hb).symm, h.symm⟩
    | false => rw [hb] at h; have := (lookO_spent h).2; cases this
  have htouch : ∀ m k, m ∈ n :: a.2.1 → (hp m).isSome = true → k ∈ F m → touched hp F e k := by
    intro m k hm hs hk
    obtain ⟨b, hb⟩ := Option.isSome_iff_exists.1 hs
    refine ⟨m, b, ?_, hb, hk⟩
    simp only [hu, lookO]
    cases hq : Nat.beq n m with
    | true => rfl
    | false =>
      rcases List.mem_cons.1 hm with rfl | hm
      · simp at hq
      · simp [lookO_spent_of hm]
  refine ⟨fun _ => F1, fun _ => R1, E.le_refl, fun m h h' => (h' h).elim, ⟨rfl, rfl, rfl, Nat.le_refl _, fun _ _ _ => rfl⟩, ?_, ?_, ?_, ?_, ?_⟩
  · intro m x h
    obtain ⟨rfl, rfl⟩ := hput m x h
    exact ⟨p, hp1, trivial, xs, F0, R0, g1, g2⟩
  · intro m x h; exact g5 h1
  · intro m x k h hk
    obtain ⟨m', hm', s1, s2⟩ := g3 k hk
    exact .inl (htouch m' k hm' s1 s2)
  · intro m x k h hk
    rcases g4 k hk with ⟨m', hm', s1, s2⟩ | ⟨m', hm', s1, s2⟩
    · obtain ⟨y, hy⟩ := h2 m' hm'
      rw [ro_nil G.toGc hy] at s2
      simp only [List.not_mem_nil, false_or] at s2
      exact .inl ⟨m', _, hy, s2⟩
    · obtain ⟨b, hb⟩ := Option.isSome_iff_exists.1 s1
      exact .inl ⟨m', b, hb, s2⟩
  · intro m m' x x' k h h' _ _
    exact (hput m x h).1.trans (hput m' x' h').1.symm
/-- The heap behind a row is one of the rows again. -/
def folded (hp : Nat → Option AB) (n : Nat) (b : AB) (ns : List Nat) (m : Nat) : Option AB := if m = n then some b else if m ∈ ns then none else hp m
theorem fold_row {W0 : World} {S : Reg} {E : Env} {hp : Nat → Option AB} {w : World} (G : Gam W0 S E hp w) {n : Nat} {el : TypeId} {sh : Sh} {l : List (Den sh)} {i q : Nat} {cs : List AV} {a : Den sh × List Nat × List Nat} (hb : hp n = some (.own (.hol el sh l i q cs)))
    (hg : (gat hp false sh cs).get = some a) (h1 : nodupB a.2.1 = true) (h2 : allRo hp a.2.2 = true) (h3 : a.2.1.contains n = false) : Gam W0 S E (folded hp n (.own (.rows el sh (l.set i a.1))) a.2.1) w := by
  obtain ⟨F, R, G⟩ := G
  have hgb : (gatB hp true el sh (gat hp false sh) n).get = some (l.set i a.1, n :: a.2.1, a.2.2) := by
    unfold gatB
    simp only [hb, M.e, Nat.beq_refl, cond_true, gatM, dif_pos rfl]
    unfold T.mapO
    rw [T.get_map, dif_pos trivial, T.get_map, hg]
    rfl
  have hn : n ∉ a.2.1 := by
    intro hm
    rw [List.contains_eq_mem] at h3
    simp [hm] at h3
  obtain ⟨F', R', k⟩ := Post.gather (fr := 0) (a := (l.set i a.1, a.2)) (e := { val := .any, upd := (n, some (.own (.rows el sh (l.set i a.1)))) :: spent a.2.1 }) G hgb (List.nodup_cons.2 ⟨hn, nodupB_ok h1⟩) (allRo_ok h2) rfl rfl
  have := G.apply k
  have heq : after hp { val := .any, upd := (n, some (.own (.rows el sh (l.set i a.1)))) :: spent a.2.1 } = folded hp n (.own (.rows el sh (l.set i a.1))) a.2.1 := by
    funext m
    unfold after folded
    simp only [Eff.put, List.append_nil, lookO]
    by_cases hm : m = n
    · subst hm; simp
    · have hq : Nat.beq n m = false := by
        cases hq : Nat.beq n m with
        | false => rfl
        | true => exact (hm (Nat.eq_of_beq_eq_true hq).symm).elim
      rw [hq, if_neg hm]
      simp only [cond_false]
      by_cases hm2 : m ∈ a.2.1
      · rw [lookO_spent_of hm2, if_pos hm2]
      · rw [if_neg hm2]
        cases hl : lookO (spent a.2.1) m with
        | none => rfl
        | some x => exact (hm2 (lookO_spent hl).1).elim
  rw [heq] at this
  exact this

/-! ### Addresses, parts -/
theorem field_ok {C : Cx} {s : TypeId} {x : Operand} {f : Nat} {o : Oper} {a : Act} {w W0 : World} {S : Reg} {E : Env} {hp : Nat → Option AB} {lo : Nat} {e : Eff} {av : AV} (ho : o.op = .fieldAddr s x f) (hv : conc E av = some (a.eval x)) (G : Gam W0 S E hp w)
    (h : (effField C.P s av f).get = some e) : OpOk C.P o a w W0 S E hp lo e := by
  unfold effField at h
  split at h
  case h_2 => exact get_no h
  rename_i n r of
  split at h
  case h_2 => exact get_no h
  rename_i fs hs
  split at h
  case h_2 => exact get_no h
  rename_i fd hf
  split at h
  case h_2 => exact get_no h
  rename_i i hi
  cases hz : Nat.beq i.size 0 with
  | true => rw [hz] at h; exact get_no h
  | false =>
    rw [hz] at h
    simp only [cond_false] at h
    obtain rfl := get_one h
    simp only [conc, Option.map_eq_some_iff] at hv
    obtain ⟨p, hp1, hv⟩ := hv
    have hne : ¬ i.size = 0 := by intro e0; rw [e0] at hz; simp at hz
    refine OpOk.value G (V := .pointer (some (p.addr r (of + fd.offset)))) ?_ (by simp [conc, hp1]) rfl rfl
    simp [execOp, ho, ← hv, Instr.fieldAt, run_underlying hs, hf, Instr.sureAddr, fieldPlace, run_sizeOf hi, hne, addr_add]


theorem elemAt_conc {E : Env} {p : Pl} {y : M} {n r of size j : Nat} (hst : p.stride = y.size) (hp1 : E n = some p) :
    conc E (elemAt y r of size j n) = some (.pointer (some ((p.addr r of).add (j * size)))) := by
  unfold elemAt
  cases hq : (Nat.beq y.size size && Nat.beq of 0) with
  | true =>
    simp only [Bool.and_eq_true] at hq
    have h1 := Nat.eq_of_beq_eq_true hq.1
    have h2 := Nat.eq_of_beq_eq_true hq.2
    subst h1 h2
    simp only [cond_true, conc, hp1, Option.map_some]
    rw [addr_rows, addr_add, Nat.zero_add, hst]
  | false => simp [conc, hp1, addr_add]

/-- The focus on a row. -/
theorem focus_run {W0 : World} {S : Reg} {E : Env} {hp : Nat → Option AB} {w : World} (G : Gam W0 S E hp w) {n : Nat} {el : TypeId} {sh : Sh} {l : List (Den sh)} (hb : hp n = some (.own (.rows el sh l))) {idx fr : Nat} {rd : List Nat} {up : Hp} {e : Eff}
    (h : (focus n el sh l idx fr rd up).get = some e) (hfr : ∀ m, fr ≤ m → m < fr + e.nn → E m = none) :
    ∃ (x : List AV × Hp × Nat) (p : Pl) (E' : Env), e.val = .ptr fr 0 0 ∧ e.reads = rd ∧ e.upd = (n, some (.own (.hol el sh l idx fr x.1))) :: up ∧ e.news = (fr, some (.al n)) :: x.2.1 ∧ E n = some p ∧ conc E' e.val = some (.pointer (some (p.addr idx 0))) ∧ E.le E' ∧ (∀ m, E m = none → E' m ≠ none → fr ≤ m ∧ m < fr + e.nn) ∧
      Gam W0 S E' (fun m => match lookO ((n, some (.own (.hol el sh l idx fr x.1))) :: (fr, some (.al n)) :: x.2.1) m with | some y => y | none => hp m) w ∧ (∀ m, look x.2.1 m ≠ none → fr < m) := by
  unfold focus at h
  obtain ⟨h1, h⟩ := T.get_when h
  have hr : idx < l.length := by simpa using h1
  rw [T.get_bind] at h
  generalize hx : (scat false sh (getR l idx) (fr + 1)).get = x at h
  obtain rfl := get_one h
  obtain ⟨F, R, G⟩ := G
  obtain ⟨p, E', F', R', us, o1, o2, o3, o4, q, q1, q2, q3⟩ := open_row (e := { val := .ptr fr 0 0, upd := [(n, some (.own (.hol el sh l idx fr x.1)))], news := (fr, some (.al n)) :: x.2.1, nn := x.2.2 - fr }) G hb hr hx rfl rfl rfl hfr
  refine ⟨x, p, E', rfl, rfl, rfl, rfl, o1, ?_, o2.ext, o2.dom, ?_, ?_⟩
  · simp only [conc, q1, Option.map_some, q3]
  · have := G.apply o2
    exact this
  · intro m hm
    cases hl : look x.2.1 m with
    | none => exact (hm hl).elim
    | some b =>
      obtain ⟨p', hp', _, vs, F0, R0, hreads, hbox⟩ := G.holds n _ hb
      have hnd := G.nodup n _ hb
      obtain ⟨v1, ys, v2, F1, F2, F3, R1, R2, R3, rfl, hF0, hR0, l1, h1', h2', h3'⟩ := rowsH_at (s := sh.size) (fun d ys F R h => hold_length false sh d ys F R h) hreads (getR_some hr)
      have := scat_lo false sh (getR l idx) (fr + 1) m b (by rw [hx]; exact hl)
      omega

theorem focus_nn {n : Nat} {el : TypeId} {sh : Sh} {l : List (Den sh)} {idx fr : Nat} {rd : List Nat} {up : Hp} {e : Eff} (h : (focus n el sh l idx fr rd up).get = some e) : 0 < e.nn := by
  unfold focus at h
  obtain ⟨h1, h⟩ := T.get_when h
  rw [T.get_bind] at h
  have := scat_ge (lx := false) sh (getR l idx) (fr + 1)
  obtain rfl := get_one h
  show 0 < (scat false sh (getR l idx) (fr + 1)).get.2.2 - fr
  omega
theorem focus_lo {n : Nat} {el : TypeId} {sh : Sh} {l : List (Den sh)} {idx fr : Nat} {rd : List Nat} {up : Hp} {e : Eff} (h : (focus n el sh l idx fr rd up).get = some e) {ns : Hp} (hn : e.news = (fr, some (.al n)) :: ns) : ∀ m z, lookO ns m = some z → fr ≤ m ∧ m < fr + e.nn := by
  unfold focus at h
  obtain ⟨h1, h⟩ := T.get_when h
  rw [T.get_bind] at h
  have hge := scat_ge (lx := false) sh (getR l idx) (fr + 1)
  obtain rfl := get_one h
  simp only [List.cons.injEq, true_and] at hn
  subst hn
  intro m z hz
  have hs := scat_all false sh (getR l idx) (fr + 1) m z hz
  obtain ⟨b, rfl⟩ := Option.isSome_iff_exists.1 hs
  have := scat_lo false sh (getR l idx) (fr + 1) m b (look_of_lookO.2 hz)
  show fr ≤ m ∧ m < fr + ((scat false sh (getR l idx) (fr + 1)).get.2.2 - fr)
  omega
theorem index_ok {C : Cx} {ty : TypeId} {x y : Operand} {o : Oper} {a : Act} {w W0 : World} {S : Reg} {E : Env} {hp : Nat → Option AB} {fr : Nat} {e : Eff} {av iv : AV} (ho : o.op = .indexAddr ty x y) (hv : conc E av = some (a.eval x)) (hi : conc E iv = some (a.eval y))
    (G : Gam W0 S E hp w) (hfr : ∀ n, fr ≤ n → n < fr + e.nn → E n = none) (h : (effIndex C.P ty av iv hp fr).get = some e) : OpOk C.P o a w W0 S E hp fr e := by
  unfold effIndex at h
  split at h
  case h_2 => exact get_no h
  rename_i k j
  simp only [conc, Option.some.injEq] at hi
  split at h
  · rename_i len el hu
    split at h
    case h_3 => exact get_no h
    case h_2 =>
      rename_i A ie hie
      obtain ⟨hc, h⟩ := T.get_when h
      obtain rfl := get_one (pickN_get h)
      simp only [conc, Option.some.injEq] at hv
      have hc' : 0 ≤ j ∧ j < (len : Int) := by simpa using hc
      refine OpOk.value G (V := .pointer (some (A.add (j.toNat * ie.size)))) ?_ rfl rfl rfl
      simp [execOp, ho, ← hv, ← hi, Instr.indexAt, asIntOf, run_underlying hu, Instr.sureAddr, hc', run_sizeOf hie]
    rename_i n r of ie hie
    obtain ⟨hc, h⟩ := T.get_when h
    obtain rfl := get_one (pickN_get h)
    simp only [conc, Option.map_eq_some_iff] at hv
    obtain ⟨p, hp1, hv⟩ := hv
    have hc' : 0 ≤ j ∧ j < (len : Int) := by simpa using hc
    refine OpOk.value G (V := .pointer (some (p.addr r (of + j.toNat * ie.size)))) ?_ (by simp [conc, hp1]) rfl rfl
    simp [execOp, ho, ← hv, ← hi, Instr.indexAt, asIntOf, run_underlying hu, Instr.sureAddr, hc', run_sizeOf hie, addr_add]
  · rename_i el hu
    split at h
    case h_2 => exact get_no h
    rename_i ie hie
    split at h
    case h_2 => exact get_no h
    rename_i n r of len cap
    -- the operation itself
    have run_ : ∀ {p : Pl}, E n = some p → p.nil = false → 0 ≤ j → j < (len : Int) → (execOp a.eval o).run C.P w = .ok (.value (.pointer (some ((p.addr r of).add (j.toNat * ie.size))))) w := by
      intro p hp1 hnil h1 h2
      simp only [conc, hp1, Option.map_some, Option.some.injEq] at hv
      simp [execOp, ho, ← hv, ← hi, Instr.indexAt, asIntOf, run_underlying hu, h1, h2, run_sizeOf hie, addr_add, Pl.ptr, hnil]
    have place : ∀ {b : AB} {y : M}, hp n = some b → b.cont = some y → 0 < y.len → ∃ p, E n = some p ∧ p.nil = false ∧ p.stride = y.size := by
      intro b y hb hy hpos
      obtain ⟨F, R, G⟩ := G
      obtain ⟨p, hp1, hh⟩ := G.holds n b hb
      obtain ⟨own, lx, vs, F0, R0, g1, g2⟩ := cont_box hh hy
      obtain ⟨c1, c2, c3, c4, c5⟩ := boxH_cells g2
      refine ⟨p, hp1, ?_, c1⟩
      cases hn : p.nil with
      | false => rfl
      | true => have := c4 hn; omega
    have plain_ : ∀ {b : AB} {y : M}, hp n = some b → b.cont = some y → 0 ≤ j ∧ j < (len : Int) ∧ 0 < y.len → e = { val := elemAt y r of ie.size j.toNat n, reads := [n] } → OpOk C.P o a w W0 S E hp fr e := by
      rintro b y hb hy ⟨h1, h2, h3⟩ rfl
      obtain ⟨p, p1, p2, p3⟩ := place hb hy h3
      exact OpOk.value G (run_ p1 p2 h1 h2) (elemAt_conc p3 p1) rfl rfl
    -- a focus, from a heap that has come of this one
    have focus_ : ∀ {hp' : Nat → Option AB} {el' : TypeId} {sh : Sh} {l : List (Den sh)} {rd : List Nat} {ns : List Nat} {p : Pl}, Gam W0 S E hp' w → hp' n = some (.own (.rows el' sh l)) → E n = some p → p.nil = false → p.stride = sh.size → sh.size = ie.size → of = 0 → 0 ≤ j → j < (len : Int) →
        (∀ m, m ≠ n → m ∈ ns → (hp' m = none ∧ (hp m).isSome = true)) → (∀ m, m ≠ n → m ∉ ns → hp' m = hp m) → n ∉ ns → (focus n el' sh l (r + j.toNat) fr rd (spent ns)).get = some e → OpOk C.P o a w W0 S E hp fr e := by
      intro hp' el' sh l rd ns p G' hb p1 p2 p3 hsz hof h1 h2 hns hkeep hnn h
      obtain ⟨x, p', E', f1, f2, f3, f4, f5, f6, f7, f8, f9, f10⟩ := focus_run G' hb h hfr
      rw [p1] at f5
      cases f5
      intro next Q hnext
      unfold Oper.wp
      rw [run_ p1 p2 h1 h2]
      have haddr : (p.addr r of).add (j.toNat * ie.size) = p.addr (r + j.toNat) 0 := by
        rw [addr_rows, addr_add, hof, Nat.zero_add, p3, hsz]
      rw [haddr]
      refine hnext _ w E' f6 f7 f8 ?_
      have heq : after hp e = fun m => match lookO ((n, some (.own (.hol el' sh l (r + j.toNat) fr x.1))) :: (fr, some (.al n)) :: x.2.1) m with | some y => y | none => hp' m := by
        funext m
        unfold after
        simp only [Eff.put, f3, f4, List.cons_append, lookO]
        cases hq : Nat.beq n m with
        | true => rfl
        | false =>
          simp only [cond_false]
          have hmn : m ≠ n := fun e0 => by subst e0; simp at hq
          rw [lookO_append]
          by_cases hm : m ∈ ns
          · rw [lookO_spent_of hm]
            obtain ⟨g1, g2⟩ := hns m hmn hm
            obtain ⟨b, hb'⟩ := Option.isSome_iff_exists.1 g2
            have hlt : E m ≠ none := by
              obtain ⟨F, R, Gx⟩ := G
              obtain ⟨pm, h5, _⟩ := Gx.holds m b hb'
              rw [h5]; simp
            -- m is no new name
            have hnot : lookO ((fr, some (AB.al n)) :: x.2.1) m = none := by
              cases hl : lookO ((fr, some (AB.al n)) :: x.2.1) m with
              | none => rfl
              | some z =>
                exfalso
                have hge : fr ≤ m ∧ m < fr + e.nn := by
                  simp only [lookO] at hl
                  cases hq2 : Nat.beq fr m with
                  | true =>
                    have := Nat.eq_of_beq_eq_true hq2
                    subst this
                    refine ⟨Nat.le_refl _, ?_⟩
                    have := focus_nn h
                    omega
                  | false =>
                    rw [hq2] at hl
                    have := focus_lo h f4 m z hl
                    omega
                exact hlt (hfr m hge.1 hge.2)
            simp only [lookO] at hnot
            rw [hnot, g1]
          · have : lookO (spent ns) m = none := by
              cases hl : lookO (spent ns) m with
              | none => rfl
              | some z => exact (hm (lookO_spent hl).1).elim
            rw [this, hkeep m hmn hm]
            simp only [lookO]
            split <;> simp_all
      rw [heq]
      exact f9
    split at h
    · rename_i el' sh l hb
      obtain ⟨hc, h⟩ := T.get_when h
      have hc : 0 ≤ j ∧ j < (len : Int) ∧ 0 < l.length := by simpa using hc
      cases hfl : sh.flat with
      | true =>
        rw [hfl] at h
        simp only [cond_true] at h
        exact plain_ hb rfl hc (get_one h).symm
      | false =>
        rw [hfl] at h
        simp only [cond_false] at h
        cases hq : (Nat.beq sh.size ie.size && Nat.beq of 0) with
        | false => rw [hq] at h; exact get_no h
        | true =>
          rw [hq] at h
          simp only [cond_true] at h
          simp only [Bool.and_eq_true] at hq
          obtain ⟨p, p1, p2, p3⟩ := place hb rfl hc.2.2
          exact focus_ (ns := []) G hb p1 p2 p3 (Nat.eq_of_beq_eq_true hq.1) (Nat.eq_of_beq_eq_true hq.2) hc.1 hc.2.1 (fun m _ h => by simp at h) (fun _ _ _ => rfl) (by simp) h
    · rename_i el' sh l i q cs hb
      obtain ⟨hc, h⟩ := T.get_when h
      have hc : 0 ≤ j ∧ j < (len : Int) ∧ 0 < l.length := by simpa using hc
      cases hq : (Nat.beq sh.size ie.size && Nat.beq of 0) with
      | false => rw [hq] at h; exact get_no h
      | true =>
        rw [hq] at h
        simp only [cond_true] at h
        simp only [Bool.and_eq_true] at hq
        have q1 := Nat.eq_of_beq_eq_true hq.1
        have q2 := Nat.eq_of_beq_eq_true hq.2
        obtain ⟨p, p1, p2, p3⟩ := place hb rfl hc.2.2
        rw [T.get_ite] at h
        split at h
        · rename_i hri
          have hri : r + j.toNat = i := by simpa using hri
          obtain rfl := get_one h
          have G0 := G
          obtain ⟨F, R, Gx⟩ := G0
          obtain ⟨p', hp', hh⟩ := Gx.holds n _ hb
          rw [p1] at hp'
          cases hp'
          obtain ⟨pq, us, a1, a2, a3, a4, a5, a6⟩ := hol_cells hh
          refine OpOk.value G (run_ p1 p2 hc.1 hc.2.1) ?_ rfl rfl
          have haddr : (p.addr r of).add (j.toNat * ie.size) = p.addr i 0 := by
            rw [← hri, addr_rows, addr_add, q2, Nat.zero_add, p3, ← q1]; rfl
          rw [haddr, ← a5 0]
          simp [conc, a1]
        · obtain ⟨b, hg, h⟩ := T.get_bindO h
          cases hz : (nodupB b.2.1 && allRo hp b.2.2 && !b.2.1.contains n) with
          | false => rw [hz] at h; exact get_no h
          | true =>
            rw [hz] at h
            simp only [cond_true] at h
            simp only [Bool.and_eq_true, Bool.not_eq_true'] at hz
            have G' := fold_row G hb hg hz.1.1 hz.1.2 hz.2
            have hn : n ∉ b.2.1 := by
              intro hm
              have := hz.2
              rw [List.contains_eq_mem] at this
              simp [hm] at this
            have hsome : ∀ m ∈ b.2.1, (hp m).isSome = true := by
              intro m hm
              obtain ⟨F, R, Gx⟩ := G
              exact gat_some hp false sh cs b hg m (by simp [hm])
            refine focus_ (ns := b.2.1) G' (by unfold folded; rw [if_pos rfl]) p1 p2 p3 q1 q2 hc.1 hc.2.1 (fun m hmn hm => ⟨by unfold folded; rw [if_neg hmn, if_pos hm], hsome m hm⟩) (fun m hmn hm => by unfold folded; rw [if_neg hmn, if_neg hm]) hn h
    · rename_i b hb1 hb2 hb
      split at h
      · rename_i y hy
        obtain ⟨hc, h⟩ := T.get_when h
        have hc : 0 ≤ j ∧ j < (len : Int) ∧ 0 < y.len := by simpa using hc
        exact plain_ hb hy hc (get_one h).symm
      · exact get_no h
    · exact get_no h
  · exact get_no h

theorem run_part_of {P : Program} {E : Env} {t : TypeId} {u : TypeDesc} {i : TypeInfo} {xs : List AV} {Xs : List Value} {off : Nat} {a : AV} (hu : P.underlying t = some u) (hi : P.info? t = some i) (hx : concs E xs = some Xs)
    (h : partOf u i xs off = some a) : ∃ A, conc E a = some A ∧ ∀ w, (part t Xs.toArray off).run P w = .ok A w := by
  unfold partOf at h
  cases hag : isAggD u with
  | true =>
    rw [hag] at h
    simp only [cond_true, Option.some.injEq] at h
    subst h
    have := concs_take i.size (concs_drop off hx)
    exact ⟨.agg ((Xs.drop off).take i.size).toArray, by simp [conc, this], fun w => by simp [part, run_isAgg hu, hag, run_sizeOf hi, List.extract_eq_take_drop]⟩
  | false =>
    rw [hag] at h
    simp only [cond_false] at h
    obtain ⟨A, h1, h2⟩ := concs_get hx h
    exact ⟨A, h2, fun w => by simp [part, run_isAgg hu, hag, h1]⟩

theorem part_ok {C : Cx} {ty : TypeId} {x : Operand} {f : Nat} {o : Oper} {a : Act} {w W0 : World} {S : Reg} {E : Env} {hp : Nat → Option AB} {lo : Nat} {e : Eff} {av : AV} (ho : o.op = .field ty x f) (hv : conc E av = some (a.eval x)) (G : Gam W0 S E hp w)
    (h : (effPart C.P ty av f).get = some e) : OpOk C.P o a w W0 S E hp lo e := by
  unfold effPart at h
  split at h
  case h_2 => exact get_no h
  rename_i cs
  split at h
  case h_2 => exact get_no h
  rename_i fs hs
  split at h
  case h_2 => exact get_no h
  rename_i fd hf
  split at h
  case h_2 => exact get_no h
  rename_i d i hd hi
  simp only [conc, Option.map_eq_some_iff] at hv
  obtain ⟨vs, hvs, hv⟩ := hv
  split at h
  case h_2 => exact get_no h
  rename_i u hu
  obtain rfl := get_one h
  obtain ⟨A, h1, h2⟩ := run_part_of hd hi hvs hu
  refine OpOk.value G (V := A) ?_ h1 rfl rfl
  simp [execOp, ho, ← hv, Instr.field, run_underlying hs, hf, asAgg, h2]

theorem acells_agg {E : Env} {v : AV} {V : Value} (h : conc E v = some V) (ha : isAgg v = true) : ∃ cs, V = .agg cs ∧ concs E (acells v) = some cs.toList := by
  have hc := acells_conc h
  cases v with
  | v x =>
    simp only [conc, Option.some.injEq] at h
    subst h
    cases x <;> simp [isAgg] at ha
    exact ⟨_, rfl, hc⟩
  | agg cs =>
    have h' := h
    simp only [conc, Option.map_eq_some_iff] at h'
    obtain ⟨vs, hvs, rfl⟩ := h'
    exact ⟨_, rfl, hc⟩
  | _ => simp [isAgg] at ha

theorem elem_ok {C : Cx} {ty : TypeId} {x y : Operand} {o : Oper} {a : Act} {w W0 : World} {S : Reg} {E : Env} {hp : Nat → Option AB} {lo : Nat} {e : Eff} {av iv : AV} (ho : o.op = .index ty x y) (hv : conc E av = some (a.eval x)) (hi : conc E iv = some (a.eval y)) (G : Gam W0 S E hp w)
    (h : (effElem C.P ty av iv).get = some e) : OpOk C.P o a w W0 S E hp lo e := by
  unfold effElem at h
  split at h
  case h_2 => exact get_no h
  rename_i k j
  simp only [conc, Option.some.injEq] at hi
  split at h
  · rename_i len el hu
    cases hag : isAgg av with
    | false => rw [hag] at h; exact get_no h
    | true =>
      rw [hag] at h
      simp only [cond_true] at h
      split at h
      case h_2 => exact get_no h
      rename_i d ie hd hie
      obtain ⟨hc, h⟩ := T.get_when h
      have hc' : 0 ≤ j ∧ j < (len : Int) := by simpa using hc
      have h := pickN_get h
      split at h
      case h_2 => exact get_no h
      rename_i u hu'
      obtain rfl := get_one h
      obtain ⟨cs, hcs, hcc⟩ := acells_agg hv hag
      obtain ⟨A, h1, h2⟩ := run_part_of hd hie hcc hu'
      refine OpOk.value G (V := A) ?_ h1 rfl rfl
      simp only [Array.toArray_toList] at h2
      simp [execOp, ho, hcs, ← hi, Instr.index, asIntOf, run_underlying hu, hc', run_sizeOf hie, h2]
  · rename_i hu
    split at h
    case h_2 => exact get_no h
    rename_i s
    obtain ⟨hc, h⟩ := T.get_when h
    have hc' : 0 ≤ j ∧ j < (s.size : Int) := by simpa using hc
    split at h
    case h_2 => exact get_no h
    rename_i b hb
    obtain rfl := get_one h
    simp only [conc, Option.some.injEq] at hv
    refine OpOk.value G (V := .int .u8 b.toNat) ?_ rfl rfl rfl
    have hb2 : (if 0 ≤ j then s[j.toNat]? else none) = some b := by rw [if_pos hc'.1, hb]
    simp only [execOp, ho, ← hv, ← hi, Instr.index, asIntOf, Sem.run_bind, Sem.run_pure, run_underlying hu, Result.andThen_ok, hb2]
  · exact get_no h

/-! ### Equality -/
theorem aeqF_ok {P : Program} {E : Env} {d : Nat} {eq : TypeId → AV → AV → Option Bool} (ih : ∀ t x y X Y b, eq t x y = some b → conc E x = some X → conc E y = some Y → ∀ w, (Op.equalIn d t X Y).run P w = .ok b w) :
    ∀ (fs : List Field) (xs ys : List AV) (Xs Ys : List Value) (b : Bool), aeqF P eq fs xs ys = some b → concs E xs = some Xs → concs E ys = some Ys → ∀ w, (Op.eqFields d Xs.toArray Ys.toArray fs).run P w = .ok b w
  | [], xs, ys, Xs, Ys, b, h, hx, hy, w => by
    simp only [aeqF, Option.some.injEq] at h
    subst h
    rfl
  | f :: fs, xs, ys, Xs, Ys, b, h, hx, hy, w => by
    unfold aeqF at h
    cases hn : (f.name == "_") with
    | true =>
      rw [hn] at h
      simp only [cond_true] at h
      have hn' : f.name = "_" := by simpa using hn
      simp only [Op.eqFields, hn', ne_eq, not_true, if_false]
      exact aeqF_ok ih fs xs ys Xs Ys b h hx hy w
    | false =>
      rw [hn] at h
      simp only [cond_false] at h
      have hn' : f.name ≠ "_" := by simpa using hn
      split at h
      case h_2 => cases h
      rename_i u i hu hi
      split at h
      case h_2 => cases h
      rename_i a c ha hc
      split at h
      case h_2 => cases h
      rename_i r s hr hs
      simp only [Option.some.injEq] at h
      subst h
      obtain ⟨A, hA, hpa⟩ := run_part_of hu hi hx ha
      obtain ⟨B, hB, hpb⟩ := run_part_of hu hi hy hc
      have h1 := ih _ _ _ _ _ _ hr hA hB w
      have h2 := aeqF_ok ih fs xs ys Xs Ys s hs hx hy w
      simp only [Op.eqFields, hn', ne_eq, not_false_iff, if_true, Sem.run_bind, hpa, hpb, Result.andThen_ok, h1]
      cases r
      · simp
      · simpa using h2
theorem aeqA_ok {P : Program} {E : Env} {d : Nat} {eq : TypeId → AV → AV → Option Bool} (ih : ∀ t x y X Y b, eq t x y = some b → conc E x = some X → conc E y = some Y → ∀ w, (Op.equalIn d t X Y).run P w = .ok b w)
    {e : TypeId} {u : TypeDesc} {i : TypeInfo} {xs ys : List AV} {Xs Ys : List Value} (hu : P.underlying e = some u) (hi : P.info? e = some i) (hx : concs E xs = some Xs) (hy : concs E ys = some Ys) :
    ∀ (n k : Nat) (b : Bool), aeqA P eq e u i xs ys n k = some b → ∀ w, (Op.eqItems d e i.size Xs.toArray Ys.toArray (List.range' k n)).run P w = .ok b w
  | 0, k, b, h, w => by
    simp only [aeqA, Option.some.injEq] at h
    subst h
    rfl
  | n + 1, k, b, h, w => by
    unfold aeqA at h
    split at h
    case h_2 => cases h
    rename_i a c ha hc
    split at h
    case h_2 => cases h
    rename_i r s hr hs
    simp only [Option.some.injEq] at h
    subst h
    obtain ⟨A, hA, hpa⟩ := run_part_of hu hi hx ha
    obtain ⟨B, hB, hpb⟩ := run_part_of hu hi hy hc
    have h1 := ih _ _ _ _ _ _ hr hA hB w
    have h2 := aeqA_ok ih hu hi hx hy n (k + 1) s hs w
    simp only [List.range'_succ, Op.eqItems, Sem.run_bind, hpa, hpb, Result.andThen_ok, h1]
    cases r
    · simp
    · simpa using h2

theorem aeq_ok {P : Program} {E : Env} : ∀ (d : Nat) (t : TypeId) (x y : AV) (X Y : Value) (b : Bool), aeq P d t x y = some b → conc E x = some X → conc E y = some Y → ∀ w, (Op.equalIn d t X Y).run P w = .ok b w
  | 0, t, x, y, X, Y, b, h, _, _, _ => by simp [aeq] at h
  | d + 1, t, x, y, X, Y, b, h, hx, hy, w => by
    unfold aeq at h
    cases hag : (isAgg x && isAgg y) with
    | true =>
      rw [hag] at h
      simp only [cond_true] at h
      simp only [Bool.and_eq_true] at hag
      obtain ⟨cx, rfl, hcx⟩ := acells_agg hx hag.1
      obtain ⟨cy, rfl, hcy⟩ := acells_agg hy hag.2
      split at h
      · rename_i fs hs
        cases hst : P.stoodInHeld t with
        | true => rw [hst] at h; cases h
        | false =>
          rw [hst] at h
          simp only [cond_false] at h
          have hf : P.fieldsOf t = fs := by simp [Program.fieldsOf, hs]
          rw [run_equalIn_struct w d t cx cy (by rw [hf]; exact hs) hst, hf]
          have := aeqF_ok (fun t x y X Y b h hx hy w => aeq_ok d t x y X Y b h hx hy w) fs.toList _ _ _ _ b h hcx hcy w
          simpa using this
      · rename_i n e hs
        split at h
        case h_2 => cases h
        rename_i u i hu hi
        rw [run_equalIn_array w d cx cy hs hi, List.range_eq_range']
        have hc : P.cellsOf e = i.size := by simp [Program.cellsOf, hi]
        rw [hc]
        have := aeqA_ok (fun t x y X Y b h hx hy w => aeq_ok d t x y X Y b h hx hy w) hu hi hcx hcy n 0 b h w
        simpa using this
      · cases h
    | false =>
      rw [hag] at h
      simp only [cond_false] at h
      split at h
      · rename_i k0 k a k' c hu
        split at h
        case isFalse => cases h
        rename_i hk
        simp only [conc, Option.some.injEq] at hx hy h
        subst hx hy h hk
        exact run_equalIn_int w d t k k0 a c hu
      · rename_i a c hu
        simp only [conc, Option.some.injEq] at hx hy h
        subst hx hy h
        exact run_equalIn_bool' w d t a c hu
      · rename_i a c hu
        simp only [conc, Option.some.injEq] at hx hy h
        subst hx hy h
        rw [beq_toListBytes]
        exact run_equalIn_string w d t a c hu
      · rename_i k0 k a k' c hu
        split at h
        case isFalse => cases h
        rename_i hk
        simp only [conc, Option.some.injEq] at hx hy h
        subst hx hy h hk
        simp [Op.equalIn, run_underlying hu]
      · rename_i k0 k a c k' a' c' hu
        split at h
        case isFalse => cases h
        rename_i hk
        simp only [conc, Option.some.injEq] at hx hy h
        subst hx hy h hk
        simp [Op.equalIn, run_underlying hu]
      · rename_i el hu
        simp only [conc, Option.some.injEq] at hx hy h
        subst hx hy h
        simp [Op.equalIn, run_underlying hu]
      · rename_i el n r o hu
        simp only [conc, Option.some.injEq, Option.map_eq_some_iff] at hx hy h
        obtain ⟨p, _, rfl⟩ := hx
        subst hy h
        simp [Op.equalIn, run_underlying hu]
      · rename_i el n r o hu
        simp only [conc, Option.some.injEq, Option.map_eq_some_iff] at hx hy h
        obtain ⟨p, _, rfl⟩ := hy
        subst hx h
        simp [Op.equalIn, run_underlying hu]
      · cases h

def odd : Value → Bool
  | .pointer _ | .map _ | .func .. | .nilFunc => true
  | _ => false
theorem eql_of {P : Program} {w : World} {t : TypeId} {X Y : Value} {b : Bool} (hX : odd X = true) (h : (Op.equalIn 10000 t X Y).run P w = .ok b w) : (binOp .eql t X Y).run P w = .ok (.bool b) w := by
  have h' : (Op.equal t X Y).run P w = .ok b w := h
  cases X <;> simp only [odd, reduceCtorEq] at hX <;> simp only [binOp] <;> simp only [Sem.run_bind, h', Result.andThen_ok, Sem.run_pure]
theorem neq_of {P : Program} {w : World} {t : TypeId} {X Y : Value} {b : Bool} (hX : odd X = true) (h : (Op.equalIn 10000 t X Y).run P w = .ok b w) : (binOp .neq t X Y).run P w = .ok (.bool !b) w := by
  have h' : (Op.equal t X Y).run P w = .ok b w := h
  cases X <;> simp only [odd, reduceCtorEq] at hX <;> simp only [binOp] <;> simp only [Sem.run_bind, h', Result.andThen_ok, Sem.run_pure]
theorem nil_run {P : Program} {w : World} {t : TypeId} {X Y : Value} {b : Bool} (hX : odd X = true) (hg : ∀ op u v, (eqGuard op t u v X Y).run P w = .ok () w) (h : ∀ d, (Op.equalIn (d + 1) t X Y).run P w = .ok b w) :
    (∀ op u v, (eqGuard op t u v X Y).run P w = .ok () w) ∧ (binOp .eql t X Y).run P w = .ok (.bool b) w ∧ (binOp .neq t X Y).run P w = .ok (.bool !b) w := ⟨hg, eql_of hX (h 9999), neq_of hX (h 9999)⟩
theorem eqB_run {P : Program} {E : Env} {ty : TypeId} {x y : AV} {X Y : Value} {b : Bool} (h : eqB P ty x y = some b) (hx : conc E x = some X) (hy : conc E y = some Y) (w : World) :
    (∀ op u v, (eqGuard op ty u v X Y).run P w = .ok () w) ∧ (binOp .eql ty X Y).run P w = .ok (.bool b) w ∧ (binOp .neq ty X Y).run P w = .ok (.bool !b) w := by
  unfold eqB at h
  cases hag : (isAgg x && isAgg y) with
  | true =>
    rw [hag] at h
    simp only [cond_true] at h
    cases hg : P.eqGuardType P.depth ty with
    | true => rw [hg] at h; cases h
    | false =>
      rw [hg] at h
      simp only [cond_false] at h
      have hrun := aeq_ok 10000 ty x y _ _ b h hx hy w
      simp only [Bool.and_eq_true] at hag
      obtain ⟨cx, rfl, _⟩ := acells_agg hx hag.1
      obtain ⟨cy, rfl, _⟩ := acells_agg hy hag.2
      exact ⟨fun op u v => run_eqGuard_agg w op ty u v cx cy hg, by rw [run_eql_struct, hrun]; rfl, by rw [run_neq_struct, hrun]; rfl⟩
  | false =>
    rw [hag] at h
    simp only [cond_false] at h
    split at h
    · rename_i el n r of hu
      simp only [Option.some.injEq] at h
      subst h
      simp only [conc, Option.some.injEq, Option.map_eq_some_iff] at hx hy
      obtain ⟨p, _, rfl⟩ := hx
      subst hy
      exact nil_run rfl (fun op u v => by cases op <;> simp [eqGuard]) (fun d => by simp [Op.equalIn, run_underlying hu])
    · rename_i el n r of hu
      simp only [Option.some.injEq] at h
      subst h
      simp only [conc, Option.some.injEq, Option.map_eq_some_iff] at hx hy
      obtain ⟨p, _, rfl⟩ := hy
      subst hx
      exact nil_run rfl (fun op u v => by cases op <;> simp [eqGuard]) (fun d => by simp [Op.equalIn, run_underlying hu])
    · rename_i k el n hu
      simp only [Option.some.injEq] at h
      subst h
      simp only [conc, Option.some.injEq, Option.map_eq_some_iff] at hx hy
      obtain ⟨p, _, rfl⟩ := hx
      subst hy
      exact nil_run rfl (fun op u v => by cases op <;> simp [eqGuard]) (fun d => by simp [Op.equalIn, run_underlying hu])
    · rename_i k el n hu
      simp only [Option.some.injEq] at h
      subst h
      simp only [conc, Option.some.injEq, Option.map_eq_some_iff] at hx hy
      obtain ⟨p, _, rfl⟩ := hy
      subst hx
      exact nil_run rfl (fun op u v => by cases op <;> simp [eqGuard]) (fun d => by simp [Op.equalIn, run_underlying hu])
    · rename_i k el n fn f1 f2 hu
      simp only [Option.some.injEq] at h
      subst h
      simp only [conc, Option.some.injEq, Option.map_eq_some_iff, Option.bind_eq_some_iff] at hx hy
      obtain ⟨p, _, q, _, rfl⟩ := hx
      subst hy
      exact nil_run rfl (fun op u v => by cases op <;> simp [eqGuard]) (fun d => by simp [Op.equalIn, run_underlying hu])
    · rename_i k el n fn f1 f2 hu
      simp only [Option.some.injEq] at h
      subst h
      simp only [conc, Option.some.injEq, Option.map_eq_some_iff, Option.bind_eq_some_iff] at hx hy
      obtain ⟨p, _, q, _, rfl⟩ := hy
      subst hx
      exact nil_run rfl (fun op u v => by cases op <;> simp [eqGuard]) (fun d => by simp [Op.equalIn, run_underlying hu])
    · cases h

theorem eq_ok {C : Cx} {op : BinOp} {ty : TypeId} {x y : Operand} {ty' : TypeId} {o : Oper} {a : Act} {w W0 : World} {S : Reg} {E : Env} {hp : Nat → Option AB} {lo : Nat} {e : Eff} {av bv : AV} (ho : o.op = .binOp op ty x y ty') (hx : conc E av = some (a.eval x)) (hy : conc E bv = some (a.eval y)) (G : Gam W0 S E hp w)
    (h : (effEq C.P op ty av bv).get = some e) : OpOk C.P o a w W0 S E hp lo e := by
  unfold effEq at h
  split at h
  · simp only [T.get, Option.map_eq_some_iff] at h
    obtain ⟨b, hb, rfl⟩ := h
    obtain ⟨h1, h2, _⟩ := eqB_run hb hx hy w
    refine OpOk.value G (V := .bool b) ?_ rfl rfl rfl
    simp only [execOp, ho, Sem.run_bind, h1, Result.andThen_ok, h2, Sem.run_pure]
  · simp only [T.get, Option.map_eq_some_iff] at h
    obtain ⟨b, hb, rfl⟩ := h
    obtain ⟨h1, _, h2⟩ := eqB_run hb hx hy w
    refine OpOk.value G (V := .bool !b) ?_ rfl rfl rfl
    simp only [execOp, ho, Sem.run_bind, h1, Result.andThen_ok, h2, Sem.run_pure]
  · exact get_no h
end Go.Proofs.YtpfbpcaehmhefaaDoorB.Sx
