/- The engine, part 4: soundness of the effects: loads, stores, addresses. -/
import Derived.Test.YtpfbpcaehmhefaaDoorBZ3
namespace Go.Proofs.YtpfbpcaehmhefaaDoorB.Sx
open Go.RowKit
set_option linter.unusedSimpArgs false
set_option linter.unusedVariables false

theorem cont_box {E : Env} {w : World} {p : Pl} {b : AB} {x : M} {F R : List Nat} (h : b.holds E w p F R) (hx : b.cont = some x) : ∃ own lx vs F0 R0, x.reads E w lx vs F0 R0 ∧ boxH own w x.e x.size p x.len vs F0 R0 F R := by
  cases b with
  | own y =>
    simp only [AB.cont, Option.some.injEq] at hx
    subst hx
    obtain ⟨_, vs, F0, R0, h1, h2⟩ := h
    exact ⟨true, false, vs, F0, R0, h1, h2⟩
  | ro y =>
    simp only [AB.cont, Option.some.injEq] at hx
    subst hx
    obtain ⟨_, vs, F0, R0, h1, h2⟩ := h
    exact ⟨false, true, vs, F0, R0, h1, h2⟩
  | _ => simp [AB.cont] at hx
/-- A known list of cells in a row. -/
theorem got_cells {E : Env} {w : World} {p : Pl} {b : AB} {x : M} {r o k : Nat} {l : List AV} {F R : List Nat} (hh : b.holds E w p F R) (hx : b.cont = some x) (h : (x.get r o k).get = some l) :
    l.length = k ∧ ∃ us, concs E l = some us ∧ ∀ j V, us[j]? = some V → w.cell? (p.addr r (o + j)) = some V := by
  obtain ⟨own, lx, vs, F0, R0, h1, h2⟩ := cont_box hh hx
  obtain ⟨_, _, _, _, c5⟩ := boxH_cells h2
  obtain ⟨g1, us, g2, g3⟩ := M.get_ok h1 h
  exact ⟨g1, us, g2, fun j V hV => c5 r (o + j) V (g3 j V hV)⟩
/-- The cells of a row that is told cell by cell. -/
theorem hol_cells {E : Env} {w : World} {p : Pl} {el : TypeId} {sh : Sh} {l : List (Den sh)} {i q : Nat} {cs : List AV} {F R : List Nat} (hh : (AB.own (.hol el sh l i q cs)).holds E w p F R) :
    ∃ pq us, E q = some pq ∧ pq.nil = false ∧ concs E cs = some us ∧ us.length = sh.size ∧ (∀ o, pq.addr 0 o = p.addr i o) ∧ ∀ j V, us[j]? = some V → w.cell? (p.addr i j) = some V := by
  obtain ⟨⟨pq, h1, h2, h3, h4⟩, vs, F0, R0, hr, hbox⟩ := hh
  obtain ⟨c1, c2, c3, c4, c5⟩ := boxH_cells hbox
  obtain ⟨v1, us, v2, F1, R1, F2, R2, rfl, rfl, rfl, hi, g1, g2, g3, g4⟩ := hr
  have l1 := rowsH_length (s := sh.size) (fun d ys F R h => hold_length false sh d ys F R h) g1
  rw [List.length_take, Nat.min_eq_left (by omega)] at l1
  refine ⟨pq, us, h1, h2, g2, g3, fun o => ?_, fun j V hV => c5 i j V ?_⟩
  · simp only [Pl.addr, h3, h4, Nat.zero_mul, Nat.add_zero, c1, M.size]
  · have hlt := (List.getElem?_eq_some_iff.1 hV).1
    show (v1 ++ us ++ v2)[i * sh.size + j]? = some V
    rw [List.append_assoc, ← l1, List.getElem?_append_right (by omega), List.getElem?_append_left (by omega), show v1.length + j - v1.length = j by omega]
    exact hV

theorem loaded_parts {agg : Bool} {l : List AV} {rd : List Nat} {up nw : Hp} {nn : Nat} {e : Eff} (h : (loaded agg l rd up nw nn).get = some e) : e.upd = up ∧ e.news = nw ∧ e.nn = nn ∧ e.reads = rd := by
  unfold loaded at h
  cases agg with
  | true => obtain rfl := get_one h; exact ⟨rfl, rfl, rfl, rfl⟩
  | false =>
    simp only [cond_false] at h
    split at h
    · obtain rfl := get_one h; exact ⟨rfl, rfl, rfl, rfl⟩
    · exact get_no h

/-- Loading a map of functions. -/
theorem load_tab {P : Program} {ty : TypeId} {d : TypeDesc} {w W0 : World} {S : Reg} {E : Env} {hp : Nat → Option AB} {A : Addr} {q : IntKind} {es : List (Int × Nat)} {fr : Nat} {e : Eff} (hes : tabG A = some (q, es)) (hd : P.underlying ty = some d) (hag : isAggD d = false) (G : Gam W0 S E hp w) (hE : E fr = none)
    (he : e.val = .mapr fr) (hn : e.news = [(fr, some (.tb q es))]) (hu : e.upd = []) (hnn : e.nn = 1 := by rfl) :
    ∃ V E', conc E' e.val = some V ∧ (Instr.loadAt ty (.pointer (some A))).run P w = .ok V w ∧ E.le E' ∧ (∀ n, E n = none → E' n ≠ none → fr ≤ n ∧ n < fr + e.nn) ∧ Gam W0 S E' (after hp e) w ∧ (e.upd = [] → e.news = [] → E' = E) := by
  obtain ⟨F, R, G⟩ := G
  unfold tabG at hes
  split at hes
  case h_2 => cases hes
  rename_i hsp
  cases ho : Nat.beq A.off 0 with
  | false => rw [ho] at hes; cases hes
  | true =>
    rw [ho, cond_true] at hes
    have ho : A.off = 0 := Nat.eq_of_beq_eq_true ho
    split at hes
    case h_2 => cases hes
    rename_i q' es' hg
    cases hes
    obtain ⟨b, h1, h2, h3, h4⟩ := G.glob _ _ hg
    have hc : CellsAt w A.block [.map (some b)] := h1.kept (G.fr.block _ h1.lt h2)
    have ht : TabAt w b q es := h3.kept (G.fr.block _ h3.lt h4)
    have hput : ∀ m x, lookO e.put m = some x → m = fr ∧ x = some (.tb q es) := by
      intro m x h
      simp only [Eff.put, hu, hn, List.nil_append] at h
      exact lookO_one h
    have hdom : ∀ n, E n = none → E.set fr { block := b } n ≠ none → fr ≤ n ∧ n < fr + e.nn := by
      intro n h h'
      by_cases e1 : n = fr
      · subst e1; rw [hnn]; omega
      · simp [Env.set, e1, h] at h'
    have hPost : Post E hp w F R fr e (E.set fr { block := b }) w (fun _ => []) (fun _ => [b]) := by
      refine ⟨Env.le_set hE _, hdom, Fr.refl _ _, ?_, fun _ _ _ => List.nodup_nil, fun _ _ _ _ hk => by simp at hk, ?_, fun _ _ _ _ _ _ _ hk => by simp at hk⟩
      · intro n c h
        obtain ⟨rfl, hc⟩ := hput n _ h
        cases hc
        exact ⟨_, Env.set_self _ _ _, rfl, rfl, ht⟩
      · intro n c k h hk
        obtain ⟨rfl, hc'⟩ := hput n _ h
        cases hc'
        simp only [List.mem_singleton] at hk
        subst hk
        exact .inr ⟨_, _, _, hg, hc⟩
    refine ⟨.map (some b), E.set fr { block := b }, by rw [he]; simp [conc, Env.set_self], ?_, Env.le_set hE _, hdom, G.apply hPost, fun _ h => by rw [hn] at h; cases h⟩
    obtain ⟨t, fz, hh⟩ := hc
    have hcell : w.cell? A = some (.map (some b)) := by
      obtain ⟨bl, off, sp⟩ := A
      simp only at ho hsp hh
      subst ho hsp
      simp [World.cell?, hh]
    simp [Instr.loadAt, Instr.sureAddr, loadVar, run_isAgg hd, hag, run_load, hcell]
theorem load_run {P : Program} {ty : TypeId} {w W0 : World} {S : Reg} {E : Env} {hp : Nat → Option AB} {e : Eff} {av : AV} {X : Value} {fr : Nat} (hv : conc E av = some X)
    (G : Gam W0 S E hp w) (hfr : ∀ n, fr ≤ n → n < fr + e.nn → E n = none) (h : (effLoad P ty av hp fr).get = some e) :
    ∃ V E', conc E' e.val = some V ∧ (Instr.loadAt ty X).run P w = .ok V w ∧ E.le E' ∧ (∀ n, E n = none → E' n ≠ none → fr ≤ n ∧ n < fr + e.nn) ∧ Gam W0 S E' (after hp e) w ∧ (e.upd = [] → e.news = [] → E' = E) := by
  unfold effLoad at h
  split at h
  case h_3 => exact get_no h
  case h_2 =>
    rename_i A
    split at h
    case h_2 => exact get_no h
    rename_i d i hd hi
    split at h
    case h_2 =>
      cases hag : isAggD d with
      | true => rw [hag] at h; exact get_no h
      | false =>
        rw [hag, cond_false] at h
        split at h
        case h_2 => exact get_no h
        rename_i q es hes
        obtain rfl := get_one h
        simp only [conc, Option.some.injEq] at hv
        subst hv
        exact load_tab hes hd hag G (hfr fr (Nat.le_refl _) (by simp)) rfl rfl rfl
    rename_i l hl
    simp only [conc, Option.some.injEq] at hv
    subst hv
    have G0 := G
    obtain ⟨F, R, G⟩ := G
    obtain ⟨g1, g2⟩ := cellsG_ok hl (w := w) (fun g o hg => G.globAt hg)
    obtain ⟨V, k1, k2, k3, k4, k5, k6⟩ := load_cells (A := A) hd hi (by simpa using g1) (concs_plain (E := E) l) g2 h
    refine ⟨V, E, k1, k2, E.le_refl, fun n h1 h2 => (h2 h1).elim, ?_, fun _ _ => rfl⟩
    rw [after_same k4 k5]
    exact G0
  rename_i n r of
  split at h
  case h_2 => exact get_no h
  rename_i d i hd hi
  simp only [conc, Option.map_eq_some_iff] at hv
  obtain ⟨pn, hpn, hv⟩ := hv
  have plain_ : ∀ {b : AB} {x : M} {l : List AV}, hp n = some b → b.cont = some x → (x.get r of (bif isAggD d then i.size else 1)).get = some l → (loaded (isAggD d) l [n] [] [] 0).get = some e →
      ∃ V E', conc E' e.val = some V ∧ (Instr.loadAt ty X).run P w = .ok V w ∧ E.le E' ∧ (∀ n, E n = none → E' n ≠ none → fr ≤ n ∧ n < fr + e.nn) ∧ Gam W0 S E' (after hp e) w ∧ (e.upd = [] → e.news = [] → E' = E) := by
    intro b x l hb hx hl h
    have G0 := G
    obtain ⟨F, R, G⟩ := G
    obtain ⟨p, hp1, hh⟩ := G.holds n b hb
    rw [hpn] at hp1
    cases hp1
    obtain ⟨g1, us, g2, g3⟩ := got_cells hh hx hl
    obtain ⟨V, k1, k2, k3, k4, k5, k6⟩ := load_cells (A := pn.addr r of) hd hi g1 g2 (fun j V hV => by rw [addr_add]; exact g3 j V hV) h
    refine ⟨V, E, k1, by rw [← hv]; exact k2, E.le_refl, fun n h1 h2 => (h2 h1).elim, ?_, fun _ _ => rfl⟩
    rw [after_same k4 k5]
    exact G0
  simp only at h
  split at h
  · -- another name of a row
    rename_i m hb
    split at h
    case h_2 => exact get_no h
    rename_i el sh l j q cs hm
    cases hc : (Nat.beq q n && Nat.beq r 0 && Nat.ble (of + (bif isAggD d then i.size else 1)) cs.length) with
    | false => rw [hc] at h; exact get_no h
    | true =>
      rw [hc] at h
      simp only [cond_true] at h
      simp only [Bool.and_eq_true] at hc
      obtain rfl := Nat.eq_of_beq_eq_true hc.1.1
      obtain rfl := Nat.eq_of_beq_eq_true hc.1.2
      have G0 := G
      obtain ⟨F, R, G⟩ := G
      obtain ⟨p, hp1, hh⟩ := G.holds m _ hm
      obtain ⟨pq, us, a1, a2, a3, a4, a5, a6⟩ := hol_cells hh
      rw [hpn] at a1
      cases a1
      obtain ⟨g1, xs, g2, g3⟩ := get_raw a3 hc.2 rfl
      obtain ⟨V, k1, k2, k3, k4, k5, k6⟩ := load_cells (A := pn.addr 0 of) hd hi g1 g2 (fun j V hV => by rw [addr_add, a5]; exact a6 _ V (g3 j V hV)) h
      refine ⟨V, E, k1, by rw [← hv]; exact k2, E.le_refl, fun n h1 h2 => (h2 h1).elim, ?_, fun _ _ => rfl⟩
      rw [after_same k4 k5]
      exact G0
  · rename_i el sh l hb
    cases hpl : sh.plainAt of (bif isAggD d then i.size else 1) with
    | true =>
      rw [hpl] at h
      simp only [cond_true] at h
      obtain ⟨x, hx, h⟩ := T.get_bindO h
      exact plain_ hb rfl hx h
    | false =>
      rw [hpl] at h
      simp only [cond_false] at h
      cases hc : Nat.ble (of + (bif isAggD d then i.size else 1)) sh.size with
      | false => rw [hc] at h; exact get_no h
      | true =>
        rw [hc] at h
        simp only [cond_true] at h
        have hc := Nat.le_of_ble_eq_true hc
        obtain ⟨h1, h⟩ := T.get_when h
        have hr : r < l.length := by simpa using h1
        rw [T.get_bind] at h
        generalize hx : (scat false sh (getR l r) (fr + 1)).get = x at h
        -- the effect's parts
        have parts : e.upd = [(n, some (.own (.hol el sh l r fr x.1)))] ∧ e.news = (fr, some (.al n)) :: x.2.1 ∧ e.nn = x.2.2 - fr := by
          obtain ⟨a, b, c, _⟩ := loaded_parts h
          exact ⟨a, b, c⟩
        obtain ⟨F, R, G⟩ := G
        obtain ⟨p, E', F', R', us, o1, o2, o3, o4, _⟩ := open_row G hb hr hx parts.1 parts.2.1 parts.2.2 hfr
        rw [hpn] at o1
        cases o1
        have hxl : x.1.length = sh.size := by
          obtain ⟨p', hp', _, vs, F0, R0, hreads, _⟩ := G.holds n _ hb
          obtain ⟨_, ys, _, _, F2, _, _, R2, _, _, _, _, _, _, h2, _⟩ := rowsH_at (s := sh.size) (fun d ys F R h => hold_length false sh d ys F R h) hreads (getR_some hr)
          rw [← hx]
          exact scat_length sh _ _
        obtain ⟨g1, xs, g2, g3⟩ := get_raw (b := of) (k := (bif isAggD d then i.size else 1)) o3 (by rw [hxl]; exact Nat.ble_eq_true_of_le hc) rfl
        obtain ⟨V, k1, k2, k3, k4, k5, k6⟩ := load_cells (A := pn.addr r of) hd hi g1 g2 (fun j V hV => by rw [addr_add]; exact o4 _ V (g3 j V hV)) h
        exact ⟨V, E', k1, by rw [← hv]; exact k2, o2.ext, o2.dom, G.apply o2, fun hu _ => by rw [parts.1] at hu; cases hu⟩
  · rename_i el sh l hb
    cases hpl : sh.plainAt of (bif isAggD d then i.size else 1) with
    | true =>
      rw [hpl] at h
      simp only [cond_true] at h
      obtain ⟨x, hx, h⟩ := T.get_bindO h
      exact plain_ hb rfl hx h
    | false =>
      rw [hpl] at h
      simp only [cond_false] at h
      cases hc : Nat.ble (of + (bif isAggD d then i.size else 1)) sh.size with
      | false => rw [hc] at h; exact get_no h
      | true =>
        rw [hc] at h
        simp only [cond_true] at h
        have hc := Nat.le_of_ble_eq_true hc
        obtain ⟨h1, h⟩ := T.get_when h
        have hr : r < l.length := by simpa using h1
        rw [T.get_bind] at h
        generalize hx : (scat true sh (getR l r) fr).get = x at h
        have parts : e.upd = [] ∧ e.news = x.2.1 ∧ e.nn = x.2.2 - fr := by
          obtain ⟨a, b, c, _⟩ := loaded_parts h
          exact ⟨a, b, c⟩
        obtain ⟨F, R, G⟩ := G
        obtain ⟨p, E', F', R', us, o1, o2, o3, o4⟩ := open_ro G hb hr hx parts.1 parts.2.1 parts.2.2 hfr
        rw [hpn] at o1
        cases o1
        have hxl : x.1.length = sh.size := by rw [← hx]; exact scat_length sh _ _
        obtain ⟨g1, xs, g2, g3⟩ := get_raw (b := of) (k := (bif isAggD d then i.size else 1)) o3 (by rw [hxl]; exact Nat.ble_eq_true_of_le hc) rfl
        obtain ⟨V, k1, k2, k3, k4, k5, k6⟩ := load_cells (A := pn.addr r of) hd hi g1 g2 (fun j V hV => by rw [addr_add]; exact o4 _ V (g3 j V hV)) h
        refine ⟨V, E', k1, by rw [← hv]; exact k2, o2.ext, o2.dom, G.apply o2, fun hu hn => ?_⟩
        -- no new names: the same
        rw [parts.2.1] at hn
        funext m
        cases hE : E m with
        | some q => exact o2.ext m q hE
        | none =>
          cases hE' : E' m with
          | none => rfl
          | some q =>
            exfalso
            have hdm := o2.dom m hE (by rw [hE']; simp)
            have hnl := scat_news true sh (getR l r) fr
            rw [hx, hn] at hnl
            rw [parts.2.2] at hdm
            simp at hnl
            omega
  · rename_i b hb1 hb2 hb3 hb
    split at h
    · rename_i x hx
      obtain ⟨l, hl, h⟩ := T.get_bindO h
      exact plain_ hb hx hl h
    · exact get_no h
  · exact get_no h

theorem load_ok {C : Cx} {ty : TypeId} {x : Operand} {o : Oper} {a : Act} {w W0 : World} {S : Reg} {E : Env} {hp : Nat → Option AB} {fr : Nat} {e : Eff} {av : AV} (ho : o.op = .load ty x) (hv : conc E av = some (a.eval x))
    (G : Gam W0 S E hp w) (hfr : ∀ n, fr ≤ n → n < fr + e.nn → E n = none) (h : (effLoad C.P ty av hp fr).get = some e) : OpOk C.P o a w W0 S E hp fr e := by
  obtain ⟨V, E', h1, h2, h3, h4, h5, _⟩ := load_run hv G hfr h
  intro next Q hnext
  unfold Oper.wp
  have : (execOp a.eval o).run C.P w = .ok (.value V) w := by simp [execOp, ho, h2]
  rw [this]
  exact hnext V w E' h1 h3 h4 h5

/-! ### Writing -/
theorem setRow_fr (w : World) (g : Nat) (X : Array Value) : Fr (fun i => i = g) w (w.setRow g X) := by
  refine ⟨rfl, rfl, rfl, by simp [World.setRow], fun k hk hne => ?_⟩
  simp only [World.setRow, Array.getElem?_modify]
  rw [if_neg (fun e => hne e.symm)]
theorem store_row {P : Program} {w : World} {e : TypeId} {size n : Nat} {p : Pl} {vs us : List Value} {off : Nat} (h : rowAt w e size p n vs) (hnil : p.nil = false) (hle : off + us.length ≤ n * size) (h1 : ∀ u ∈ us, u.oneCell' = true) :
    ∃ w', (storeCells ⟨p.block, p.base + off, none⟩ us 0).run P w = .ok () w' ∧ rowAt w' e size p n (vs.take off ++ us ++ vs.drop (off + us.length)) ∧ Fr (fun i => i = p.block) w w' := by
  obtain ⟨a1, a2, a3, a4⟩ := h
  rcases a4 with ⟨hn, _⟩ | ⟨_, cur, g1, g2, g3, g4, g5⟩
  · rw [hnil] at hn; cases hn
  have hmc : n * size ≤ p.cap * size := Nat.mul_le_mul_right _ g2
  have hsto := run_storeCells_at P p.block (p.base + off) e us 0 cur w g1 (by omega) h1
  simp only [Nat.add_zero] at hsto
  refine ⟨_, hsto, ⟨?_, a2, a3, .inr ⟨hnil, _, setRow_heap w p.block cur _ e (0, 0) g1, g2, g3, ?_, ?_⟩⟩, setRow_fr _ _ _⟩
  · simp only [List.length_append, List.length_take, List.length_drop, a1]; omega
  · have hcl : cur.toList.length = cur.size := by simp
    simp only [List.size_toArray, List.length_append, List.length_take, List.length_drop, hcl]
    omega
  · have hcl : cur.toList.length = cur.size := by simp
    simp only [List.toList_toArray]
    rw [← g5]
    apply List.ext_getElem?
    intro k
    simp only [List.getElem?_take, List.getElem?_drop, List.getElem?_append, List.length_append, List.length_take, List.length_drop, hcl, Nat.min_eq_left (show p.base + off ≤ cur.size by omega)]
    have e1 : min off (min (n * size) (cur.size - p.base)) = off := by omega
    rw [e1]
    by_cases k0 : k < n * size
    · by_cases k1 : k < off
      · have k2 : k < off + us.length := by omega
        have k3 : p.base + k < p.base + off := by omega
        have k4 : p.base + k < p.base + off + us.length := by omega
        simp only [k0, k1, k2, k3, k4, if_true]
      · by_cases k2 : k < off + us.length
        · have k3 : ¬ p.base + k < p.base + off := by omega
          have k4 : p.base + k < p.base + off + us.length := by omega
          simp only [k0, k1, k2, k3, k4, if_true, if_false]
          congr 1; omega
        · have k4 : ¬ p.base + k < p.base + off + us.length := by omega
          have k5 : off + us.length + (k - (off + us.length)) = k := by omega
          simp only [k0, k2, k4, k5, if_true, if_false]
          congr 1; omega
    · have k1 : ¬ k < off := by omega
      have k2 : ¬ k < off + us.length := by omega
      have k5 : off + us.length + (k - (off + us.length)) = k := by omega
      simp only [k0, k2, k5, if_false]

/-- One block turned in place. -/
theorem Post.turn {E : Env} {hp : Nat → Option AB} {w w' : World} {F R : Nat → List Nat} {lo : Nat} {e : Eff} {n : Nat} {b b' : AB} {p : Pl} {F1 R1 : List Nat} (hb : hp n = some b) (hE : E n = some p) (hu : e.upd = [(n, some b')]) (hn : e.news = [])
    (hw : Fr (fun i => i ∈ F n) w w') (hh : b'.holds E w' p F1 R1) (hF : ∀ k ∈ F1, k ∈ F n) (hR : ∀ k ∈ R1, k ∈ R n) (hnd : F1.Nodup) : Post E hp w F R lo e E w' (fun _ => F1) (fun _ => R1) := by
  have hput : ∀ m x, lookO e.put m = some x → m = n ∧ x = some b' := by
    intro m x h
    simp only [Eff.put, hu, hn, List.append_nil] at h
    exact lookO_one h
  have ht : ∀ k, k ∈ F n → touched hp F e k := fun k hk => ⟨n, b, by simp [hu, lookO], hb, hk⟩
  refine ⟨E.le_refl, fun m h h' => (h' h).elim, hw.mono (fun i hi => ht i hi), ?_, ?_, ?_, ?_, ?_⟩
  · intro m c h
    obtain ⟨rfl, hc⟩ := hput m _ h
    cases hc
    exact ⟨p, hE, hh⟩
  · intro m c h; exact hnd
  · intro m c k h hk; exact .inl (ht k (hF k hk))
  · intro m c k h hk; exact .inl ⟨n, b, hb, hR k hk⟩
  · intro m m' c c' k h h' _ _
    exact (hput m _ h).1.trans (hput m' _ h').1.symm

theorem decF_ok {w : World} {lx : Bool} {E : Env} : ∀ (sh : Sh) (cs : List AV) (d : Den sh) (vs : List Value), decF sh cs = some d → concs E cs = some vs → hold w lx sh d vs [] []
  | .nil, cs, d, vs, h, hc => by
    cases cs with
    | nil => simp only [concs, Option.some.injEq] at hc; subst hc; exact ⟨rfl, rfl, rfl⟩
    | cons _ _ => simp [decF] at h
  | .sc c r, cs, d, vs, h, hc => by
    cases cs with
    | nil => simp [decF] at h
    | cons v us =>
      simp only [decF] at h
      split at h
      case h_2 => cases h
      rename_i x d' hx hd
      simp only [Option.some.injEq] at h
      subst h
      obtain ⟨V, Vs, h1, h2, rfl⟩ := concs_cons.1 hc
      obtain ⟨y, hy, hy2⟩ := Option.bind_eq_some_iff.1 hx
      rw [plain_conc hy E] at h1
      cases h1
      obtain ⟨g1, g2⟩ := Ck.dec_enc hy2
      refine ⟨Vs, by rw [prHd_mk, g1], by rw [prHd_mk, g1]; exact g2, ?_⟩
      rw [prTl_mk]
      exact decF_ok r us d' Vs hd h2
  | .sl .., cs, d, vs, h, hc => by cases cs <;> simp [decF] at h
  | .pt .., cs, d, vs, h, hc => by cases cs <;> simp [decF] at h
  | .po .., cs, d, vs, h, hc => by cases cs <;> simp [decF] at h
  | .ag .., cs, d, vs, h, hc => by cases cs <;> simp [decF] at h
  | .mp .., cs, d, vs, h, hc => by cases cs <;> simp [decF] at h
theorem flat_nil {w : World} {lx : Bool} : ∀ (sh : Sh) (o k : Nat) (d : Den sh) (ys : List Value) (F R : List Nat), sh.plainAt 0 sh.size = true → hold w lx sh d ys F R → F = [] ∧ R = []
  | .nil, o, k, d, ys, F, R, hp, h => ⟨h.2.1, h.2.2⟩
  | .sc c r, o, k, d, ys, F, R, hp, h => by
    obtain ⟨vs', _, _, h3⟩ := h
    exact flat_nil r o k _ _ _ _ (by simpa [Sh.plainAt, Sh.size] using hp) h3
  | .sl .., o, k, d, ys, F, R, hp, h => by simp [Sh.plainAt, Sh.size] at hp
  | .pt .., o, k, d, ys, F, R, hp, h => by simp [Sh.plainAt, Sh.size] at hp
  | .po .., o, k, d, ys, F, R, hp, h => by simp [Sh.plainAt, Sh.size] at hp
  | .ag .., o, k, d, ys, F, R, hp, h => by simp [Sh.plainAt, Sh.size] at hp
  | .mp .., o, k, d, ys, F, R, hp, h => by simp [Sh.plainAt, Sh.size] at hp

theorem M.put_ok {E : Env} {w : World} {x y : M} {vs : List Value} {F R : List Nat} (h : x.reads E w false vs F R) {r o : Nat} {l : List AV} {us : List Value} (hl : concs E l = some us) (hvl : vs.length = x.len * x.size) (hp : (x.put r o l).get = some y) :
    y.e = x.e ∧ y.size = x.size ∧ y.len = x.len ∧ (∀ E' p, x.links E' p → y.links E' p) ∧ (us = [] ∨ r * x.size + o + us.length ≤ vs.length) ∧ y.reads E w false (vs.take (r * x.size + o) ++ us ++ vs.drop (r * x.size + o + us.length)) F R := by
  have hul := concs_length hl
  cases x with
  | raw e s cs =>
    simp only [M.put] at hp
    have hp := pickN_get hp
    simp only [T.get] at hp
    cases hb : Nat.ble (r * s + o + l.length) cs.length with
    | false => rw [hb] at hp; cases hp
    | true =>
      rw [hb] at hp
      simp only [cond_true, Option.some.injEq] at hp
      subst hp
      have hb := Nat.le_of_ble_eq_true hb
      obtain ⟨hc, rfl, rfl⟩ := h
      have hcl := concs_length hc
      refine ⟨rfl, rfl, ?_, fun _ _ _ => trivial, .inr ?_, ?_, rfl, rfl⟩
      · simp only [M.len, List.length_append, List.length_take, List.length_drop]
        congr 1; omega
      · simp only [M.size]; omega
      · rw [hul]
        exact concs_append.2 ⟨_, _, concs_append.2 ⟨_, _, concs_take _ hc, hl, rfl⟩, concs_drop _ hc, rfl⟩
  | rows e sh ds =>
    simp only [M.put] at hp
    cases hb : (sh.flat && Nat.ble (o + l.length) sh.size) with
    | false => rw [hb] at hp; exact get_none hp
    | true =>
      rw [hb] at hp
      simp only [cond_true] at hp
      simp only [Bool.and_eq_true] at hb
      have hb2 := Nat.le_of_ble_eq_true hb.2
      split at hp
      case h_2 => exact get_none hp
      rename_i d hd
      obtain ⟨h1, h2⟩ := T.get_when hp
      simp only [T.get, Option.some.injEq] at h2
      subst h2
      have hr : r < ds.length := by simpa using h1
      obtain ⟨v1, ys, v2, F1, F2, F3, R1, R2, R3, rfl, rfl, rfl, l1, g1, g2, g3⟩ := rowsH_at (s := sh.size) (fun d ys F R h => hold_length false sh d ys F R h) h (getR_some hr)
      have hyl := hold_length false sh _ _ _ _ g2
      obtain ⟨q1, _⟩ := plainAt_ok sh _ _ _ _ 0 sh.size g2 hb.1
      simp only [List.drop_zero] at q1
      rw [List.take_of_length_le (by rw [encF_length]; exact Nat.le_refl _), List.take_of_length_le (by rw [hyl]; exact Nat.le_refl _)] at q1
      rw [q1] at hd
      obtain ⟨rfl, rfl⟩ := flat_nil sh 0 0 _ _ _ _ hb.1 g2
      have hnew := decF_ok (w := w) (lx := false) sh _ d _ hd (concs_append.2 ⟨_, _, concs_append.2 ⟨_, _, concs_take o (concs_plain ys), hl, rfl⟩, concs_drop (o + l.length) (concs_plain ys), rfl⟩)
      refine ⟨rfl, rfl, by simp [M.len], fun _ _ _ => trivial, .inr ?_, ?_⟩
      · simp only [M.size, List.length_append, l1, hyl]; omega
      · show rowsH _ (ds.set r d) _ _ _
        rw [List.set_eq_take_append_cons_drop, if_pos hr]
        refine rowsH_append.2 ⟨v1, (ys.take o ++ us ++ ys.drop (o + l.length)) ++ v2, F1, [] ++ F3, R1, [] ++ R3, ?_, rfl, rfl, g1, _, v2, [], F3, [], R3, rfl, rfl, rfl, hnew, g3⟩
        simp only [M.size]
        rw [← l1, hul]
        rw [List.take_length_add_append, List.take_append_of_le_length (by omega)]
        rw [show v1.length + o + l.length = v1.length + (o + l.length) by omega, List.drop_length_add_append, List.drop_append_of_le_length (by omega)]
        simp [List.append_assoc]
  | hol e sh ds i q cs =>
    simp only [M.put] at hp
    obtain ⟨h1, h2⟩ := T.get_when hp
    simp only [T.get, Option.some.injEq] at h2
    subst h2
    simp only [decide_eq_true_eq] at h1
    obtain ⟨rfl, hb⟩ := h1
    obtain ⟨v1, us0, v2, F1, R1, F2, R2, rfl, rfl, rfl, h0, h1, h2, h3, h4⟩ := h
    have l1 := rowsH_length (s := sh.size) (fun d ys F R h => hold_length false sh d ys F R h) h1
    rw [List.length_take, Nat.min_eq_left (by omega)] at l1
    have hcl := concs_length h2
    refine ⟨rfl, rfl, rfl, fun _ _ h => h, .inr ?_, v1, us0.take o ++ us ++ us0.drop (o + l.length), v2, F1, R1, F2, R2, ?_, rfl, rfl, h0, h1, concs_append.2 ⟨_, _, concs_append.2 ⟨_, _, concs_take _ h2, hl, rfl⟩, concs_drop _ h2, rfl⟩, ?_, h4⟩
    · simp only [M.size, List.length_append, l1]; omega
    · simp only [M.size]
      have e1 : (v1 ++ us0 ++ v2).take (r * sh.size + o) = v1 ++ us0.take o := by
        rw [List.append_assoc, ← l1, List.take_length_add_append, List.take_append_of_le_length (by omega)]
      have e2 : (v1 ++ us0 ++ v2).drop (r * sh.size + o + us.length) = us0.drop (o + l.length) ++ v2 := by
        rw [List.append_assoc, ← l1, Nat.add_assoc, List.drop_length_add_append, List.drop_append_of_le_length (by omega), hul]
      rw [e1, e2]
      simp [List.append_assoc]
    · simp only [List.length_append, List.length_take, List.length_drop, hul, h3]
      omega

/-- Cells stored in a row of one's own. -/
theorem store_put {C : Cx} {ty : TypeId} {x y : Operand} {o : Oper} {a : Act} {w W0 : World} {S : Reg} {E : Env} {hp : Nat → Option AB} {F R : Nat → List Nat} {n r of : Nat} {xv : AV} {i : TypeInfo} {pn : Pl} {z z' : M} (ho : o.op = .store ty x y) (hv : (Value.pointer (some (pn.addr r of))) = a.eval x) (hx : conc E xv = some (a.eval y))
    (hi : C.P.info? ty = some i) (h1 : (acells xv).length = i.size) (hone : allOne (acells xv) = true) (G : Gf W0 S E hp w F R) (hpn : E n = some pn) (hb : hp n = some (.own z)) (hz : (z.put r of (acells xv)).get = some z') :
    ∃ w' F1 R1, (execOp a.eval o).run C.P w = .ok .skip w' ∧ ∀ lo (e : Eff), e.upd = [(n, some (.own z'))] → e.news = [] → Post E hp w F R lo e E w' (fun _ => F1) (fun _ => R1) := by
  have hxc := acells_conc hx
  have hxl := concs_length hxc
  have hones := ones_conc hxc hone
  have hsz : (a.eval y).cells.size = i.size := by rw [← h1, ← hxl]; simp
  have run_ : ∀ {el : TypeId} {size m : Nat} {p : Pl} {vs : List Value} {off : Nat}, rowAt w el size p m vs → pn.addr r of = ⟨p.block, p.base + off, none⟩ → p.nil = false → off + (a.eval y).cells.toList.length ≤ m * size →
      ∃ w', (execOp a.eval o).run C.P w = .ok .skip w' ∧ rowAt w' el size p m (vs.take off ++ (a.eval y).cells.toList ++ vs.drop (off + (a.eval y).cells.toList.length)) ∧ Fr (fun i => i = p.block) w w' := by
    intro el size m p vs off hrow haddr hnil hle
    obtain ⟨w', g1, g2, g3⟩ := store_row (P := C.P) hrow hnil hle hones
    refine ⟨w', ?_, g2, g3⟩
    simp only [execOp, ho, ← hv, Instr.storeAt, Instr.sureAddr, storeVar, haddr]
    simp only [Sem.run_bind, Sem.run_pure, Result.andThen_ok, run_sizeOf hi, hsz, ne_eq, not_true, if_false, g1]
  obtain ⟨p, hp1, hh⟩ := G.holds n _ hb
  have hnd := G.nodup n _ hb
  obtain ⟨hlk, vs, F0, R0, hr, hbox⟩ := hh
  obtain ⟨c1, c2, c3, c4, c5⟩ := boxH_cells hbox
  rw [hpn] at hp1
  cases hp1
  obtain ⟨m1, m2, m3, m4, m5, m6⟩ := M.put_ok hr hxc c3 hz
  obtain ⟨hrow, hF, hR⟩ := hbox
  have kept_ : ∀ {w' : World} {vs' : List Value}, Fr (fun i => i = pn.block) w w' → pn.nil = false → z'.reads E w false vs' F0 R0 → z'.reads E w' false vs' F0 R0 := by
    intro w' vs' q3 hnil h
    have lt := M.reads_lt h
    refine M.reads_kept E.le_refl h (fun k hk => q3.block k (lt.1 k hk) ?_) (fun k hk => q3.block k (lt.2 k hk) ?_)
    · intro e0
      rw [hF, List.nodup_append] at hnd
      exact hnd.2.2 k (by rw [e0]; simp [blkO, hnil]) k hk rfl
    · intro e0
      have hkF : k ∈ F n := by rw [hF, e0]; simp [blkO, hnil]
      have hkR : k ∈ R n := by rw [hR]; exact hk
      rcases G.feet n _ k hb hkF with h5 | h5
      · exact (G.old n _ k hb hkR).2 h5
      · have := (G.old n _ k hb hkR).1; omega
  by_cases hz0 : (a.eval y).cells.toList = []
  · -- nothing is stored
    have hstore : (execOp a.eval o).run C.P w = .ok .skip w := by
      simp only [execOp, ho, ← hv, Instr.storeAt, Instr.sureAddr, storeVar]
      simp only [Sem.run_bind, Sem.run_pure, Result.andThen_ok, run_sizeOf hi, hsz, ne_eq, not_true, if_false, hz0, storeCells]
    have e1 : vs.take (r * z.size + of) ++ ([] : List Value) ++ vs.drop (r * z.size + of + 0) = vs := by simp
    rw [hz0] at m6
    simp only [List.length_nil] at m6
    rw [e1] at m6
    exact ⟨w, _, _, hstore, fun lo e hu hn => Post.turn hb hpn hu hn ⟨rfl, rfl, rfl, Nat.le_refl _, fun _ _ _ => rfl⟩ ⟨m4 _ _ hlk, vs, F0, R0, m6, by rw [m1, m2, m3]; exact ⟨hrow, hF, hR⟩⟩ (fun k hk => hk) (fun k hk => hk) hnd⟩
  · have hle : r * z.size + of + (a.eval y).cells.toList.length ≤ vs.length := m5.resolve_left hz0
    have hnil : pn.nil = false := by
      cases hn : pn.nil with
      | false => rfl
      | true =>
        have := c4 hn
        rw [this, Nat.zero_mul] at c3
        have : 0 < (a.eval y).cells.toList.length := List.length_pos_iff.2 hz0
        omega
    obtain ⟨w', q1, q2, q3⟩ := run_ hrow (off := r * z.size + of) (by simp [Pl.addr, c1, Nat.add_assoc]) hnil (by rw [← c3]; exact hle)
    exact ⟨w', _, _, q1, fun lo e hu hn => Post.turn hb hpn hu hn (q3.mono (fun k hk => by rw [hF, hk]; simp [blkO, hnil])) ⟨m4 _ _ hlk, _, F0, R0, kept_ q3 hnil m6, by rw [m1, m2, m3]; exact ⟨q2, hF, hR⟩⟩ (fun k hk => hk) (fun k hk => hk) hnd⟩
theorem store_ok {C : Cx} {ty : TypeId} {x y : Operand} {o : Oper} {a : Act} {w W0 : World} {S : Reg} {E : Env} {hp : Nat → Option AB} {lo : Nat} {e : Eff} {av xv : AV} (ho : o.op = .store ty x y) (hv : conc E av = some (a.eval x)) (hx : conc E xv = some (a.eval y))
    (G : Gam W0 S E hp w) (hfr : ∀ n, lo ≤ n → n < lo + e.nn → E n = none) (h : (effStore C.P ty av xv hp lo).get = some e) : OpOk C.P o a w W0 S E hp lo e := by
  unfold effStore at h
  split at h
  case h_2 => exact get_no h
  rename_i n r of
  split at h
  case h_2 => exact get_no h
  rename_i i hi
  cases hbe : (Nat.beq (acells xv).length i.size && allOne (acells xv)) with
  | false => rw [hbe] at h; exact get_no h
  | true =>
    rw [hbe] at h
    simp only [cond_true] at h
    simp only [Bool.and_eq_true] at hbe
    have h1 := Nat.eq_of_beq_eq_true hbe.1
    have hxc := acells_conc hx
    have hxl := concs_length hxc
    have hones := ones_conc hxc hbe.2
    have hsz : (a.eval y).cells.size = i.size := by rw [← h1, ← hxl]; simp
    simp only [conc, Option.map_eq_some_iff] at hv
    obtain ⟨pn, hpn, hv⟩ := hv
    obtain ⟨F, R, G⟩ := G
    -- the store itself
    have run_ : ∀ {el : TypeId} {size m : Nat} {p : Pl} {vs : List Value} {off : Nat}, rowAt w el size p m vs → pn.addr r of = ⟨p.block, p.base + off, none⟩ → p.nil = false → off + (a.eval y).cells.toList.length ≤ m * size →
        ∃ w', (execOp a.eval o).run C.P w = .ok .skip w' ∧ rowAt w' el size p m (vs.take off ++ (a.eval y).cells.toList ++ vs.drop (off + (a.eval y).cells.toList.length)) ∧ Fr (fun i => i = p.block) w w' := by
      intro el size m p vs off hrow haddr hnil hle
      obtain ⟨w', g1, g2, g3⟩ := store_row (P := C.P) hrow hnil hle hones
      refine ⟨w', ?_, g2, g3⟩
      simp only [execOp, ho, ← hv, Instr.storeAt, Instr.sureAddr, storeVar, haddr]
      simp only [Sem.run_bind, Sem.run_pure, Result.andThen_ok, run_sizeOf hi, hsz, ne_eq, not_true, if_false, g1]
    split at h
    · rename_i m hb
      split at h
      case h_2 => exact get_no h
      rename_i el sh l j q cs hm
      cases hc : (Nat.beq q n && Nat.beq r 0 && Nat.ble (of + (acells xv).length) cs.length) with
      | false => rw [hc] at h; exact get_no h
      | true =>
        rw [hc] at h
        simp only [cond_true] at h
        simp only [Bool.and_eq_true] at hc
        obtain rfl := Nat.eq_of_beq_eq_true hc.1.1
        obtain rfl := Nat.eq_of_beq_eq_true hc.1.2
        have hc2 := Nat.le_of_ble_eq_true hc.2
        obtain rfl := get_one h
        obtain ⟨p, hp1, hh⟩ := G.holds m _ hm
        have hnd := G.nodup m _ hm
        obtain ⟨⟨pq, b1, b2, b3, b4⟩, vs, F0, R0, hr, hbox⟩ := hh
        obtain ⟨c1, c2, c3, c4, c5⟩ := boxH_cells hbox
        obtain ⟨v1, us, v2, F1, R1, F2, R2, rfl, rfl, rfl, hj, g1, g2, g3, g4⟩ := hr
        have l1 := rowsH_length (s := sh.size) (fun d ys F R h => hold_length false sh d ys F R h) g1
        have l2 := rowsH_length (s := sh.size) (fun d ys F R h => hold_length false sh d ys F R h) g4
        rw [List.length_take, Nat.min_eq_left (by omega)] at l1
        rw [hpn] at b1
        cases b1
        obtain ⟨hrow, hF, hR⟩ := hbox
        have hcl := concs_length g2
        have hnil : p.nil = false := by
          cases hn : p.nil with
          | false => rfl
          | true => have := c4 hn; simp only [M.len] at this; omega
        have hlen : (a.eval y).cells.toList.length = (acells xv).length := hxl
        have hw : j * sh.size + of + (acells xv).length ≤ l.length * sh.size := by
          have h5 : (j + 1) * sh.size ≤ l.length * sh.size := Nat.mul_le_mul_right _ hj
          rw [Nat.add_mul, Nat.one_mul] at h5
          omega
        obtain ⟨w', q1, q2, q3⟩ := run_ hrow (off := j * sh.size + of) (by simp [Pl.addr, b3, b4, Nat.add_assoc]) hnil (by rw [hlen]; exact hw)
        refine OpOk.post' G q1 rfl (Post.turn (F1 := blkO p ++ (F1 ++ F2)) (R1 := R1 ++ R2) hm hp1 rfl rfl (q3.mono (fun k hk => by rw [hF, hk]; simp [blkO, hnil])) ⟨⟨pn, hpn, b2, b3, b4⟩, v1 ++ (us.take of ++ (a.eval y).cells.toList ++ us.drop (of + (acells xv).length)) ++ v2, F1 ++ F2, R1 ++ R2, ?_, ?_, rfl, rfl⟩ (fun k hk => by rw [hF]; exact hk) (fun k hk => by rw [hR]; exact hk) (by rw [hF] at hnd; exact hnd))
        · have hrd : ∀ {ds : List (Den sh)} {xs : List Value} {F' R' : List Nat}, rowsH (hold w false sh) ds xs F' R' → (∀ k ∈ F', k ∈ F1 ++ F2) → (∀ k ∈ R', k ∈ R1 ++ R2) → rowsH (hold w' false sh) ds xs F' R' := by
            intro ds xs F' R' h hF' hR'
            have lt := rowsH_lt (w := w) (fun d ys F R h => hold_lt false sh d ys F R h) h
            refine rowsH_imp h (fun d ys Fa Ra ha hb hc => hold_kept false sh d ys Fa Ra hc (fun k hk => q3.block k (lt.1 k (ha k hk)) ?_) (fun k hk => q3.block k (lt.2 k (hb k hk)) ?_))
            · intro e0
              rw [hF, List.nodup_append] at hnd
              exact hnd.2.2 k (by rw [e0]; simp [blkO, hnil]) k (hF' k (ha k hk)) rfl
            · intro e0
              have hkF : k ∈ F m := by rw [hF, e0]; simp [blkO, hnil]
              have hkR : k ∈ R m := by rw [hR]; exact hR' k (hb k hk)
              rcases G.feet m _ k hm hkF with h5 | h5
              · exact (G.old m _ k hm hkR).2 h5
              · have := (G.old m _ k hm hkR).1; omega
          refine ⟨v1, us.take of ++ (a.eval y).cells.toList ++ us.drop (of + (acells xv).length), v2, F1, R1, F2, R2, rfl, rfl, rfl, hj, hrd g1 (fun k hk => by simp [hk]) (fun k hk => by simp [hk]), ?_, ?_, hrd g4 (fun k hk => by simp [hk]) (fun k hk => by simp [hk])⟩
          · exact concs_append.2 ⟨_, _, concs_append.2 ⟨_, _, concs_take _ g2, hxc, rfl⟩, concs_drop _ g2, rfl⟩
          · simp only [List.length_append, List.length_take, List.length_drop, hlen, g3]
            rw [← hcl, g3] at hc2
            omega
        · rw [hlen] at q2
          have e1 : (v1 ++ us ++ v2).take (j * sh.size + of) = v1 ++ us.take of := by
            rw [List.append_assoc, ← l1, List.take_length_add_append, List.take_append_of_le_length (by omega)]
          have e2 : (v1 ++ us ++ v2).drop (j * sh.size + of + (acells xv).length) = us.drop (of + (acells xv).length) ++ v2 := by
            rw [List.append_assoc, ← l1, Nat.add_assoc, List.drop_length_add_append, List.drop_append_of_le_length (by omega)]
          rw [e1, e2] at q2
          show rowAt w' el sh.size p l.length _
          simpa [List.append_assoc, M.size, M.len, M.e] using q2
    · rename_i el sh l hb
      cases hfl : sh.flat with
      | true =>
        rw [hfl] at h
        simp only [cond_true] at h
        obtain ⟨z', hz, rfl⟩ := T.get_mapO h
        obtain ⟨w', F1, R1, q1, q2⟩ := store_put (C := C) ho hv hx hi h1 hbe.2 G hpn hb hz
        exact OpOk.post' G q1 rfl (q2 lo _ rfl rfl)
      | false =>
        rw [hfl] at h
        simp only [cond_false] at h
        cases hc : Nat.ble (of + (acells xv).length) sh.size with
        | false => rw [hc] at h; exact get_no h
        | true =>
          rw [hc] at h
          simp only [cond_true] at h
          have hc := Nat.le_of_ble_eq_true hc
          obtain ⟨hrl, h⟩ := T.get_when h
          have hr : r < l.length := by simpa using hrl
          rw [T.get_bind] at h
          generalize hz : (scat false sh (getR l r) (lo + 1)).get = z at h
          obtain rfl := get_one h
          let e1 : Eff := { val := .v undef, upd := [(n, some (.own (.hol el sh l r lo z.1)))], news := (lo, some (.al n)) :: z.2.1, nn := z.2.2 - lo }
          obtain ⟨p, E', F', R', us, o1, o2, o3, o4, _⟩ := open_row (e := e1) G hb hr hz rfl rfl rfl hfr
          rw [hpn] at o1
          cases o1
          have hpn' : E' n = some pn := o2.ext n pn hpn
          have hzl : z.1.length = sh.size := by rw [← hz]; exact scat_length sh _ _
          have hb1 : after hp e1 n = some (.own (.hol el sh l r lo z.1)) := by
            simp [after, Eff.put, e1, lookO]
          obtain ⟨F2, R2, G2⟩ := G.apply o2
          obtain ⟨w', F3, R3, q1, q2⟩ := store_put (C := C) (E := E') (hp := after hp e1) (n := n) (z := .hol el sh l r lo z.1) (z' := .hol el sh l r lo (z.1.take of ++ acells xv ++ z.1.drop (of + (acells xv).length))) ho hv (conc_mono o2.ext _ _ hx) hi h1 hbe.2 G2 hpn' hb1 (by
            simp only [M.put]
            rw [hzl]
            have : decide (True ∧ of + (acells xv).length ≤ sh.size) = true := by simpa using hc
            rw [this]; rfl)
          intro next Q hnext
          unfold Oper.wp
          rw [q1]
          refine hnext undef w' E' rfl o2.ext o2.dom ?_
          have G3 := G2.apply (q2 lo { val := .v undef, upd := [(n, some (.own (.hol el sh l r lo (z.1.take of ++ acells xv ++ z.1.drop (of + (acells xv).length)))))] } rfl rfl)
          have heq : after (after hp e1) { val := .v undef, upd := [(n, some (.own (.hol el sh l r lo (z.1.take of ++ acells xv ++ z.1.drop (of + (acells xv).length)))))] } = after hp { val := .v undef, reads := [n], upd := [(n, some (.own (.hol el sh l r lo (z.1.take of ++ acells xv ++ z.1.drop (of + (acells xv).length)))))], news := (lo, some (.al n)) :: z.2.1, nn := z.2.2 - lo } := by
            funext m
            simp only [after, Eff.put, e1, List.append_nil, List.cons_append, List.nil_append, lookO]
            cases hq : Nat.beq n m <;> rfl
          rw [heq] at G3
          exact G3
    · rename_i z hb0 hb
      obtain ⟨z', hz, rfl⟩ := T.get_mapO h
      obtain ⟨w', F1, R1, q1, q2⟩ := store_put (C := C) ho hv hx hi h1 hbe.2 G hpn hb hz
      exact OpOk.post' G q1 rfl (q2 lo _ rfl rfl)
    · exact get_no h
end Go.Proofs.YtpfbpcaehmhefaaDoorB.Sx
