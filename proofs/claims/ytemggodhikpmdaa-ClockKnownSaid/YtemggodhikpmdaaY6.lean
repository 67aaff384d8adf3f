/- The engine, part 6: appending, calls; every effect is sound, and looks at nothing but the names that it lists. -/
import Derived.Test.YtemggodhikpmdaaY5
namespace Go.Proofs.Ytemggodhikpmdaa.Sx
open Go.RowKit
set_option linter.unusedSimpArgs false
set_option linter.unusedVariables false

/-! ### The rows that a slice shows -/
theorem rows_ok {P : Program} {x : AV} {X : Value} {size : Nat} {E : Env} {hp : Nat → Option AB} {w : World} {y : M} {ns : List Nat} (hs : 0 < size) (hx : conc E x = some X) (G : ∀ n b, hp n = some b → ∃ p, E n = some p ∧ b.holds E w p)
    (h : (rowsOf x size hp).get = some (y, ns)) : y.size = size ∧ ∃ vs, concs E y.flat = some vs ∧ vs.length = y.len * size ∧ (∀ w' : World, (Builtin.lenOf X).run P w' = .ok y.len w') ∧
      (∀ w' : World, w'.heap = w.heap → (Builtin.firstCells size y.len X).run P w' = .ok vs.toArray w') := by
  unfold rowsOf at h
  split at h
  · rename_i n r of len c
    split at h
    case h_2 => simp [T.get] at h
    rename_i z hz
    obtain ⟨b, hb, hz⟩ := Option.bind_eq_some_iff.1 hz
    obtain ⟨p, hp1, hbh⟩ := G n b hb
    simp only [conc, hp1, Option.map_some, Option.some.injEq] at hx
    have hlenX : ∀ w' : World, (Builtin.lenOf X).run P w' = .ok len w' := by intro w'; rw [← hx]; rfl
    obtain ⟨hstr, hnil, hcells⟩ := cont_cells hbh hz
    -- a list of cells at the slice's address
    have fin : ∀ (l : List AV), l.length = len * size → (∀ j v, l[j]? = some v → ∃ V, conc E v = some V ∧ w.cell? (p.addr r (of + j)) = some V) → (p.nil = true → l = []) →
        ∃ vs, concs E l = some vs ∧ vs.length = len * size ∧ (∀ w' : World, w'.heap = w.heap → (Builtin.firstCells size len X).run P w' = .ok vs.toArray w') := by
      intro l hl hc hn
      obtain ⟨vs, hvs, hvc⟩ := concs_of_cells (E := E) (g := fun j V => w.cell? (p.addr r j) = some V) (a := l) (k := of) hc
      refine ⟨vs, hvs, (concs_length hvs).trans hl, fun w' hw' => ?_⟩
      rw [← hx]
      cases hpn : p.nil with
      | true =>
        have := hn hpn
        subst this
        simp only [concs, Option.some.injEq] at hvs
        subst hvs
        simp [Pl.ptr, hpn, Builtin.firstCells]
      | false =>
        have hptr : p.ptr r of = some (p.addr r of) := by simp [Pl.ptr, hpn]
        rw [hptr]
        refine run_firstCells_some (P := P) w' size len (p.addr r of) len _ vs ((concs_length hvs).trans hl) (fun j v hv => ?_)
        have := hvc j v hv
        rw [addr_add]
        unfold World.cell? at this ⊢
        rw [hw']
        exact this
    cases hq : (Nat.beq z.size size && Nat.beq of 0) with
    | true =>
      rw [hq] at h
      simp only [cond_true] at h
      simp only [Bool.and_eq_true] at hq
      have h1 := Nat.eq_of_beq_eq_true hq.1
      have h2 := Nat.eq_of_beq_eq_true hq.2
      subst h1 h2
      obtain ⟨z', hz', he⟩ := T.get_mapO h
      simp only [Prod.mk.injEq] at he
      obtain ⟨rfl, rfl⟩ := he
      obtain ⟨e1, e2, e3, e4, e5⟩ := M.sub_ok hz'
      have hzl : z'.flat.length = len * z.size := by
        rw [e5, List.length_take, List.length_drop]
        rw [Nat.add_mul] at e4
        omega
      obtain ⟨vs, g1, g2, g3⟩ := fin z'.flat hzl (fun j v hv => by
        rw [e5, List.getElem?_take] at hv
        split at hv
        · rw [List.getElem?_drop] at hv
          have := hcells r j v hv
          rwa [Nat.zero_add]
        · cases hv) (fun hn => by
          have hz0 : z.flat = [] := by
            cases hzf : z.flat with
            | nil => rfl
            | cons a l => have := hnil (by rw [hzf]; simp); rw [this] at hn; cases hn
          rw [e5, hz0]; simp)
      exact ⟨e2, vs, g1, by rw [e3]; exact g2, by rw [e3]; exact hlenX, by rw [e3]; exact g3⟩
    | false =>
      rw [hq] at h
      simp only [cond_false] at h
      obtain ⟨l, hl, he⟩ := T.get_mapO h
      simp only [Prod.mk.injEq] at he
      obtain ⟨rfl, rfl⟩ := he
      obtain ⟨e1, e2⟩ := M.get_ok hl
      have hlen : (M.raw 0 size l).len = len := by simp [M.len, e1, Nat.mul_div_cancel _ hs]
      obtain ⟨vs, g1, g2, g3⟩ := fin l e1 (fun j v hv => hcells r (of + j) v (e2 j v hv)) (fun hn => by
          have hz0 : z.flat = [] := by
            cases hzf : z.flat with
            | nil => rfl
            | cons a l => have := hnil (by rw [hzf]; simp); rw [this] at hn; cases hn
          cases hl0 : l with
          | nil => rfl
          | cons a l' =>
            have := e2 0 a (by rw [hl0]; rfl)
            rw [hz0] at this
            simp at this)
      exact ⟨rfl, vs, g1, by rw [hlen]; exact g2, by rw [hlen]; exact hlenX, by rw [hlen]; exact g3⟩
  · simp only [T.get, Option.some.injEq, Prod.mk.injEq] at h
    obtain ⟨rfl, rfl⟩ := h
    simp only [conc, Option.some.injEq] at hx
    subst hx
    exact ⟨rfl, [], rfl, by simp [M.len], fun w' => by simp [M.len, Builtin.lenOf], fun w' _ => by simp [M.len, Builtin.firstCells]⟩
  · rename_i s
    simp only [T.get] at h
    cases hq : Nat.beq size 1 with
    | false => rw [hq] at h; cases h
    | true =>
      rw [hq] at h
      have hq := Nat.eq_of_beq_eq_true hq
      subst hq
      simp only [cond_true, Option.some.injEq, Prod.mk.injEq] at h
      obtain ⟨rfl, rfl⟩ := h
      simp only [conc, Option.some.injEq] at hx
      subst hx
      have hlen : (M.raw 0 1 (s.data.toList.map fun b => AV.v (Value.int .u8 b.toNat))).len = s.size := by
        simp [M.len]
      refine ⟨rfl, s.data.toList.map fun b => Value.int .u8 b.toNat, ?_, ?_, ?_, ?_⟩
      · have := concs_plain (E := E) (s.data.toList.map fun b => Value.int .u8 b.toNat)
        simpa [M.flat, List.map_map, Function.comp_def] using this
      · rw [hlen]; simp
      · intro w'; rw [hlen]; rfl
      · intro w' _
        rw [hlen]
        have : s.extract 0 s.size = s := by
          apply ByteArray.ext
          simp [ByteArray.data_extract]
        simp [Builtin.firstCells, this, ← List.map_toArray]
  · simp [T.get] at h

/-! ### Appending -/
theorem append_ok {C : Cx} {s x : Operand} {as : Array Operand} {ts : Array TypeId} {o : Oper} {a : Act} {w : World} {E : Env} {hp : Nat → Option AB} {fr : Nat} {e : Eff} {sv xv : AV} {W0 : World} {S : Nat → Prop} (ho : o.op = .call ⟨.builtin .append, as, ts⟩) (has : as = #[s, x])
    (hsv : conc E sv = some (a.eval s)) (hxv : conc E xv = some (a.eval x)) (Gm : Gam W0 S E hp w) (hfr : ∀ k, fr ≤ k → k < fr + e.nn → E k = none)
    (h : (effAppend C.P ts sv xv hp fr).get = some e) : OpOk C.P o a w E hp fr e := by
  have G := Gm.holds
  subst has
  unfold effAppend at h
  split at h
  case h_2 => exact get_no h
  rename_i t t' hts
  have hts' : ts = #[t, t'] := by apply Array.toList_inj.1; rw [hts]
  subst hts'
  split at h
  case h_2 => exact get_no h
  rename_i el hu
  split at h
  case h_2 => exact get_no h
  rename_i i hi
  split at h
  case h_2 => exact get_no h
  rename_i z hz
  cases hb : (Nat.beq z.cells.size i.size && Nat.blt 0 i.size && Nat.ble i.bytes 65536 && (Nat.beq t t' || isStr C.P t')) with
  | false => rw [hb] at h; exact get_no h
  | true =>
    rw [hb] at h
    simp only [cond_true] at h
    simp only [Bool.and_eq_true, Bool.or_eq_true] at hb
    obtain ⟨⟨⟨h1, h2⟩, h3⟩, h4⟩ := hb
    have hzs := Nat.eq_of_beq_eq_true h1
    have hsz : 0 < i.size := by simpa using h2
    have hby := Nat.le_of_ble_eq_true h3
    have ht' : (∃ e', C.P.underlying t' = some (.slice e')) ∨ C.P.underlying t' = some .string := by
      rcases h4 with h4 | h4
      · have := Nat.eq_of_beq_eq_true h4
        subst this
        exact .inl ⟨el, hu⟩
      · right
        unfold isStr at h4
        split at h4
        · assumption
        · cases h4
    obtain ⟨⟨y, ns⟩, hrows, h5⟩ := T.get_bindO h
    clear h
    simp only at h5
    obtain ⟨ysz, vs, hvs, hvl, hlen, hfirst⟩ := rows_ok (P := C.P) hsz hxv G hrows
    cases hone : allOneM y with
    | false => rw [hone] at h5; exact get_no h5
    | true =>
      rw [hone] at h5
      simp only [cond_true] at h5
      have hones := ones_conc hvs hone
      have hrun : ∀ r w', (Builtin.append_ #[t, t'] o.type #[a.eval s, a.eval x]).run C.P w = .ok r w' → (execOp a.eval o).run C.P w = .ok (.value r) w' := by
        intro r w' hr
        simp [execOp, ho, resolve, invoke, builtin, hr]
      have hbig : ∀ n, n ≤ mostRows → n * i.bytes ≤ 140737488355328 ∧ n ≤ maxLen := by
        intro n hn
        have : n * i.bytes ≤ mostRows * 65536 := Nat.mul_le_mul hn hby
        simp only [mostRows, maxLen] at *
        omega
      split at h5
      · -- onto nil
        simp only [conc, Option.some.injEq] at hsv
        cases hm : decide (y.len = 0) with
        | true =>
          rw [hm] at h5
          simp only [T.get] at h5
          obtain rfl := get_one h5
          have hm : y.len = 0 := by simpa using hm
          rw [hm] at hlen hfirst
          have hvs0 : vs = [] := List.eq_nil_of_length_eq_zero (by rw [hvl, hm]; simp)
          subst hvs0
          refine OpOk.value (V := .slice none 0 0) (hrun _ _ ?_) rfl rfl rfl
          rw [← hsv]
          exact run_append_nil0' w t t' o.type el i hu hi ht' (a.eval x) 0 hlen hfirst
        | false =>
          rw [hm] at h5
          simp only [T.get] at h5
          have hm : ¬ y.len = 0 := by simpa using hm
          obtain ⟨hd, h5⟩ := T.get_when h5
          have hd : y.len ≤ mostRows := by simpa using hd
          split at h5
          case h_2 => exact get_no h5
          rename_i z' hz'
          obtain rfl := get_one h5
          obtain ⟨e1, e2, e3, e4, e5, e6⟩ := M.app_ok hz' (by simp [M.flat, M.len])
          obtain ⟨b1, b2⟩ := hbig y.len hd
          have hr := run_append_grow' (P := C.P) w t t' o.type el i z hu hi hz ht' none 0 0 (a.eval x) y.len [] vs hlen (fun w' _ => by simp [Builtin.firstCells]) hfirst (by omega) (by simp only [maxLen] at b2; omega)
            (growslice_fits (by omega) (by simpa using b1))
          have hgr := grown_row (w := w) (e := el) (i := i) (z := z) hzs 0 y.len 0 [] vs (by simp) hvl (by simpa using b2)
          intro next Q hnext
          unfold Oper.wp
          rw [hrun _ _ (by rw [← hsv]; exact hr)]
          have hm0 : E fr = none := hfr fr (Nat.le_refl _) (by simp)
          have hle := Env.le_set hm0 { block := w.heap.size, stride := i.size, cap := grownCap w (0 + y.len) 0 el }
          refine hnext _ _ _ ?_ (Post.one (p := { block := w.heap.size, stride := i.size, cap := grownCap w (0 + y.len) 0 el }) hm0 rfl rfl (fun n x h => by simp [lookO] at h) ⟨rfl, rfl, rfl, by simp, fun k hk _ => (grown_by w _ none).block k hk (by simp)⟩ (fun _ => rfl) ?_ ?_)
          · simp [conc, Env.set, Pl.addr, Pl.ptr]
          · have hsz' : z'.size = i.size := e2
            refine ⟨rfl, hsz'.symm, by rw [hsz']; exact hsz, vs, ?_, ?_⟩
            · rw [e4]
              simpa [M.flat] using concs_mono hle _ _ hvs
            · have hl' : z'.len = 0 + y.len := by rw [e5]; simp [M.len]
              have he' : z'.e = el := e1
              rw [hl', he', hsz']
              simpa [Pl.whole, Pl.ptr, Pl.addr] using hgr
          · intro k hk
            simp [AB.foot] at hk
            exact .inr (by omega)
      · rename_i n r of len c
        split at h5
        case h_2 => exact get_no h5
        rename_i b hbn
        cases hq : (Nat.beq of 0 && Nat.beq b.e el && Nat.beq b.size i.size && Nat.beq r 0) with
        | false => rw [hq] at h5; exact get_no h5
        | true =>
          rw [hq] at h5
          simp only [cond_true] at h5
          simp only [Bool.and_eq_true] at hq
          obtain ⟨⟨⟨q1, q2⟩, q3⟩, q4⟩ := hq
          have q1 := Nat.eq_of_beq_eq_true q1
          have q2 := Nat.eq_of_beq_eq_true q2
          have q3 := Nat.eq_of_beq_eq_true q3
          have q4 := Nat.eq_of_beq_eq_true q4
          subst q1 q4
          obtain ⟨p, hp1, hbh⟩ := G n _ hbn
          have hbh' := hbh
          obtain ⟨p0, p1, p2, us, hus, hown⟩ := hbh
          simp only [conc, hp1, Option.map_some, Option.some.injEq] at hsv
          have hflat : b.flat.length = b.len * b.size := by rw [← concs_length hus]; exact hown.1
          split at h5
          · -- onto a whole row
            obtain ⟨hd, h5⟩ := T.get_when h5
            have hd : len = b.len ∧ len + y.len ≤ mostRows := by simpa using hd
            split at h5
            case h_2 => exact get_no h5
            rename_i z' hz'
            obtain rfl := get_one h5
            obtain ⟨e1, e2, e3, e4, e5, e6⟩ := M.app_ok hz' hflat
            obtain ⟨b1, b2⟩ := hbig _ hd.2
            rw [q3, q2] at hown
            have hwhole : a.eval s = p.whole b.len := by
              rw [← hsv, hd.1]
              simp [Pl.whole]
            obtain ⟨v', w', hr, ho2, hg2, hfoot⟩ := run_append_own' (P := C.P) w t t' o.type el i z hu hi hz ht' hzs (p.whole b.len) b.len us hown (a.eval x) y.len vs hlen hfirst hvl hones (by rw [← hd.1]; exact b2) (by rw [← hd.1]; exact b1)
            intro next Q hnext
            unfold Oper.wp
            rw [hrun _ _ (by rw [hwhole]; exact hr)]
            have hm0 : E fr = none := hfr fr (Nat.le_refl _) (by simp)
            have hsz' : z'.size = i.size := e2.trans q3
            have he' : z'.e = el := e1.trans q2
            -- what the new place is
            have hplace : ∃ q : Pl, q.base = 0 ∧ q.stride = i.size ∧ v' = .slice (q.ptr 0 0) (b.len + y.len) q.cap ∧ (∀ k, (if q.nil then none else some q.block) = some k → v'.ownBlock = some k) := by
              rcases ho2.2 with ⟨hv', hn'⟩ | ⟨g, cap, cur, hv', _⟩
              · exact ⟨{ block := 0, stride := i.size, nil := true }, rfl, rfl, by rw [hv', hn']; simp [Pl.ptr], fun k hk => by simp at hk⟩
              · exact ⟨{ block := g, stride := i.size, cap := cap }, rfl, rfl, by rw [hv']; simp [Pl.ptr, Pl.addr], fun k hk => by rw [hv']; simpa [Value.ownBlock] using hk⟩
            obtain ⟨q, hq0, hqs, hqv, hqf⟩ := hplace
            have hle := Env.le_set hm0 q
            have htouch : ∀ k, (p.whole b.len).ownBlock = some k → touched E hp { val := AV.sl fr 0 0 (len + y.len) none, reads := n :: ns, upd := [(n, none)], news := [(fr, some (AB.own z'))], nn := 1 } k := by
              intro k hk
              refine ⟨n, _, p, by simp [lookO], hbn, hp1, ?_⟩
              cases hn : p.nil with
              | true => simp [Pl.whole, Pl.ptr, hn, Value.ownBlock] at hk
              | false => rw [Pl.whole_block hn] at hk; simpa [AB.foot, hn] using hk
            refine hnext _ _ _ ?_ (Post.one (p := q) hm0 rfl rfl (fun m x h => by
                simp only [lookO] at h
                cases hbq : Nat.beq n m with
                | false => rw [hbq] at h; simp at h
                | true => rw [hbq] at h; simpa using h.symm) ⟨hg2.os, hg2.tape, hg2.output, hg2.size, fun k hk hnt => hg2.block k hk (fun hk' => hnt (htouch k hk'.symm))⟩ (fun _ => rfl) ?_ ?_)
            · simp only [conc, Env.set, if_true, Option.map_some, Option.getD_none, Nat.sub_zero]
              rw [hqv, hd.1]
            · refine ⟨hq0, by rw [hqs, hsz'], by rw [hsz']; exact hsz, us ++ vs, ?_, ?_⟩
              · rw [e4]
                exact concs_append.2 ⟨_, _, concs_mono hle _ _ hus, concs_mono hle _ _ hvs, rfl⟩
              · rw [e5, he', hsz']
                rw [hqv] at ho2
                exact ho2
            · intro k hk
              rcases hfoot k (hqf k hk) with hk' | hk'
              · exact .inl (htouch k hk')
              · exact .inr hk'
          · -- behind a slice of no room
            rename_i k
            obtain ⟨hd, h5⟩ := T.get_when h5
            have hd : k < len + y.len ∧ len + y.len ≤ mostRows := by simpa using hd
            obtain ⟨b', hb', h5⟩ := T.get_bindO h5
            split at h5
            case h_2 => exact get_no h5
            rename_i z' hz'
            obtain rfl := get_one h5
            obtain ⟨f1, f2, f3, f4, f5⟩ := M.sub_ok hb'
            have hb'l : b'.flat.length = len * b.size := by
              rw [f5, List.length_take, List.length_drop]
              simp only [Nat.zero_add] at f4
              omega
            obtain ⟨e1, e2, e3, e4, e5, e6⟩ := M.app_ok hz' (by rw [f3, f2]; exact hb'l)
            obtain ⟨b1, b2⟩ := hbig _ hd.2
            have hus' : concs E b'.flat = some (us.take (len * b.size)) := by
              rw [f5]
              simpa using concs_take (len * b.size) hus
            obtain ⟨hstr, hnil, hcells⟩ := cont_cells hbh' rfl
            have hfo : ∀ w' : World, w'.heap = w.heap → (Builtin.firstCells i.size len (.slice (p.ptr 0 0) len k)).run C.P w' = .ok (us.take (len * b.size)).toArray w' := by
              intro w' hw'
              cases hpn : p.nil with
              | true =>
                have hl0 : b.len = 0 := nil_len hbh' rfl hpn
                have : len * b.size = 0 := by
                  simp only [Nat.zero_add] at f4
                  rw [hl0, Nat.zero_mul] at hflat
                  omega
                rw [this]
                simp [Pl.ptr, hpn, Builtin.firstCells]
              | false =>
                have hptr : p.ptr 0 0 = some (p.addr 0 0) := by simp [Pl.ptr, hpn]
                rw [hptr]
                refine run_firstCells_some (P := C.P) w' i.size len (p.addr 0 0) len k _ (by rw [← q3, concs_length hus', hb'l]) (fun j v hv => ?_)
                obtain ⟨u, hu1, hu2⟩ := concs_get' hus' hv
                rw [f5, List.getElem?_take] at hu1
                split at hu1
                · rw [List.getElem?_drop] at hu1
                  obtain ⟨V, hV1, hV2⟩ := hcells 0 j u (by simpa using hu1)
                  rw [hu2] at hV1
                  cases hV1
                  rw [addr_add, Nat.zero_add]
                  unfold World.cell? at hV2 ⊢
                  rw [hw']
                  exact hV2
                · cases hu1
            have hr := run_append_grow' (P := C.P) w t t' o.type el i z hu hi hz ht' (p.ptr 0 0) len k (a.eval x) y.len (us.take (len * b.size)) vs hlen hfo hfirst hd.1 (by simp only [maxLen] at b2; omega)
              (growslice_fits hd.1 b1)
            have hgr := grown_row (w := w) (e := el) (i := i) (z := z) hzs len y.len k (us.take (len * b.size)) vs (by rw [concs_length hus', hb'l, q3]) hvl b2
            intro next Q hnext
            unfold Oper.wp
            rw [hrun _ _ (by rw [← hsv]; exact hr)]
            have hm0 : E fr = none := hfr fr (Nat.le_refl _) (by simp)
            have hle := Env.le_set hm0 { block := w.heap.size, stride := i.size, cap := grownCap w (len + y.len) k el }
            refine hnext _ _ _ ?_ (Post.one (p := { block := w.heap.size, stride := i.size, cap := grownCap w (len + y.len) k el }) hm0 rfl rfl (fun n x h => by simp [lookO] at h) ⟨rfl, rfl, rfl, by simp, fun k hk _ => (grown_by w _ none).block k hk (by simp)⟩ (fun _ => rfl) ?_ ?_)
            · simp [conc, Env.set, Pl.addr, Pl.ptr]
            · have hsz' : z'.size = i.size := e2.trans (f2.trans q3)
              refine ⟨rfl, hsz'.symm, by rw [hsz']; exact hsz, us.take (len * b.size) ++ vs, ?_, ?_⟩
              · rw [e4]
                exact concs_append.2 ⟨_, _, concs_mono hle _ _ hus', concs_mono hle _ _ hvs, rfl⟩
              · have he' : z'.e = el := e1.trans (f1.trans q2)
                rw [e5, f3, he', hsz']
                simpa [Pl.whole, Pl.ptr, Pl.addr] using hgr
            · intro k hk
              simp [AB.foot] at hk
              exact .inr (by omega)
      · exact get_no h5
end Go.Proofs.Ytemggodhikpmdaa.Sx
