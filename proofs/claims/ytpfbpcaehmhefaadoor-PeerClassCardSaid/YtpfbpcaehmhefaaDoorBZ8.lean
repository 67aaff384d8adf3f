/- The engine, part 8: soundness of the effects: rows behind rows, appending. -/
import Derived.Test.YtpfbpcaehmhefaaDoorBZ7
namespace Go.Proofs.YtpfbpcaehmhefaaDoorB.Sx
open Go.RowKit
set_option linter.unusedSimpArgs false
set_option linter.unusedVariables false

theorem add_lit' (g b n : Nat) : (⟨g, b, none⟩ : Addr).add n = ⟨g, b + n, none⟩ := by
  unfold Addr.add
  split
  · rename_i h; subst h; rfl
  · rfl
theorem run_append_room'' {P : Program} (w : World) (t t' ty e : TypeId) (i : TypeInfo) (ht : P.underlying t = some (.slice e)) (hi : P.info? e = some i)
    (ht' : (∃ e', P.underlying t' = some (.slice e')) ∨ P.underlying t' = some .string)
    (g b sLen sCap : Nat) (cur : Array Value) (hg : w.heap[g]? = some (.cells cur e (0, 0))) (X : Value) (m : Nat) (news : List Value)
    (hlen : ∀ w, (Builtin.lenOf X).run P w = .ok m w) (hn : ∀ w' : World, w'.heap = w.heap → (Builtin.firstCells i.size m X).run P w' = .ok news.toArray w')
    (h1 : ∀ u ∈ news, u.oneCell' = true) (hroom : sLen + m ≤ sCap) (hfit : b + sLen * i.size + news.length ≤ cur.size) :
    (Builtin.append_ #[t, t'] ty #[.slice (some ⟨g, b, none⟩) sLen sCap, X]).run P w =
      .ok (.slice (some ⟨g, b, none⟩) (sLen + m) sCap) (w.setRow g (cur.toList.take (b + sLen * i.size) ++ news ++ cur.toList.drop (b + sLen * i.size + news.length)).toArray) := by
  have hst := run_storeCells_at P g (b + sLen * i.size) e news 0 cur w hg (by simpa using hfit) h1
  simp only [Nat.add_zero] at hst
  have hf := hn w rfl
  rcases ht' with ⟨e', ht'⟩ | ht' <;> simp [Builtin.append_, run_underlying ht, run_underlying ht', sizeOf, typeInfo, hi, hlen, hroom, hf, add_lit', hst]

/-- Onto a row of one's own. -/
theorem run_append_row {P : Program} (w : World) (t t' ty e : TypeId) (i : TypeInfo) (z : Value) (ht : P.underlying t = some (.slice e)) (hi : P.info? e = some i) (hz : i.zero = some z)
    (ht' : (∃ e', P.underlying t' = some (.slice e')) ∨ P.underlying t' = some .string) (hzs : z.cells.size = i.size)
    (p : Pl) (n : Nat) (xs : List Value) (hrow : rowAt w e i.size p n xs) (X : Value) (m : Nat) (news : List Value)
    (hlen : ∀ w, (Builtin.lenOf X).run P w = .ok m w) (hn : ∀ w' : World, w'.heap = w.heap → (Builtin.firstCells i.size m X).run P w' = .ok news.toArray w')
    (hl : news.length = m * i.size) (h1 : ∀ u ∈ news, u.oneCell' = true) (h63 : n + m ≤ maxLen) (hbytes : (n + m) * i.bytes ≤ 140737488355328) :
    ∃ (q : Pl) (w' : World), (Builtin.append_ #[t, t'] ty #[.slice (p.ptr 0 0) n p.cap, X]).run P w = .ok (.slice (q.ptr 0 0) (n + m) q.cap) w' ∧ rowAt w' e i.size q (n + m) (xs ++ news) ∧ Fr (fun k => k ∈ blkO p) w w' ∧
      (∀ k ∈ blkO q, k ∈ blkO p ∨ w.heap.size ≤ k) := by
  have hro : roAt w p xs := by
    have hb : boxH true w e i.size p n xs [] [] (blkO p ++ []) [] := ⟨hrow, rfl, rfl⟩
    obtain ⟨R', ⟨_, _, _, _, a5, _⟩, _⟩ := boxH_lax (R0' := []) hb (fun k hk => by simp at hk)
    exact a5
  obtain ⟨hxl, hst, hs, hcase⟩ := hrow
  have hlen' : (xs ++ news).length = (n + m) * i.size := by rw [List.length_append, hxl, hl, Nat.add_mul]
  have h63i : ((n + m : Nat) : Int) ≤ 9223372036854775807 := by simp only [maxLen] at h63; omega
  -- where it grows
  have grow_ : p.cap < n + m → (∀ w' : World, w'.heap = w.heap → (Builtin.firstCells i.size n (.slice (p.ptr 0 0) n p.cap)).run P w' = .ok xs.toArray w') →
      ∃ (q : Pl) (w' : World), (Builtin.append_ #[t, t'] ty #[.slice (p.ptr 0 0) n p.cap, X]).run P w = .ok (.slice (q.ptr 0 0) (n + m) q.cap) w' ∧ rowAt w' e i.size q (n + m) (xs ++ news) ∧ Fr (fun k => k ∈ blkO p) w w' ∧
      (∀ k ∈ blkO q, k ∈ blkO p ∨ w.heap.size ≤ k) := by
    intro hg hfo
    have hr := run_append_grow' (P := P) w t t' ty e i z ht hi hz ht' (p.ptr 0 0) n p.cap X m xs news hlen hfo hn hg h63i (growslice_fits hg hbytes)
    obtain ⟨_, hgr⟩ := grown_row (w := w) (e := e) (i := i) (z := z) hzs n m p.cap xs news hxl hl h63
    refine ⟨{ block := w.heap.size, stride := i.size, cap := grownCap w (n + m) p.cap e }, w.drew.alloc (.cells (xs.toArray ++ news.toArray ++ Builtin.zeroCells z.cells (grownCap w (n + m) p.cap e - (n + m))) e), by rw [hr]; simp [Pl.ptr, Pl.addr], ?_, ⟨rfl, rfl, rfl, by simp, fun k hk _ => heap_alloc_old w.drew _ hk⟩, fun k hk => by simp [blkO] at hk; exact .inr (by omega)⟩
    rcases hgr with ⟨he, _⟩ | ⟨g, cap, cur, he, _, hh, g1, g2, g3, g4⟩
    · cases he
    · simp only [Value.slice.injEq, Option.some.injEq, Addr.mk.injEq, true_and] at he
      obtain ⟨⟨rfl, _⟩, rfl⟩ := he
      exact ⟨hlen', rfl, hs, .inr ⟨rfl, cur, hh, g1, g2, Nat.le_of_eq ((Nat.zero_add _).trans g3.symm), by simpa using g4⟩⟩
  rcases hcase with ⟨hnil, hn0, hc0, hod⟩ | ⟨hnil, cur, g1, g2, g3, g4, g5⟩
  · subst hn0
    have hx : xs = [] := List.eq_nil_of_length_eq_zero (by simpa using hxl)
    subst hx
    have hptr : p.ptr 0 0 = none := by simp [Pl.ptr, hnil, hod]
    by_cases hm : m = 0
    · subst hm
      have hnw : news = [] := List.eq_nil_of_length_eq_zero (by simpa using hl)
      subst hnw
      have := run_append_nil0' w t t' ty e i ht hi ht' X 0 hlen (by simpa using hn)
      refine ⟨p, w, by rw [hptr, hc0]; simpa using this, ⟨by simp, hst, hs, .inl ⟨hnil, rfl, hc0, hod⟩⟩, ⟨rfl, rfl, rfl, Nat.le_refl _, fun _ _ _ => rfl⟩, fun k hk => .inl hk⟩
    · exact grow_ (by omega) (fun w' _ => by rw [hptr]; simp [Builtin.firstCells])
  · have hptr : p.ptr 0 0 = some ⟨p.block, p.base, none⟩ := by simp [Pl.ptr, hnil, Pl.addr]
    by_cases hroom : n + m ≤ p.cap
    · have hmul : (n + m) * i.size ≤ p.cap * i.size := Nat.mul_le_mul_right _ hroom
      rw [Nat.add_mul] at hmul
      have hfit : p.base + n * i.size + news.length ≤ cur.size := by rw [hl]; omega
      have hr := run_append_room'' w t t' ty e i ht hi ht' p.block p.base n p.cap cur g1 X m news hlen hn h1 hroom hfit
      refine ⟨p, _, by rw [hptr]; exact hr, ⟨hlen', hst, hs, .inr ⟨hnil, _, setRow_heap w p.block cur _ e _ g1, hroom, g3, ?_, ?_⟩⟩, (setRow_fr _ _ _).mono (fun k hk => by simp [blkO, hnil, hk]), fun k hk => .inl hk⟩
      · simp only [List.size_toArray, List.length_append, List.length_take, List.length_drop, Array.length_toList]
        omega
      · simp only [List.toList_toArray]
        have hcl : cur.toList.length = cur.size := by simp
        rw [List.append_assoc, List.drop_append_of_le_length (by rw [List.length_take, hcl]; omega)]
        have h2 : (cur.toList.take (p.base + n * i.size)).drop p.base = xs := by
          rw [List.drop_take, ← g5]
          congr 1; omega
        rw [h2, ← List.append_assoc, ← hlen', List.take_left]
    · refine grow_ (by omega) (fun w' hw' => ?_)
      rw [hptr]
      refine run_firstCells_some (P := P) w' i.size n ⟨p.block, p.base, none⟩ n p.cap xs hxl (fun j u hu => ?_)
      have := hro j u hu
      unfold World.cell? at this ⊢
      rw [hw']
      simpa [add_lit', Pl.addr] using this

theorem hold_flat {w : World} {lx ly : Bool} : ∀ (sh : Sh) (d : Den sh) (vs : List Value) (F R : List Nat), sh.plainAt 0 sh.size = true → hold w lx sh d vs F R → hold w ly sh d vs F R
  | .nil, d, vs, F, R, hp, h => h
  | .sc c r, d, vs, F, R, hp, h => by
    obtain ⟨vs', h1, h2, h3⟩ := h
    exact ⟨vs', h1, h2, hold_flat r _ _ _ _ (by simpa [Sh.plainAt, Sh.size] using hp) h3⟩
  | .sl .., d, vs, F, R, hp, h => by simp [Sh.plainAt, Sh.size] at hp
  | .pt .., d, vs, F, R, hp, h => by simp [Sh.plainAt, Sh.size] at hp
  | .po .., d, vs, F, R, hp, h => by simp [Sh.plainAt, Sh.size] at hp
  | .ag .., d, vs, F, R, hp, h => by simp [Sh.plainAt, Sh.size] at hp
  | .mp .., d, vs, F, R, hp, h => by simp [Sh.plainAt, Sh.size] at hp
theorem rowsH_flat {w : World} {lx : Bool} {sh : Sh} (hp : sh.flat = true) : ∀ {l : List (Den sh)} {xs : List Value} {F R : List Nat}, rowsH (hold w lx sh) l xs F R → F = [] ∧ R = [] ∧ ∀ ly, rowsH (hold w ly sh) l xs F R
  | [], xs, F, R, h => ⟨h.2.1, h.2.2, fun _ => h⟩
  | d :: l, xs, F, R, h => by
    obtain ⟨ys, zs, F1, F2, R1, R2, rfl, rfl, rfl, h1, h2⟩ := h
    obtain ⟨e1, e2⟩ := flat_nil sh 0 0 _ _ _ _ hp h1
    obtain ⟨e3, e4, e5⟩ := rowsH_flat hp h2
    exact ⟨by rw [e1, e3]; rfl, by rw [e2, e4]; rfl, fun ly => ⟨ys, zs, F1, F2, R1, R2, rfl, rfl, rfl, hold_flat sh _ _ _ _ hp h1, e5 ly⟩⟩
/-- Contents without anything nested: told for memory of either kind. -/
theorem canMove_any {E : Env} {w : World} {lx : Bool} {y : M} {vs : List Value} {F R : List Nat} (hm : y.canMove = true) (h : y.reads E w lx vs F R) : F = [] ∧ R = [] ∧ ∀ ly, y.reads E w ly vs F R := by
  cases y with
  | raw e s cs => obtain ⟨h1, rfl, rfl⟩ := h; exact ⟨rfl, rfl, fun _ => ⟨h1, rfl, rfl⟩⟩
  | rows e sh l => exact rowsH_flat hm h
  | hol e sh l i q cs => simp [M.canMove] at hm
theorem sub_move {y z : M} {r n : Nat} (hm : y.canMove = true) (h : (y.sub r n).get = some z) : z.canMove = true := by
  cases y with
  | raw e s cs =>
    simp only [M.sub, T.get] at h
    cases hb : (Nat.ble ((r + n) * s) cs.length && Nat.blt 0 s) with
    | false => rw [hb] at h; cases h
    | true => rw [hb] at h; simp only [cond_true, Option.some.injEq] at h; subst h; rfl
  | rows e sh l =>
    simp only [M.sub] at h
    obtain ⟨_, h⟩ := T.get_when h
    simp only [T.get, Option.some.injEq] at h
    subst h
    exact hm
  | hol e sh l i q cs => simp [M.canMove] at hm

/-- The rows that a slice shows. -/
structure RowsOk (P : Program) (E : Env) (hp : Nat → Option AB) (w : World) (F R : Nat → List Nat) (X : Value) (size : Nat) (y : M) (ns sp : List Nat) (vs : List Value) (Fy Ry : List Nat) : Prop where
  hsize : y.size = size
  reads : y.reads E w false vs Fy Ry
  hol : y.noHol = true
  hlen : vs.length = y.len * size
  lenOf : ∀ w' : World, (Builtin.lenOf X).run P w' = .ok y.len w'
  first : ∀ w' : World, w'.heap = w.heap → (Builtin.firstCells size y.len X).run P w' = .ok vs.toArray w'
  hsp : ∀ n ∈ sp, (hp n).isSome = true
  inF : ∀ k ∈ Fy, ∃ n ∈ sp, k ∈ F n
  inR : ∀ k ∈ Ry, ∃ n b, hp n = some b ∧ k ∈ R n
  nodup : Fy.Nodup
theorem first_ok {P : Program} {w : World} {p : Pl} {size r of len c : Nat} {us : List Value} (hn : p.nil = true → us = []) (hl : us.length = len * size) (hs : 0 < size) (hc : ∀ j V, us[j]? = some V → w.cell? (p.addr r (of + j)) = some V) :
    ∀ w' : World, w'.heap = w.heap → (Builtin.firstCells size len (.slice (p.ptr r of) len c)).run P w' = .ok us.toArray w' := by
  intro w' hw'
  cases hpn : p.nil with
  | true =>
    have := hn hpn
    subst this
    have hl0 : len = 0 := by
      rcases Nat.eq_zero_or_pos len with h | h
      · exact h
      · have : 0 < len * size := Nat.mul_pos h hs
        simp at hl; omega
    subst hl0
    cases hod : p.odd <;> simp [Pl.ptr, hpn, hod, Builtin.firstCells, loadCells, loadCellsFrom]
  | false =>
    have hptr : p.ptr r of = some (p.addr r of) := by simp [Pl.ptr, hpn]
    rw [hptr]
    refine run_firstCells_some (P := P) w' size len (p.addr r of) len _ us hl (fun j v hv => ?_)
    have := hc j v hv
    rw [addr_add]
    unfold World.cell? at this ⊢
    rw [hw']
    exact this
theorem rows_ok {P : Program} {x : AV} {X : Value} {size : Nat} {E : Env} {hp : Nat → Option AB} {w W0 : World} {S : Reg} {F R : Nat → List Nat} {y : M} {ns sp : List Nat} (hs : 0 < size) (hx : conc E x = some X) (G : Gf W0 S E hp w F R)
    (h : (rowsOf x size hp).get = some (y, ns, sp)) : ∃ vs Fy Ry, RowsOk P E hp w F R X size y ns sp vs Fy Ry := by
  -- a cut of contents without anything nested
  have cut_ : ∀ {b : AB} {z : M} {n r len : Nat} {c : Option Nat}, hp n = some b → b.cont = some z → x = .sl n r 0 len c → z.size = size → z.canMove = true → ((z.sub r len).mapO fun z => (z, [n], ([] : List Nat))).get = some (y, ns, sp) → ∃ vs Fy Ry, RowsOk P E hp w F R X size y ns sp vs Fy Ry := by
    intro b z n r len c hb hz hxe hsz hm h0
    subst hxe
    obtain ⟨z', hz', he⟩ := T.get_mapO h0
    simp only [Prod.mk.injEq] at he
    obtain ⟨rfl, rfl, rfl⟩ := he
    obtain ⟨p, hp1, hbh⟩ := G.holds n b hb
    simp only [conc, hp1, Option.map_some, Option.some.injEq] at hx
    obtain ⟨own, lx, vs, F0, R0, g1, g2⟩ := cont_box hbh hz
    obtain ⟨c1, c2, c3, c4, c5⟩ := boxH_cells g2
    obtain ⟨e1, e2, e3, e4, e5, _, F', R', e6, e7, e8, e9⟩ := M.sub_ok g1 hz' c3
    obtain ⟨rfl, rfl, e10⟩ := canMove_any (sub_move hm hz') e6
    have hlen : ((vs.drop (r * z.size)).take (len * z.size)).length = len * z.size := by
      rw [List.length_take, List.length_drop, c3]
      have : (r + len) * z.size ≤ z.len * z.size := Nat.mul_le_mul_right _ e4
      rw [Nat.add_mul] at this
      omega
    refine ⟨_, [], [], e2.trans hsz, e10 false, ?_, by rw [e3, ← hsz]; exact hlen, ?_, ?_, fun n hn => by simp at hn, fun k hk => by simp at hk, fun k hk => by simp at hk, List.nodup_nil⟩
    · have := sub_move hm hz'
      cases z' <;> first | rfl | simp [M.canMove] at this
    · intro w'; rw [← hx, e3]; rfl
    · rw [e3, ← hx, ← hsz]
      refine first_ok (fun hn => ?_) hlen c2 (fun j V hV => ?_)
      · have := c4 hn
        have hl0 : len = 0 := by omega
        rw [hl0] at hlen ⊢; simp
      · rw [List.getElem?_take] at hV
        split at hV
        · rw [List.getElem?_drop] at hV
          have := c5 r j V hV
          rwa [Nat.zero_add]
        · cases hV
  -- cells one by one
  have cells_ : ∀ {b : AB} {z : M} {n r of len : Nat} {c : Option Nat}, hp n = some b → b.cont = some z → x = .sl n r of len c → ((z.get r of (len * size)).mapO fun l => (M.raw 0 size l, [n], ([] : List Nat))).get = some (y, ns, sp) → ∃ vs Fy Ry, RowsOk P E hp w F R X size y ns sp vs Fy Ry := by
    intro b z n r of len c hb hz hxe h0
    subst hxe
    obtain ⟨l, hl, he⟩ := T.get_mapO h0
    simp only [Prod.mk.injEq] at he
    obtain ⟨rfl, rfl, rfl⟩ := he
    obtain ⟨p, hp1, hbh⟩ := G.holds n b hb
    simp only [conc, hp1, Option.map_some, Option.some.injEq] at hx
    obtain ⟨own, lx, vs, F0, R0, g1, g2⟩ := cont_box hbh hz
    obtain ⟨c1, c2, c3, c4, c5⟩ := boxH_cells g2
    obtain ⟨e1, us, e2, e3⟩ := M.get_ok g1 hl
    have hul := concs_length e2
    have hlen : (M.raw 0 size l).len = len := by simp [M.len, e1, Nat.mul_div_cancel _ hs]
    refine ⟨us, [], [], rfl, ⟨e2, rfl, rfl⟩, rfl, by rw [hlen]; omega, ?_, ?_, fun n hn => by simp at hn, fun k hk => by simp at hk, fun k hk => by simp at hk, List.nodup_nil⟩
    · intro w'; rw [← hx, hlen]; rfl
    · rw [hlen, ← hx]
      refine first_ok (fun hn => ?_) (by omega) hs (fun j V hV => c5 r (of + j) V (e3 j V hV))
      have h0 := c4 hn
      rw [h0, Nat.zero_mul] at c3
      cases us with
      | nil => rfl
      | cons u us =>
        have := e3 0 u rfl
        rw [List.eq_nil_of_length_eq_zero c3] at this
        simp at this
  unfold rowsOf at h
  split at h
  · rename_i n r of len c
    split at h
    · rename_i z hb
      cases hq : (Nat.beq z.size size && Nat.beq of 0) with
      | false => rw [hq] at h; exact cells_ hb rfl rfl h
      | true =>
        rw [hq] at h
        simp only [cond_true] at h
        simp only [Bool.and_eq_true] at hq
        have h1 := Nat.eq_of_beq_eq_true hq.1
        have h2 := Nat.eq_of_beq_eq_true hq.2
        subst h2
        cases hm : z.canMove with
        | true => rw [hm] at h; exact cut_ hb rfl rfl h1 hm h
        | false =>
          rw [hm] at h
          simp only [cond_false] at h
          split at h
          · rename_i el sh l
            cases hr : (Nat.beq r 0 && c.isNone) with
            | false => rw [hr] at h; exact get_none h
            | true =>
              rw [hr] at h
              simp only [cond_true] at h
              simp only [Bool.and_eq_true] at hr
              obtain rfl := Nat.eq_of_beq_eq_true hr.1
              have hc : c = none := by cases c with
                | none => rfl
                | some _ => simp at hr
              subst hc
              obtain ⟨hd, h⟩ := T.get_when h
              have hd : len = l.length := by simpa using hd
              simp only [T.get, Option.some.injEq, Prod.mk.injEq] at h
              obtain ⟨rfl, rfl, rfl⟩ := h
              obtain ⟨p, hp1, _, vs, F0, R0, hrd, hbox⟩ := G.holds n _ hb
              simp only [conc, hp1, Option.map_some, Option.some.injEq] at hx
              obtain ⟨c1, c2, c3, c4, c5⟩ := boxH_cells hbox
              have hnd := G.nodup n _ hb
              obtain ⟨hrow, hF, hR⟩ := hbox
              rw [hF, List.nodup_append] at hnd
              refine ⟨vs, F0, R0, h1, hrd, rfl, by rw [← h1]; exact c3, ?_, ?_, ?_, fun k hk => ⟨n, by simp, by rw [hF]; simp [hk]⟩, fun k hk => ⟨n, _, hb, by rw [hR]; exact hk⟩, hnd.2.1⟩
              · intro w'; rw [← hx, hd]; rfl
              · rw [← hx, ← h1]
                show ∀ w', w'.heap = w.heap → (Builtin.firstCells _ l.length _).run P w' = _
                rw [← hd]
                refine first_ok (fun hn => ?_) (by rw [hd]; exact c3) c2 (fun j V hV => ?_)
                · have h0 := c4 hn
                  rw [h0, Nat.zero_mul] at c3
                  exact List.eq_nil_of_length_eq_zero c3
                · have := c5 0 j V (by simpa using hV)
                  rwa [Nat.zero_add]
              · intro m hm'
                simp only [List.mem_singleton] at hm'
                subst hm'
                rw [hb]; rfl
          · exact get_none h
    · rename_i z hb
      cases hq : (Nat.beq z.size size && Nat.beq of 0) with
      | false => rw [hq] at h; exact cells_ hb rfl rfl h
      | true =>
        rw [hq] at h
        simp only [cond_true] at h
        simp only [Bool.and_eq_true] at hq
        have h1 := Nat.eq_of_beq_eq_true hq.1
        have h2 := Nat.eq_of_beq_eq_true hq.2
        subst h2
        cases hm : z.canMove with
        | true => rw [hm] at h; exact cut_ hb rfl rfl h1 hm h
        | false => rw [hm] at h; exact get_none h
    · exact get_none h
  · rename_i a0 cap0
    simp only [T.get, Option.some.injEq, Prod.mk.injEq] at h
    obtain ⟨rfl, rfl, rfl⟩ := h
    simp only [conc, Option.some.injEq] at hx
    subst hx
    exact ⟨[], [], [], rfl, ⟨rfl, rfl, rfl⟩, rfl, by simp [M.len], fun w' => by simp [M.len, Builtin.lenOf], fun w' _ => by cases a0 <;> simp [M.len, Builtin.firstCells, loadCells, loadCellsFrom], fun n hn => by simp at hn, fun k hk => by simp at hk, fun k hk => by simp at hk, List.nodup_nil⟩
  · rename_i n r0 r
    simp only [T.get, Option.some.injEq, Prod.mk.injEq] at h
    obtain ⟨rfl, rfl, rfl⟩ := h
    simp only [conc, Option.map_eq_some_iff] at hx
    obtain ⟨p, _, hx⟩ := hx
    subst hx
    generalize (if p.cap = r then p.ptr r0 0 else p.ptr r 0) = a0
    exact ⟨[], [], [], rfl, ⟨rfl, rfl, rfl⟩, rfl, by simp [M.len], fun w' => by simp [M.len, Builtin.lenOf], fun w' _ => by cases a0 <;> simp [M.len, Builtin.firstCells, loadCells, loadCellsFrom], fun n hn => by simp at hn, fun k hk => by simp at hk, fun k hk => by simp at hk, List.nodup_nil⟩
  · rename_i A len cap _
    simp only [T.get, Option.map_eq_some_iff] at h
    obtain ⟨l, hl, he⟩ := h
    simp only [Prod.mk.injEq] at he
    obtain ⟨rfl, rfl, rfl⟩ := he
    simp only [conc, Option.some.injEq] at hx
    subst hx
    obtain ⟨g1, g2⟩ := cellsG_ok hl (w := w) (fun g o hg => G.globAt hg)
    have hsp : len = 0 ∨ A.spot = none := by
      cases hs' : A.spot with
      | none => exact .inr rfl
      | some sp => simp [cellsG, hs'] at hl
    have hlen : (M.raw 0 size (l.map AV.v)).len = len := by simp [M.len, g1, Nat.mul_div_cancel _ hs]
    refine ⟨l, [], [], rfl, ⟨concs_plain l, rfl, rfl⟩, rfl, by rw [hlen]; exact g1, ?_, ?_, fun n hn => by simp at hn, fun k hk => by simp at hk, fun k hk => by simp at hk, List.nodup_nil⟩
    · intro w'; rw [hlen]; rfl
    · rw [hlen]
      rcases hsp with h0 | h0
      · subst h0
        have : l = [] := List.eq_nil_of_length_eq_zero (by omega)
        subst this
        intro w' _
        simp [Builtin.firstCells, loadCells, loadCellsFrom]
      · have := first_ok (P := P) (w := w) (p := { block := A.block, base := A.off, stride := size, cap := cap }) (size := size) (r := 0) (of := 0) (len := len) (c := cap) (us := l) (fun h => by cases h) g1 hs (fun j V hV => by
          have := g2 j V hV
          rw [addr_plus A h0] at this
          simpa [Pl.addr] using this)
        have hA : ({ block := A.block, base := A.off, stride := size, cap := cap } : Pl).ptr 0 0 = some A := by
          obtain ⟨b, o', sp⟩ := A
          simp only at h0
          subst h0
          simp [Pl.ptr, Pl.addr]
        rw [hA] at this
        exact this
  · rename_i s
    simp only [T.get] at h
    cases hq : Nat.beq size 1 with
    | false => rw [hq] at h; cases h
    | true =>
      rw [hq] at h
      have hq := Nat.eq_of_beq_eq_true hq
      subst hq
      simp only [cond_true, Option.some.injEq, Prod.mk.injEq] at h
      obtain ⟨rfl, rfl, rfl⟩ := h
      simp only [conc, Option.some.injEq] at hx
      subst hx
      have hlen : (M.raw 0 1 (s.data.toList.map fun b => AV.v (Value.int .u8 b.toNat))).len = s.size := by
        simp [M.len]
      refine ⟨s.data.toList.map fun b => Value.int .u8 b.toNat, [], [], rfl, ⟨?_, rfl, rfl⟩, rfl, ?_, ?_, ?_, fun n hn => by simp at hn, fun k hk => by simp at hk, fun k hk => by simp at hk, List.nodup_nil⟩
      · have := concs_plain (E := E) (s.data.toList.map fun b => Value.int .u8 b.toNat)
        simpa [List.map_map, Function.comp_def] using this
      · rw [hlen]; simp
      · intro w'; rw [hlen]; rfl
      · intro w' _
        rw [hlen]
        have : s.extract 0 s.size = s := by
          apply ByteArray.ext
          simp [ByteArray.data_extract]
        simp [Builtin.firstCells, this, ← List.map_toArray]
  · exact get_none h

/-! ### Joining -/
structure JoinOk (E : Env) (hp : Nat → Option AB) (w : World) (F R : Nat → List Nat) (el : TypeId) (x y z : M) (v1 v2 : List Value) (F1 F2 R1 R2 us ms Fz Rz : List Nat) : Prop where
  he : z.e = el
  hsize : z.size = x.size
  hlen : z.len = x.len + y.len
  hol : z.noHol = true
  reads : z.reads E w false (v1 ++ v2) Fz Rz
  ones : ∀ v ∈ v2, v.oneCell' = true
  hus : ∀ n ∈ us, (hp n).isSome = true
  inF : ∀ k ∈ Fz, k ∈ F1 ∨ k ∈ F2 ∨ ∃ n ∈ us, k ∈ F n
  inR : ∀ k ∈ Rz, k ∈ R1 ∨ k ∈ R2 ∨ ∃ n b, hp n = some b ∧ k ∈ R n
  nodup : F1.Nodup → F2.Nodup → (∀ k ∈ F1, k ∉ F2) → (∀ n ∈ us, ∀ k ∈ F n, k ∉ F1 ∧ k ∉ F2) → Fz.Nodup
theorem join_ok {E : Env} {hp : Nat → Option AB} {w W0 : World} {S : Reg} {F R : Nat → List Nat} (G : Gf W0 S E hp w F R) {el : TypeId} {x y z : M} {v1 v2 : List Value} {F1 F2 R1 R2 us ms : List Nat}
    (hx : x.reads E w false v1 F1 R1) (hy : y.reads E w false v2 F2 R2) (hxl : v1.length = x.len * x.size) (hyl : v2.length = y.len * y.size) (h : (joinM hp el x y).get = some (z, us, ms)) : ∃ Fz Rz, JoinOk E hp w F R el x y z v1 v2 F1 F2 R1 R2 us ms Fz Rz := by
  have typed : ∀ {sh : Sh}, ((gatM sh (gat hp false sh) x).bindO fun p => (gatM sh (gat hp false sh) y).bindO fun q =>
      bif sh.mem && nodupB (p.2.1 ++ q.2.1) && allRo hp (p.2.2 ++ q.2.2) then T.leaf (some (M.rows el sh (p.1 ++ q.1), p.2.1 ++ q.2.1, p.2.2 ++ q.2.2)) else T.leaf none).get = some (z, us, ms) → ∃ Fz Rz, JoinOk E hp w F R el x y z v1 v2 F1 F2 R1 R2 us ms Fz Rz := by
    intro sh h
    obtain ⟨p, h1, h⟩ := T.get_bindO h
    obtain ⟨q, h2, h⟩ := T.get_bindO h
    cases hb : (sh.mem && nodupB (p.2.1 ++ q.2.1) && allRo hp (p.2.2 ++ q.2.2)) with
    | false => rw [hb] at h; exact get_none h
    | true =>
      rw [hb] at h
      simp only [cond_true, T.get, Option.some.injEq, Prod.mk.injEq] at h
      obtain ⟨rfl, rfl, rfl⟩ := h
      simp only [Bool.and_eq_true] at hb
      have hnd := nodupB_ok hb.1.2
      have hro := allRo_ok hb.2
      obtain ⟨j1, j2⟩ := gat_ok G.toGc false sh
      obtain ⟨a1, a2, _, Fp, Rp, gp⟩ := gatM_ok G.toGc (.inl rfl) j1 j2 hx h1
      obtain ⟨b1, b2, _, Fq, Rq, gq⟩ := gatM_ok G.toGc (.inl rfl) j1 j2 hy h2
      have s1 := gatM_some (gat_some hp false sh) x p h1
      have s2 := gatM_some (gat_some hp false sh) y q h2
      have inr_ : ∀ {l : List (Den sh) × List Nat × List Nat} {vs : List Value} {F0 R0 Fa Ra : List Nat}, GotM false hp F R (rowsH (hold w false sh)) vs l F0 R0 Fa Ra → (∀ m ∈ l.2.2, ∃ x, hp m = some (.ro x)) → ∀ k ∈ Ra, k ∈ R0 ∨ ∃ n b, hp n = some b ∧ k ∈ R n := by
        intro l vs F0 R0 Fa Ra g hm k hk
        rcases g.inR k hk with (⟨h5, _⟩ | h5) | ⟨m, hm', s, h5⟩ | ⟨m, hm', s, h5⟩
        · cases h5
        · exact .inl h5
        · obtain ⟨y', hy'⟩ := hm m hm'
          rw [ro_nil G.toGc hy'] at h5
          simp only [List.not_mem_nil, false_or] at h5
          exact .inr ⟨m, _, hy', h5⟩
        · obtain ⟨b, hb'⟩ := Option.isSome_iff_exists.1 s
          exact .inr ⟨m, b, hb', h5⟩
      refine ⟨Fp ++ Fq, Rp ++ Rq, ⟨rfl, ?_, ?_, rfl, rowsH_append.2 ⟨v1, v2, Fp, Fq, Rp, Rq, rfl, rfl, rfl, gp.data, gq.data⟩, ?_, ?_, ?_, ?_, ?_⟩⟩
      · rw [a2]; rfl
      · simp only [M.len, List.length_append]; rw [a1, b1]; rfl
      · exact rowsH_ones (fun d ys F R h => hold_ones false sh d ys F R hb.1.1 h) gq.data
      · intro n hn
        rcases List.mem_append.1 hn with hn | hn
        · exact s1 n (by simp [hn])
        · exact s2 n (by simp [hn])
      · intro k hk
        rcases List.mem_append.1 hk with hk | hk
        · rcases gp.inF k hk with h5 | ⟨m, hm, _, h5⟩
          · exact .inl h5
          · exact .inr (.inr ⟨m, by simp [hm], h5⟩)
        · rcases gq.inF k hk with h5 | ⟨m, hm, _, h5⟩
          · exact .inr (.inl h5)
          · exact .inr (.inr ⟨m, by simp [hm], h5⟩)
      · intro k hk
        rcases List.mem_append.1 hk with hk | hk
        · rcases inr_ gp (fun m hm => hro m (by simp [hm])) k hk with h5 | h5
          · exact .inl h5
          · exact .inr (.inr h5)
        · rcases inr_ gq (fun m hm => hro m (by simp [hm])) k hk with h5 | h5
          · exact .inr (.inl h5)
          · exact .inr (.inr h5)
      · intro n1 n2 d12 dus
        have hnd' := hnd
        rw [List.nodup_append] at hnd'
        rw [List.nodup_append]
        refine ⟨gp.nodup n1 hnd'.1 (fun k hk m hm _ hkm => (dus m (by simp [hm]) k hkm).1 hk), gq.nodup n2 hnd'.2.1 (fun k hk m hm _ hkm => (dus m (by simp [hm]) k hkm).2 hk), ?_⟩
        intro a ha b hb' e0
        subst e0
        rcases gp.inF a ha with h5 | ⟨m, hm, sm, h5⟩ <;> rcases gq.inF a hb' with h6 | ⟨m', hm', sm', h6⟩
        · exact d12 a h5 h6
        · exact (dus m' (by simp [hm']) a h6).1 h5
        · exact (dus m (by simp [hm]) a h5).2 h6
        · obtain ⟨b1', hb1⟩ := Option.isSome_iff_exists.1 sm
          obtain ⟨b2', hb2⟩ := Option.isSome_iff_exists.1 sm'
          exact hnd'.2.2 m hm m' hm' (G.dist m m' b1' b2' a hb1 hb2 h5 h6)
  unfold joinM at h
  split at h
  · rename_i e s cs e' s' ds
    simp only [T.get] at h
    cases hb : (Nat.beq s s' && Nat.beq (cs.length / s * s) cs.length && Nat.beq (ds.length / s * s) ds.length && Nat.blt 0 s && allOne ds) with
    | false => rw [hb] at h; cases h
    | true =>
      rw [hb] at h
      simp only [cond_true, Option.some.injEq, Prod.mk.injEq] at h
      obtain ⟨rfl, rfl, rfl⟩ := h
      simp only [Bool.and_eq_true] at hb
      obtain ⟨⟨⟨⟨q1, q2⟩, q3⟩, q4⟩, q5⟩ := hb
      obtain rfl := Nat.eq_of_beq_eq_true q1
      have q2 := Nat.eq_of_beq_eq_true q2
      have q3 := Nat.eq_of_beq_eq_true q3
      have q4 : 0 < s := by simpa using q4
      obtain ⟨hc, rfl, rfl⟩ := hx
      obtain ⟨hd, rfl, rfl⟩ := hy
      refine ⟨[], [], ⟨rfl, rfl, ?_, rfl, ⟨concs_append.2 ⟨_, _, hc, hd, rfl⟩, rfl, rfl⟩, ones_conc hd q5, fun n hn => by simp at hn, fun k hk => by simp at hk, fun k hk => by simp at hk, fun _ _ _ _ => List.nodup_nil⟩⟩
      simp only [M.len]
      rw [List.length_append]
      conv => lhs; rw [← q2, ← q3]
      rw [← Nat.add_mul, Nat.mul_div_cancel _ q4]
  · split at h
    · exact typed h
    · exact get_none h

/-! ### Appending -/
theorem append_ok {C : Cx} {s x : Operand} {as : Array Operand} {ts : Array TypeId} {o : Oper} {a : Act} {w : World} {E : Env} {hp : Nat → Option AB} {fr : Nat} {e : Eff} {sv xv : AV} {W0 : World} {S : Reg} (ho : o.op = .call ⟨.builtin .append, as, ts⟩) (has : as = #[s, x])
    (hsv : conc E sv = some (a.eval s)) (hxv : conc E xv = some (a.eval x)) (Gm : Gam W0 S E hp w) (hfr : ∀ k, fr ≤ k → k < fr + e.nn → E k = none)
    (h : (effAppend C.P ts sv xv hp fr).get = some e) : OpOk C.P o a w W0 S E hp fr e := by
  subst has
  unfold effAppend at h
  split at h
  case h_2 => exact get_no h
  rename_i t t' hts
  have hts' : ts = #[t, t'] := by apply Array.toList_inj.1; rw [hts]
  subst hts'
  split at h
  case h_2 => exact get_no h
  rename_i el hu
  split at h
  case h_2 => exact get_no h
  rename_i i hi
  split at h
  case h_2 => exact get_no h
  rename_i z hz
  cases hb : (Nat.beq z.cells.size i.size && Nat.blt 0 i.size && Nat.ble i.bytes 65536 && (Nat.beq t t' || isStr C.P t')) with
  | false => rw [hb] at h; exact get_no h
  | true =>
    rw [hb] at h
    simp only [cond_true] at h
    simp only [Bool.and_eq_true, Bool.or_eq_true] at hb
    obtain ⟨⟨⟨h1, h2⟩, h3⟩, h4⟩ := hb
    have hzs := Nat.eq_of_beq_eq_true h1
    have hsz : 0 < i.size := by simpa using h2
    have hby := Nat.le_of_ble_eq_true h3
    have ht' : (∃ e', C.P.underlying t' = some (.slice e')) ∨ C.P.underlying t' = some .string := by
      rcases h4 with h4 | h4
      · have := Nat.eq_of_beq_eq_true h4
        subst this
        exact .inl ⟨el, hu⟩
      · right
        unfold isStr at h4
        split at h4
        · assumption
        · cases h4
    obtain ⟨F, R, G⟩ := id Gm
    obtain ⟨⟨y, ns, sp⟩, hrows, h5⟩ := T.get_bindO h
    clear h
    simp only at h5
    obtain ⟨vs, Fy, Ry, ro⟩ := rows_ok (P := C.P) hsz hxv G hrows
    have hrun : ∀ r w', (Builtin.append_ #[t, t'] o.type #[a.eval s, a.eval x]).run C.P w = .ok r w' → (execOp a.eval o).run C.P w = .ok (.value r) w' := by
      intro r w' hr
      simp [execOp, ho, resolve, invoke, builtin, hr]
    have hbig : ∀ n, n ≤ mostRows → n * i.bytes ≤ 140737488355328 ∧ n ≤ maxLen := by
      intro n hn
      have : n * i.bytes ≤ mostRows * 65536 := Nat.mul_le_mul hn hby
      simp only [mostRows, maxLen] at *
      omega
    -- the names that are spent: their memory may be had
    have spent_ : ∀ {l : List Nat} {e : Eff}, e.upd = spent l → ∀ n x, lookO e.upd n = some x → x = none := fun hl n x h => by rw [hl] at h; exact (lookO_spent h).2
    have touch_ : ∀ {l : List Nat} {e : Eff}, e.upd = spent l → ∀ n ∈ l, (hp n).isSome = true → ∀ k ∈ F n, touched hp F e k := by
      intro l e hl n hn hs k hk
      obtain ⟨b, hb⟩ := Option.isSome_iff_exists.1 hs
      exact ⟨n, b, by rw [hl, lookO_spent_of hn]; rfl, hb, hk⟩
    -- the end of it: a new row in place of what there was
    have fin : ∀ {b : M} {v1 F1 R1 : List _} {p : Pl} {n' : Nat} {l us ms : List Nat} {zz : M} {Fz Rz : List Nat}, rowAt w el i.size p n' v1 → a.eval s = .slice (p.ptr 0 0) n' p.cap → n' + y.len ≤ mostRows →
        JoinOk E hp w F R el b y zz v1 vs F1 Fy R1 Ry us ms Fz Rz → b.size = i.size → b.len = n' → e.val = .sl fr 0 0 (n' + y.len) none → e.upd = spent l → e.news = [(fr, some (.own zz))] → e.nn = 1 →
        (∀ k ∈ blkO p, touched hp F e k) → (∀ k ∈ Fz, touched hp F e k) → (∀ k ∈ blkO p, k ∉ Fz) → Fz.Nodup → (∀ k ∈ R1, ∃ n b, hp n = some b ∧ k ∈ R n) → OpOk C.P o a w W0 S E hp fr e := by
      intro b v1 F1 R1 p n' l us ms zz Fz Rz hrow hse hbn jo hbs hbl hval hupd hnews hnn hblk hFz hdis hndz hR1
      obtain ⟨b1, b2⟩ := hbig _ hbn
      obtain ⟨q, w', hr, hrow', hfr', hq⟩ := run_append_row (P := C.P) w t t' o.type el i z hu hi hz ht' hzs p n' v1 hrow (a.eval x) y.len vs ro.lenOf ro.first ro.hlen jo.ones b2 b1
      rw [← hse] at hr
      have hm0 : E fr = none := hfr fr (Nat.le_refl _) (by omega)
      have hle := Env.le_set hm0 q
      refine OpOk.post G (hrun _ _ hr) (by rw [hval]; simp [conc, Env.set]) (Post.one (p := q) (F1 := blkO q ++ Fz) (R1 := Rz) hm0 hnn hnews (spent_ hupd) (hfr'.mono (fun k hk => hblk k hk)) ?_ ?_ ?_ ?_)
      · refine ⟨?_, v1 ++ vs, Fz, Rz, ?_, ?_, rfl, rfl⟩
        · have := jo.hol
          cases zz <;> first | trivial | simp [M.noHol] at this
        · have lt := M.reads_lt jo.reads
          refine M.reads_kept hle jo.reads (fun k hk => hfr'.block k (lt.1 k hk) (fun hk' => hdis k hk' hk)) (fun k hk => hfr'.block k (lt.2 k hk) (fun hk' => ?_))
          obtain ⟨n1, c1, hc1, _, hk1⟩ := hblk k hk'
          rcases jo.inR k hk with h6 | h6 | ⟨m, c, hm, h6⟩
          · obtain ⟨m, c, hm, h6⟩ := hR1 k h6
            rcases G.feet n1 c1 k (by assumption) hk1 with h7 | h7
            · exact (G.old m c k hm h6).2 h7
            · have := (G.old m c k hm h6).1; omega
          · obtain ⟨m, c, hm, h6⟩ := ro.inR k h6
            rcases G.feet n1 c1 k (by assumption) hk1 with h7 | h7
            · exact (G.old m c k hm h6).2 h7
            · have := (G.old m c k hm h6).1; omega
          · rcases G.feet n1 c1 k (by assumption) hk1 with h7 | h7
            · exact (G.old m c k hm h6).2 h7
            · have := (G.old m c k hm h6).1; omega
        · rw [jo.he, jo.hsize, hbs, jo.hlen, hbl]
          exact hrow'
      · rw [List.nodup_append]
        refine ⟨by unfold blkO; split <;> simp, hndz, fun k hk k' hk' e0 => ?_⟩
        subst e0
        rcases hq k hk with h6 | h6
        · exact hdis k h6 hk'
        · have := (M.reads_lt jo.reads).1 k hk'; omega
      · intro k hk
        rcases List.mem_append.1 hk with hk | hk
        · rcases hq k hk with h6 | h6
          · exact .inl (hblk k h6)
          · exact .inr h6
        · exact .inl (hFz k hk)
      · intro k hk
        rcases jo.inR k hk with h6 | h6 | h6
        · exact hR1 k h6
        · exact ro.inR k h6
        · exact h6
    split at h5
    · -- onto nil
      simp only [conc, Option.some.injEq] at hsv
      rw [T.get_ite] at h5
      split at h5
      · rename_i hm
        have hm : y.len = 0 := by simpa using hm
        obtain rfl := get_one h5
        have hl0 := ro.lenOf
        have hf0 := ro.first
        have hv0 := ro.hlen
        rw [hm] at hl0 hf0 hv0
        have hvs0 : vs = [] := List.eq_nil_of_length_eq_zero (by simpa using hv0)
        subst hvs0
        refine OpOk.value Gm (V := .slice none 0 0) (hrun _ _ ?_) rfl rfl rfl
        rw [← hsv]
        exact run_append_nil0' w t t' o.type el i hu hi ht' (a.eval x) 0 hl0 hf0
      · obtain ⟨hd, h5⟩ := T.get_when h5
        have hd : y.len ≤ mostRows := by simpa using hd
        obtain ⟨⟨zz, us, ms⟩, hj, h5⟩ := T.get_bindO h5
        simp only at h5
        cases hnb : nodupB (sp ++ us) with
        | false => rw [hnb] at h5; exact get_no h5
        | true =>
          rw [hnb] at h5
          simp only [cond_true] at h5
          obtain rfl := get_one h5
          have hnd := nodupB_ok hnb
          obtain ⟨Fz, Rz, jo⟩ := join_ok G (x := nilM el i.size) (v1 := []) (F1 := []) (R1 := []) ⟨rfl, rfl, rfl⟩ ro.reads (by simp [nilM, M.len]) (by rw [ro.hsize]; exact ro.hlen) hj
          have hsp : ∀ n ∈ sp ++ us, (hp n).isSome = true := by
            intro n hn
            rcases List.mem_append.1 hn with hn | hn
            · exact ro.hsp n hn
            · exact jo.hus n hn
          have hdj : ∀ n ∈ us, ∀ k ∈ F n, k ∉ Fy := by
            intro n hn k hk hk'
            obtain ⟨m, hm, hkm⟩ := ro.inF k hk'
            obtain ⟨b1, hb1⟩ := Option.isSome_iff_exists.1 (jo.hus n hn)
            obtain ⟨b2, hb2⟩ := Option.isSome_iff_exists.1 (ro.hsp m hm)
            have := G.dist n m b1 b2 k hb1 hb2 hk hkm
            subst this
            exact (List.nodup_append.1 hnd).2.2 n hm n hn rfl
          refine fin (b := nilM el i.size) (v1 := []) (F1 := []) (R1 := []) (p := { block := 0, stride := i.size, nil := true }) (n' := 0) (l := sp ++ us) (us := us) (ms := ms) ⟨by simp, rfl, hsz, .inl ⟨rfl, rfl, rfl, rfl⟩⟩ (by rw [← hsv]; rfl) (by omega) jo rfl (by simp [nilM, M.len]) (by simp) rfl rfl rfl
            (fun k hk => by simp [blkO] at hk) (fun k hk => ?_) (fun k hk => by simp [blkO] at hk) (jo.nodup List.nodup_nil ro.nodup (fun k hk => by simp at hk) (fun n hn k hk => ⟨by simp, hdj n hn k hk⟩)) (fun k hk => by simp at hk)
          rcases jo.inF k hk with h6 | h6 | ⟨n, hn, h6⟩
          · simp at h6
          · obtain ⟨m, hm, hkm⟩ := ro.inF k h6
            exact touch_ rfl m (by simp [hm]) (ro.hsp m hm) k hkm
          · exact touch_ rfl n (by simp [hn]) (jo.hus n hn) k h6
    · rename_i n r of len c
      split at h5
      case h_2 => exact get_no h5
      rename_i b hbn
      cases hq : (Nat.beq of 0 && Nat.beq b.e el && Nat.beq b.size i.size) with
      | false => rw [hq] at h5; exact get_no h5
      | true =>
        rw [hq] at h5
        simp only [cond_true] at h5
        simp only [Bool.and_eq_true] at hq
        obtain ⟨⟨q1, q2⟩, q3⟩ := hq
        obtain rfl := Nat.eq_of_beq_eq_true q1
        have q2 := Nat.eq_of_beq_eq_true q2
        have q3 := Nat.eq_of_beq_eq_true q3
        obtain ⟨p, hp1, hlk, us0, F0, R0, hreads, hbox⟩ := G.holds n _ hbn
        have hndn := G.nodup n _ hbn
        obtain ⟨c1, c2, c3, c4, c5⟩ := boxH_cells hbox
        obtain ⟨hrow, hFn, hRn⟩ := hbox
        simp only [conc, hp1, Option.map_some, Option.some.injEq] at hsv
        rw [hFn, List.nodup_append] at hndn
        split at h5
        · obtain ⟨hd, h5⟩ := T.get_when h5
          have hd : len + y.len ≤ mostRows := by simpa using hd
          obtain ⟨b', hsub, h5⟩ := T.get_bindO h5
          obtain ⟨⟨zz, us, ms⟩, hj, h5⟩ := T.get_bindO h5
          simp only at h5
          cases hnb : nodupB (n :: (sp ++ us)) with
          | false => rw [hnb] at h5; exact get_no h5
          | true =>
            rw [hnb] at h5
            simp only [cond_true] at h5
            obtain rfl := get_one h5
            have hnd := nodupB_ok hnb
            obtain ⟨e1, e2, e3, e4, _, _, F', R', e6, e7, e8, e9⟩ := M.sub_ok hreads hsub c3
            have hrs := rowAt_sub hrow e4
            rw [q2, q3] at hrs
            rw [q3] at e6
            obtain ⟨Fz, Rz, jo⟩ := join_ok G e6 ro.reads (by rw [e3, e2, q3]; exact hrs.1) (by rw [ro.hsize]; exact ro.hlen) hj
            have hnsp : n ∉ sp ++ us := (List.nodup_cons.1 hnd).1
            have hnd2 := (List.nodup_cons.1 hnd).2
            have hdF : ∀ k ∈ F', k ∉ Fy := by
              intro k hk hk'
              obtain ⟨m, hm, hkm⟩ := ro.inF k hk'
              obtain ⟨b2, hb2⟩ := Option.isSome_iff_exists.1 (ro.hsp m hm)
              have := G.dist n m _ b2 k hbn hb2 (by rw [hFn]; simp [e7 k hk]) hkm
              subst this
              exact hnsp (by simp [hm])
            have hdU : ∀ m ∈ us, ∀ k ∈ F m, k ∉ F' ∧ k ∉ Fy := by
              intro m hm k hk
              obtain ⟨b1, hb1⟩ := Option.isSome_iff_exists.1 (jo.hus m hm)
              refine ⟨fun hk' => ?_, fun hk' => ?_⟩
              · have := G.dist n m _ b1 k hbn hb1 (by rw [hFn]; simp [e7 k hk']) hk
                subst this
                exact hnsp (by simp [hm])
              · obtain ⟨m', hm', hkm⟩ := ro.inF k hk'
                obtain ⟨b2, hb2⟩ := Option.isSome_iff_exists.1 (ro.hsp m' hm')
                have := G.dist m m' b1 b2 k hb1 hb2 hk hkm
                subst this
                exact (List.nodup_append.1 hnd2).2.2 m hm' m hm rfl
            have tn : ∀ k ∈ F n, touched hp F { val := AV.sl fr 0 0 (len + y.len) none, reads := n :: (ns ++ us ++ ms), upd := spent (n :: (sp ++ us)), news := [(fr, some (AB.own zz))], nn := 1 } k := fun k hk => touch_ rfl n (by simp) (by rw [hbn]; rfl) k hk
            refine fin (p := { p with base := p.base + r * p.stride, cap := p.cap - r }) (n' := len) (l := n :: (sp ++ us)) hrs ?_ hd jo (e2.trans q3) e3 rfl rfl rfl rfl (fun k hk => tn k (by rw [hFn]; exact List.mem_append_left _ hk)) (fun k hk => ?_) (fun k hk hk' => ?_) (jo.nodup (e9 hndn.2.1) ro.nodup hdF hdU) (fun k hk => ⟨n, _, hbn, by rw [hRn]; exact e8 k hk⟩)
            · rw [← hsv]
              simp [Pl.ptr, Pl.addr]
            · rcases jo.inF k hk with h6 | h6 | ⟨m, hm, h6⟩
              · exact tn k (by rw [hFn]; simp [e7 k h6])
              · obtain ⟨m, hm, hkm⟩ := ro.inF k h6
                exact touch_ rfl m (by simp [hm]) (ro.hsp m hm) k hkm
              · exact touch_ rfl m (by simp [hm]) (jo.hus m hm) k h6
            · have hkn : k ∈ F n := by rw [hFn]; exact List.mem_append_left _ hk
              rcases jo.inF k hk' with h6 | h6 | ⟨m, hm, h6⟩
              · exact hndn.2.2 k hk k (e7 k h6) rfl
              · obtain ⟨m, hm, hkm⟩ := ro.inF k h6
                obtain ⟨b2, hb2⟩ := Option.isSome_iff_exists.1 (ro.hsp m hm)
                have := G.dist n m _ b2 k hbn hb2 hkn hkm
                subst this
                exact hnsp (by simp [hm])
              · obtain ⟨b1, hb1⟩ := Option.isSome_iff_exists.1 (jo.hus m hm)
                have := G.dist n m _ b1 k hbn hb1 hkn h6
                subst this
                exact hnsp (by simp [hm])
        · -- past its capacity: what there was stays
          rename_i k0
          cases hmv : b.canMove with
          | false => rw [hmv] at h5; exact get_no h5
          | true =>
            rw [hmv] at h5
            simp only [cond_true] at h5
            obtain ⟨hd, h5⟩ := T.get_when h5
            have hd : k0 < len + y.len ∧ len + y.len ≤ mostRows := by simpa using hd
            obtain ⟨b', hsub, h5⟩ := T.get_bindO h5
            obtain ⟨⟨zz, us, ms⟩, hj, h5⟩ := T.get_bindO h5
            simp only at h5
            cases hnb : nodupB (n :: (sp ++ us)) with
            | false => rw [hnb] at h5; exact get_no h5
            | true =>
              rw [hnb] at h5
              simp only [cond_true] at h5
              obtain rfl := get_one h5
              have hnd := nodupB_ok hnb
              obtain ⟨e1, e2, e3, e4, _, _, F', R', e6, e7, e8, e9⟩ := M.sub_ok hreads hsub c3
              obtain ⟨rfl, rfl, _⟩ := canMove_any (sub_move hmv hsub) e6
              have hrs := rowAt_sub hrow e4
              have hvl : ((us0.drop (r * b.size)).take (len * b.size)).length = len * i.size := by rw [← q3]; exact hrs.1
              rw [q3] at e6 hvl
              obtain ⟨Fz, Rz, jo⟩ := join_ok G e6 ro.reads (by rw [e3, e2, q3]; exact hvl) (by rw [ro.hsize]; exact ro.hlen) hj
              have hnsp : n ∉ sp ++ us := (List.nodup_cons.1 hnd).1
              have hnd2 := (List.nodup_cons.1 hnd).2
              have hdU : ∀ m ∈ us, ∀ k ∈ F m, k ∉ ([] : List Nat) ∧ k ∉ Fy := by
                intro m hm k hk
                obtain ⟨b1, hb1⟩ := Option.isSome_iff_exists.1 (jo.hus m hm)
                refine ⟨by simp, fun hk' => ?_⟩
                obtain ⟨m', hm', hkm⟩ := ro.inF k hk'
                obtain ⟨b2, hb2⟩ := Option.isSome_iff_exists.1 (ro.hsp m' hm')
                have := G.dist m m' b1 b2 k hb1 hb2 hk hkm
                subst this
                exact (List.nodup_append.1 hnd2).2.2 m hm' m hm rfl
              obtain ⟨b1, b2⟩ := hbig _ hd.2
              have hfo : ∀ w' : World, w'.heap = w.heap → (Builtin.firstCells i.size len (.slice (p.ptr r 0) len k0)).run C.P w' = .ok ((us0.drop (r * i.size)).take (len * i.size)).toArray w' := by
                refine first_ok (fun hn => ?_) hvl hsz (fun j V hV => ?_)
                · have := c4 hn
                  have h0 : len = 0 := by omega
                  rw [h0]; simp
                · rw [List.getElem?_take] at hV
                  split at hV
                  · rw [List.getElem?_drop] at hV
                    rw [← q3] at hV
                    have := c5 r j V hV
                    rwa [Nat.zero_add]
                  · cases hV
              have hr := run_append_grow' (P := C.P) w t t' o.type el i z hu hi hz ht' (p.ptr r 0) len k0 (a.eval x) y.len ((us0.drop (r * i.size)).take (len * i.size)) vs ro.lenOf hfo ro.first hd.1 (by simp only [maxLen] at b2; omega) (growslice_fits hd.1 b1)
              obtain ⟨hgl, hgr⟩ := grown_row (w := w) (e := el) (i := i) (z := z) hzs len y.len k0 ((us0.drop (r * i.size)).take (len * i.size)) vs hvl ro.hlen b2
              simp only [Option.getD_some] at hsv
              rw [hsv] at hr
              have hm0 : E fr = none := hfr fr (Nat.le_refl _) (by simp)
              have hFz : ∀ k ∈ Fz, touched hp F { val := AV.sl fr 0 0 (len + y.len) none, reads := n :: (ns ++ us ++ ms), upd := spent (sp ++ us), news := [(fr, some (AB.own zz))], nn := 1 } k := by
                intro k hk
                rcases jo.inF k hk with h6 | h6 | ⟨m, hm, h6⟩
                · simp at h6
                · obtain ⟨m, hm, hkm⟩ := ro.inF k h6
                  exact touch_ rfl m (by simp [hm]) (ro.hsp m hm) k hkm
                · exact touch_ rfl m (by simp [hm]) (jo.hus m hm) k h6
              have hwf : Fr (fun _ => False) w (w.drew.alloc (.cells (((us0.drop (r * i.size)).take (len * i.size)).toArray ++ vs.toArray ++ Builtin.zeroCells z.cells (grownCap w (len + y.len) k0 el - (len + y.len))) el)) := ⟨rfl, rfl, rfl, by simp, fun k hk _ => heap_alloc_old w.drew _ hk⟩
              refine OpOk.post G (hrun _ _ hr) (by simp [conc, Env.set, Pl.ptr, Pl.addr]) (Post.one (p := { block := w.heap.size, stride := i.size, cap := grownCap w (len + y.len) k0 el }) (F1 := w.heap.size :: Fz) (R1 := Rz) hm0 rfl rfl (spent_ rfl) (hwf.mono (fun _ h => h.elim)) ?_ ?_ ?_ ?_)
              · refine ⟨?_, _, Fz, Rz, M.reads_kept (Env.le_set hm0 _) jo.reads (fun k hk => hwf.block k ((M.reads_lt jo.reads).1 k hk) (fun h => h)) (fun k hk => hwf.block k ((M.reads_lt jo.reads).2 k hk) (fun h => h)), ?_, by simp [blkO], rfl⟩
                · have := jo.hol
                  cases zz <;> first | trivial | simp [M.noHol] at this
                · rw [jo.he, jo.hsize, e2, q3, jo.hlen, e3]
                  rcases hgr with ⟨he, _⟩ | ⟨g, cap, cur, he, _, hh, g1, g2, g3, g4⟩
                  · cases he
                  · simp only [Value.slice.injEq, Option.some.injEq, Addr.mk.injEq, true_and] at he
                    obtain ⟨⟨rfl, _⟩, rfl⟩ := he
                    exact ⟨hgl, rfl, hsz, .inr ⟨rfl, cur, hh, g1, g2, Nat.le_of_eq ((Nat.zero_add _).trans g3.symm), by simpa using g4⟩⟩
              · refine List.nodup_cons.2 ⟨fun hk => ?_, jo.nodup List.nodup_nil ro.nodup (fun k hk => by simp at hk) hdU⟩
                have := (M.reads_lt jo.reads).1 _ hk; omega
              · intro k hk
                rcases List.mem_cons.1 hk with rfl | hk
                · exact .inr (Nat.le_refl _)
                · exact .inl (hFz k hk)
              · intro k hk
                rcases jo.inR k hk with h6 | h6 | h6
                · simp at h6
                · exact ro.inR k h6
                · exact h6
    · exact get_no h5
/-! ### Bytes as a string; a slice against nil -/
theorem bytesL_ok {E : Env} : ∀ {cs : List AV} {l : List Int} {vs : List Value}, bytesL cs = some l → concs E cs = some vs → vs = l.map (Value.int .u8)
  | [], l, vs, h, hc => by
    simp only [bytesL, Option.some.injEq] at h
    simp only [concs, Option.some.injEq] at hc
    subst h hc; rfl
  | v :: r, l, vs, h, hc => by
    simp only [bytesL] at h
    split at h
    case h_2 => cases h
    rename_i n
    split at h
    case h_2 => cases h
    rename_i l' hl
    cases h
    obtain ⟨V, Vs, h1, h2, rfl⟩ := concs_cons.1 hc
    simp only [conc, Option.some.injEq] at h1
    subst h1
    rw [bytesL_ok hl h2]
    rfl
theorem bytesM_ok {E : Env} {w : World} {y : M} {l : List Int} {vs : List Value} {F R : List Nat} (h : bytesM y = some l) (hr : y.reads E w false vs F R) : vs = l.map (Value.int .u8) := by
  cases y with
  | raw e s cs =>
    simp only [bytesM] at h
    cases hb : Nat.beq s 1 with
    | false => rw [hb] at h; cases h
    | true => rw [hb] at h; exact bytesL_ok h hr.1
  | rows e sh ds =>
    simp only [bytesM] at h
    split at h
    · rename_i hs
      subst hs
      cases h
      have key : ∀ (ds : List Int) (vs : List Value) (F R : List Nat), rowsH (hold w false byteSh) ds vs F R → vs = ds.map (Value.int .u8) := by
        intro ds
        induction ds with
        | nil => intro vs F R h; exact h.1
        | cons d ds ih =>
          intro vs F R h
          obtain ⟨ys, zs, F1, F2, R1, R2, rfl, _, _, h1, h2⟩ := h
          obtain ⟨vs', rfl, _, h3, _⟩ := h1
          subst h3
          rw [ih zs F2 R2 h2]
          rfl
      exact key ds vs F R hr
    · cases h
  | hol e sh l i q cs => simp [bytesM] at h
theorem notStr {E : Env} {av : AV} {s : ByteArray} (hx : conc E av = some (.string s)) (hi : isSlice av = true) : False := by
  unfold isSlice at hi
  split at hi
  · simp [conc] at hx
  · simp [conc] at hx
  · simp [conc] at hx
  · cases hi
theorem convert_ok {C : Cx} {src dst : TypeId} {x : Operand} {o : Oper} {a : Act} {w W0 : World} {S : Reg} {E : Env} {hp : Nat → Option AB} {lo : Nat} {e : Eff} {av : AV} (ho : o.op = .convert src dst x) (hx : conc E av = some (a.eval x)) (G : Gam W0 S E hp w)
    (h : (effConvert C.P src dst av hp).get = some e) : OpOk C.P o a w W0 S E hp lo e := by
  obtain ⟨FF, RR, G⟩ := G
  unfold effConvert at h
  split at h
  case h_2 => exact get_no h
  rename_i el hs hd
  split at h
  case h_2 => exact get_no h
  rename_i he
  cases hi : isSlice av with
  | false => rw [hi] at h; exact get_no h
  | true =>
  rw [hi] at h
  simp only [cond_true] at h
  have nostr : ∀ s, a.eval x = .string s → False := by
    intro s hs'
    rw [hs'] at hx
    exact notStr hx hi
  obtain ⟨⟨y, ns, sp⟩, hr, h⟩ := T.get_bindO h
  simp only at h
  split at h
  case h_2 => exact get_no h
  rename_i l hb
  obtain rfl := get_one h
  obtain ⟨vs, Fy, Ry, q⟩ := rows_ok (P := C.P) (by decide) hx G hr
  have hvs := bytesM_ok hb q.reads
  have hlen : l.length = y.len := by have := q.hlen; rw [hvs] at this; simpa using this
  refine OpOk.value ⟨FF, RR, G⟩ (V := .string (strOfNums l)) ?_ rfl rfl rfl
  have hl := q.lenOf w
  have hf := q.first w rfl
  have hrun : (convert src dst (a.eval x)).run C.P w = .ok (.string (strOfNums l)) w := by
    generalize hX : a.eval x = X at hl hf
    cases X with
    | slice p n c =>
      have hn : n = y.len := by simpa [Builtin.lenOf] using hl
      subst hn
      cases p with
      | none =>
        rw [run_convert_bytes_nil w src el hs he y.len c dst hd]
        simp only [Builtin.firstCells, Sem.run_pure, Result.ok.injEq, and_true] at hf
        have : vs = [] := by have := congrArg Array.toList hf; simpa using this.symm
        rw [hvs] at this
        have : l = [] := by simpa using this
        subst this
        rfl
      | some p =>
        rw [run_convert_bytes_string w src dst el (some p) y.len c hs he hd]
        simp only [Builtin.firstCells, Nat.mul_one] at hf
        rw [hvs] at hf
        rw [run_bytesToString w p y.len c l hf, foldl_push_bytes]
        have he0 : ByteArray.empty.data = #[] := rfl
        rw [he0]
        simp [strOfNums]
    | string s => exact (nostr s hX).elim
    | _ => simp [Builtin.lenOf, stuck] at hl
  simp only [execOp, ho, Sem.run_bind, hrun, Result.andThen_ok, Sem.run_pure]
theorem nilS_run {P : Program} {op : BinOp} {ty : TypeId} {n r o len : Nat} {c : Option Nat} {w W0 : World} {S : Reg} {E : Env} {hp : Nat → Option AB} {e : Eff} {X : Value} (hx : conc E (.sl n r o len c) = some X) (G : Gam W0 S E hp w) (h : (effNilS P op ty n hp).get = some e) :
    ∃ b, e = { val := .v (.bool b), reads := [n] } ∧ (binOp op ty X (.slice none 0 0)).run P w = .ok (.bool b) w ∧ (binOp op ty (.slice none 0 0) X).run P w = .ok (.bool b) w ∧ ∃ a l c, X = .slice (some a) l c := by
  obtain ⟨FF, RR, G⟩ := G
  unfold effNilS at h
  split at h
  case h_2 => exact get_no h
  rename_i el hs
  split at h
  case h_2 => exact get_no h
  rename_i y hy
  obtain ⟨h1, h2⟩ := T.get_when h
  have h1 : 0 < y.len := by simpa using h1
  obtain ⟨b, hb, hc⟩ := Option.bind_eq_some_iff.1 hy
  obtain ⟨p, hp1, hh⟩ := G.holds n b hb
  obtain ⟨own, lx, vs, F0, R0, _, hbox⟩ := cont_box hh hc
  have hnil : p.nil = false := by
    cases hn : p.nil with
    | false => rfl
    | true =>
      exfalso
      cases own with
      | true =>
        obtain ⟨⟨_, _, _, h4⟩, _⟩ := hbox
        rcases h4 with ⟨_, h5, _⟩ | ⟨h5, _⟩
        · omega
        · rw [hn] at h5; cases h5
      | false =>
        obtain ⟨_, _, _, ⟨h5, _⟩, _⟩ := hbox
        have := h5 hn
        omega
  simp only [conc, hp1, Option.map_some, Option.some.injEq, Pl.ptr, hnil, Bool.false_eq_true, if_false] at hx
  subst hx
  split at h2
  · obtain rfl := get_one h2
    exact ⟨false, rfl, by rw [Lib.run_eql_slice_nil w ty el _ _ _ _ _ hs]; rfl, by rw [run_eql_nil_slice w ty el _ _ _ _ _ hs]; rfl, _, _, _, rfl⟩
  · obtain rfl := get_one h2
    exact ⟨true, rfl, by rw [run_neq_slice_nil_any w ty el _ _ _ _ _ hs]; rfl, by rw [run_neq_nil_slice w ty el _ _ _ _ _ hs]; rfl, _, _, _, rfl⟩
  · exact get_no h2
/-! ### Floats -/
theorem fBits {op : BinOp} {k : FloatKind} {x y : Nat} (h : fOk op k x y = true) : floatBits op k x y = some (fVal op k x y) := by
  unfold fOk at h
  unfold fVal
  cases hb : floatBits op k x y with
  | none => rw [hb] at h; cases h
  | some r => rfl
theorem float_run {P : Program} {w : World} {op : BinOp} {ty : TypeId} {k : FloatKind} {x y : Nat} {e : Eff} (h : (effFloat op k x y).get = some e) : ∃ V, e.val = .v V ∧ (binOp op ty (.float k x) (.float k y)).run P w = .ok V w ∧ e.upd = [] ∧ e.news = [] := by
  have ar : ∀ op', (T.when (fOk op' k x y) (one { val := .v (.float k (fVal op' k x y)) })).get = some e → ∃ V, e.val = .v V ∧ (binOp op' ty (.float k x) (.float k y)).run P w = .ok V w ∧ e.upd = [] ∧ e.news = [] := by
    intro op' h
    obtain ⟨h1, h2⟩ := T.get_when h
    obtain rfl := get_one h2
    exact ⟨_, rfl, run_float_arith w op' ty k x y _ (fBits h1), rfl, rfl⟩
  unfold effFloat at h
  cases op <;> first
    | exact ar _ h
    | exact get_no h
    | (obtain rfl := get_one h; exact ⟨_, rfl, by simp [binOp, Op.floatCmp, fCmp], rfl, rfl⟩)
theorem complex_run {P : Program} {w : World} {op : BinOp} {ty : TypeId} {k : FloatKind} {a b c d : Nat} {e : Eff} (h : (effComplex op k a b c d).get = some e) : ∃ V, e.val = .v V ∧ (binOp op ty (.complex k a b) (.complex k c d)).run P w = .ok V w ∧ e.upd = [] ∧ e.news = [] := by
  have ar : ∀ op', (op' = .add ∨ op' = .sub) → (T.when (fOk op' k a c && fOk op' k b d) (one { val := .v (.complex k (fVal op' k a c) (fVal op' k b d)) })).get = some e → ∃ V, e.val = .v V ∧ (binOp op' ty (.complex k a b) (.complex k c d)).run P w = .ok V w ∧ e.upd = [] ∧ e.news = [] := by
    intro op' ho h
    obtain ⟨h1, h2⟩ := T.get_when h
    obtain rfl := get_one h2
    rw [Bool.and_eq_true] at h1
    exact ⟨_, rfl, run_complex_sum w op' ho ty k a b c d _ _ (by unfold cSumBits; rw [fBits h1.1, fBits h1.2]; rfl), rfl, rfl⟩
  unfold effComplex at h
  cases op <;> first
    | exact ar _ (.inl rfl) h
    | exact ar _ (.inr rfl) h
    | exact get_no h
    | (obtain rfl := get_one h; exact ⟨_, rfl, by simp [binOp, Op.complexOp, Op.Complex.cmp, Op.floatCmp, asBool, fCmp], rfl, rfl⟩)
theorem int_run {P : Program} {w : World} {op : BinOp} {ty : TypeId} {k k' : IntKind} {x y : Int} {e : Eff} (h : (effInt op k k' x y).get = some e) : ∃ V, e.val = .v V ∧ (binOp op ty (.int k x) (.int k' y)).run P w = .ok V w ∧ e.upd = [] ∧ e.news = [] := by
  unfold effInt at h
  cases op <;> dsimp only at h <;> first
    | exact get_no h
    | (split at h
       · rename_i hk
         subst hk
         obtain ⟨h1, h2⟩ := T.get_when h
         obtain rfl := get_one h2
         have h1 : y ≠ 0 := of_decide_eq_true h1
         exact ⟨_, rfl, by simp [binOp, Op.intDiv, h1], rfl, rfl⟩
       · exact get_no h)
    | (obtain ⟨h1, h2⟩ := T.get_when h
       obtain rfl := get_one h2
       have h1 : 0 ≤ y := of_decide_eq_true h1
       have h1 : ¬ y < 0 := by omega
       exact ⟨_, rfl, by simp [binOp, Op.shift, h1], rfl, rfl⟩)
theorem run_min_flt {P : Program} {w : World} (ts : Array TypeId) (ty : TypeId) (k : FloatKind) (x y : Nat) (h : fMinOk k x y = true) : (Builtin.min_ ts ty #[.float k x, .float k y]).run P w = .ok (.float k (fMin k x y)) w := by
  unfold fMinOk at h
  unfold fMin
  cases hc : k.format.order x y with
  | none => rw [hc] at h; cases h
  | some o => cases o <;> simp [Builtin.min_, Builtin.min2, hc]
theorem run_max_flt {P : Program} {w : World} (ts : Array TypeId) (ty : TypeId) (k : FloatKind) (x y : Nat) (h : fMinOk k x y = true) : (Builtin.max_ ts ty #[.float k x, .float k y]).run P w = .ok (.float k (fMax k x y)) w := by
  unfold fMinOk at h
  unfold fMax
  cases hc : k.format.order x y with
  | none => rw [hc] at h; cases h
  | some o => cases o <;> simp [Builtin.max_, Builtin.max2, hc]
theorem cmp_ok {C : Cx} {op : BinOp} {ty : TypeId} {x y : Operand} {ty' : TypeId} {o : Oper} {a : Act} {w W0 : World} {S : Reg} {E : Env} {hp : Nat → Option AB} {lo : Nat} {e : Eff} {av bv : AV} (ho : o.op = .binOp op ty x y ty') (hx : conc E av = some (a.eval x)) (hy : conc E bv = some (a.eval y)) (G : Gam W0 S E hp w)
    (h : (effCmp C.P op ty av bv hp).get = some e) : OpOk C.P o a w W0 S E hp lo e := by
  unfold effCmp at h
  split at h
  · rename_i n r of len c
    obtain ⟨b, rfl, h1, _, p, l, k, hX⟩ := nilS_run hx G h
    simp only [conc, Option.some.injEq] at hy
    refine OpOk.value G (V := .bool b) ?_ rfl rfl rfl
    rw [hX] at h1
    have hg : ∀ u v, (eqGuard op ty u v (.slice (some p) l k) (.slice none 0 0)).run C.P w = .ok () w := fun u v => by cases op <;> simp [eqGuard]
    simp only [execOp, ho, hX, ← hy, Sem.run_bind, hg, Result.andThen_ok, h1, Sem.run_pure]
  · rename_i n r of len c
    obtain ⟨b, rfl, _, h1, p, l, k, hX⟩ := nilS_run hy G h
    simp only [conc, Option.some.injEq] at hx
    refine OpOk.value G (V := .bool b) ?_ rfl rfl rfl
    rw [hX] at h1
    have hg : ∀ u v, (eqGuard op ty u v (.slice none 0 0) (.slice (some p) l k)).run C.P w = .ok () w := fun u v => by cases op <;> simp [eqGuard]
    simp only [execOp, ho, hX, ← hx, Sem.run_bind, hg, Result.andThen_ok, h1, Sem.run_pure]
  · rename_i k x' k' y'
    split at h
    case isFalse => exact get_no h
    rename_i hk
    subst hk
    simp only [conc, Option.some.injEq] at hx hy
    obtain ⟨V, hV, h1, hu, hn⟩ := float_run (P := C.P) (w := w) (ty := ty) h
    refine OpOk.value G (V := V) ?_ (by rw [hV]; rfl) hu hn
    have hg : ∀ u v, (eqGuard op ty u v (.float k x') (.float k y')).run C.P w = .ok () w := fun u v => by cases op <;> simp [eqGuard]
    simp only [execOp, ho, ← hx, ← hy, Sem.run_bind, hg, Result.andThen_ok, h1, Sem.run_pure]
  · rename_i k a1 b1 k' c1 d1
    split at h
    case isFalse => exact get_no h
    rename_i hk
    subst hk
    simp only [conc, Option.some.injEq] at hx hy
    obtain ⟨V, hV, h1, hu, hn⟩ := complex_run (P := C.P) (w := w) (ty := ty) h
    refine OpOk.value G (V := V) ?_ (by rw [hV]; rfl) hu hn
    have hg : ∀ u v, (eqGuard op ty u v (.complex k a1 b1) (.complex k c1 d1)).run C.P w = .ok () w := fun u v => by cases op <;> simp [eqGuard]
    simp only [execOp, ho, ← hx, ← hy, Sem.run_bind, hg, Result.andThen_ok, h1, Sem.run_pure]
  · rename_i k x' k' y'
    simp only [conc, Option.some.injEq] at hx hy
    obtain ⟨V, hV, h1, hu, hn⟩ := int_run (P := C.P) (w := w) (ty := ty) h
    refine OpOk.value G (V := V) ?_ (by rw [hV]; rfl) hu hn
    have hg : ∀ u v, (eqGuard op ty u v (.int k x') (.int k' y')).run C.P w = .ok () w := fun u v => by cases op <;> simp [eqGuard]
    simp only [execOp, ho, ← hx, ← hy, Sem.run_bind, hg, Result.andThen_ok, h1, Sem.run_pure]
  · exact eq_ok ho hx hy G h
end Go.Proofs.YtpfbpcaehmhefaaDoorB.Sx
