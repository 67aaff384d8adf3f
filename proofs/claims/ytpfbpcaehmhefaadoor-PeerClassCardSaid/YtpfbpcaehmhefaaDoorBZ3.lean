/- The engine, part 3: soundness of the effects: reading, writing, addresses. -/
import Derived.Test.YtpfbpcaehmhefaaDoorBZ2
import Derived.Test.YtpfbpcaehmhefaaDoorBYA
import Derived.ChangeKeysEq
namespace Go.Proofs.YtpfbpcaehmhefaaDoorB.Sx
open Go.RowKit
set_option linter.unusedSimpArgs false
set_option linter.unusedVariables false

/-- An operation may be carried out: whatever goes on from its effect goes on. -/
def OpOk (P : Program) (o : Oper) (a : Act) (w W0 : World) (S : Reg) (E : Env) (hp : Nat → Option AB) (lo : Nat) (e : Eff) : Prop :=
  ∀ (next : Act → World → Prop) (Q : Exit → Act → World → Prop), (∀ V w' E', conc E' e.val = some V → E.le E' → (∀ n, E n = none → E' n ≠ none → lo ≤ n ∧ n < lo + e.nn) → Gam W0 S E' (after hp e) w' → next (a.put o.dst V) w') → o.wp P a w next Q

theorem OpOk.post {P : Program} {o : Oper} {a : Act} {w w' W0 : World} {S : Reg} {E E' : Env} {hp : Nat → Option AB} {F R F' R' : Nat → List Nat} {lo : Nat} {e : Eff} {V : Value} (G : Gf W0 S E hp w F R) (hr : (execOp a.eval o).run P w = .ok (.value V) w') (hv : conc E' e.val = some V)
    (k : Post E hp w F R lo e E' w' F' R') : OpOk P o a w W0 S E hp lo e := by
  intro next Q h
  unfold Oper.wp
  rw [hr]
  exact h V w' E' hv k.ext k.dom (G.apply k)
theorem OpOk.post' {P : Program} {o : Oper} {a : Act} {w w' W0 : World} {S : Reg} {E E' : Env} {hp : Nat → Option AB} {F R F' R' : Nat → List Nat} {lo : Nat} {e : Eff} (G : Gf W0 S E hp w F R) (hr : (execOp a.eval o).run P w = .ok .skip w') (hv : conc E' e.val = some undef)
    (k : Post E hp w F R lo e E' w' F' R') : OpOk P o a w W0 S E hp lo e := by
  intro next Q h
  unfold Oper.wp
  rw [hr]
  exact h undef w' E' hv k.ext k.dom (G.apply k)
theorem after_same {hp : Nat → Option AB} {e : Eff} (hu : e.upd = []) (hn : e.news = []) : after hp e = hp := by
  funext n
  simp [after, Eff.put, hu, hn, lookO]
theorem OpOk.value {P : Program} {o : Oper} {a : Act} {w W0 : World} {S : Reg} {E : Env} {hp : Nat → Option AB} {lo : Nat} {e : Eff} {V : Value} (G : Gam W0 S E hp w) (hr : (execOp a.eval o).run P w = .ok (.value V) w) (hv : conc E e.val = some V)
    (hu : e.upd = []) (hn : e.news = []) : OpOk P o a w W0 S E hp lo e := by
  intro next Q h
  unfold Oper.wp
  rw [hr]
  refine h V w E hv E.le_refl (fun n h1 h2 => (h2 h1).elim) ?_
  rw [after_same hu hn]
  exact G

theorem lookO_one {n m : Nat} {b x : Option AB} (h : lookO [(n, b)] m = some x) : m = n ∧ x = b := by
  simp only [lookO] at h
  cases hb : Nat.beq n m with
  | false => rw [hb] at h; simp at h
  | true => rw [hb] at h; simp at h; exact ⟨(Nat.eq_of_beq_eq_true hb).symm, h.symm⟩
theorem lookO_self {n : Nat} {b : Option AB} {r : Hp} : lookO ((n, b) :: r) n = some b := by simp [lookO]
theorem lookO_spent {ns : List Nat} {n : Nat} {x : Option AB} (h : lookO (spent ns) n = some x) : n ∈ ns ∧ x = none := by
  induction ns with
  | nil => simp [spent, lookO] at h
  | cons m ns ih =>
    simp only [spent, List.map_cons, lookO] at h
    cases hb : Nat.beq m n with
    | true => rw [hb] at h; simp at h; exact ⟨by simp [Nat.eq_of_beq_eq_true hb], h.symm⟩
    | false => rw [hb] at h; have := ih h; exact ⟨by simp [this.1], this.2⟩
theorem lookO_spent_of {ns : List Nat} {n : Nat} (h : n ∈ ns) : lookO (spent ns) n = some none := by
  induction ns with
  | nil => simp at h
  | cons m ns ih =>
    simp only [spent, List.map_cons, lookO]
    cases hb : Nat.beq m n with
    | true => rfl
    | false =>
      rcases List.mem_cons.1 h with rfl | h
      · simp at hb
      · exact ih h
theorem nodupB_ok : ∀ {ns : List Nat}, nodupB ns = true → ns.Nodup
  | [], _ => List.nodup_nil
  | n :: ns, h => by
    simp only [nodupB, Bool.and_eq_true, Bool.not_eq_true'] at h
    refine List.nodup_cons.2 ⟨fun hm => ?_, nodupB_ok h.2⟩
    have := h.1
    rw [List.contains_eq_mem] at this
    simp [hm] at this
theorem allRo_ok {lk : Nat → Option AB} : ∀ {ms : List Nat}, allRo lk ms = true → ∀ m ∈ ms, ∃ x, lk m = some (.ro x)
  | [], _, m, h => by simp at h
  | n :: ms, ha, m, h => by
    simp only [allRo, Bool.and_eq_true] at ha
    rcases List.mem_cons.1 h with rfl | h
    · have := ha.1
      split at this
      · rename_i x hx; exact ⟨x, hx⟩
      · cases this
    · exact allRo_ok ha.2 m h

/-- New names alone. -/
theorem Post.news {E E' : Env} {hp : Nat → Option AB} {w w' : World} {F R F' R' : Nat → List Nat} {lo : Nat} {e : Eff} (hu : ∀ n x, lookO e.upd n = some x → x = none) (hle : E.le E') (hdom : ∀ n, E n = none → E' n ≠ none → lo ≤ n ∧ n < lo + e.nn)
    (hw : Fr (touched hp F e) w w') (hh : ∀ n b, lookO e.news n = some (some b) → ∃ p, E' n = some p ∧ b.holds E' w' p (F' n) (R' n)) (hnd : ∀ n b, lookO e.news n = some (some b) → (F' n).Nodup)
    (hf : ∀ n b k, lookO e.news n = some (some b) → k ∈ F' n → touched hp F e k ∨ w.heap.size ≤ k) (ho : ∀ n b k, lookO e.news n = some (some b) → k ∈ R' n → ∃ m c, hp m = some c ∧ k ∈ R m)
    (hd : ∀ n m b c k, lookO e.news n = some (some b) → lookO e.news m = some (some c) → k ∈ F' n → k ∈ F' m → n = m) : Post E hp w F R lo e E' w' F' R' := by
  have key : ∀ n b, lookO e.put n = some (some b) → lookO e.news n = some (some b) := by
    intro n b h
    rw [Eff.put, lookO_append] at h
    cases hl : lookO e.upd n with
    | some y => rw [hl] at h; simp only [Option.some.injEq] at h; rw [hu n y hl] at h; cases h
    | none => rw [hl] at h; exact h
  exact ⟨hle, hdom, hw, fun n b h => hh n b (key n b h), fun n b h => hnd n b (key n b h), fun n b k h => hf n b k (key n b h), fun n b k h hk => .inl (ho n b k (key n b h) hk), fun n m b c k h h' => hd n m b c k (key n b h) (key m c h')⟩
/-- One new name. -/
theorem Post.one {E : Env} {hp : Nat → Option AB} {w w' : World} {F R : Nat → List Nat} {m : Nat} {e : Eff} {b : AB} {p : Pl} {F1 R1 : List Nat} (hm : E m = none) (hnn : e.nn = 1) (hn : e.news = [(m, some b)]) (hu : ∀ n x, lookO e.upd n = some x → x = none)
    (hw : Fr (touched hp F e) w w') (hb : b.holds (E.set m p) w' p F1 R1) (hnd : F1.Nodup) (hfoot : ∀ k ∈ F1, touched hp F e k ∨ w.heap.size ≤ k) (hold : ∀ k ∈ R1, ∃ n c, hp n = some c ∧ k ∈ R n) : Post E hp w F R m e (E.set m p) w' (fun _ => F1) (fun _ => R1) := by
  refine Post.news hu (Env.le_set hm p) ?_ hw ?_ (fun _ _ _ => hnd) (fun n c k h hk => hfoot k hk) (fun n c k h hk => hold k hk) ?_
  · intro n h h'
    by_cases e1 : n = m
    · subst e1; rw [hnn]; omega
    · simp [Env.set, e1, h] at h'
  · intro n c h
    rw [hn] at h
    obtain ⟨rfl, hc⟩ := lookO_one h
    cases hc
    exact ⟨p, Env.set_self _ _ _, hb⟩
  · intro n n' c c' k h h' _ _
    rw [hn] at h h'
    exact (lookO_one h).1.trans (lookO_one h').1.symm

theorem rowAt_alloc {w : World} {el : TypeId} {size L cap : Nat} {vs : List Value} {cur : Array Value} (hs : 0 < size) (hl : vs.length = L * size) (hcap : cur.size = cap * size) (hLc : L ≤ cap) (hmx : cap ≤ maxLen) (htake : cur.toList.take (L * size) = vs) :
    rowAt (w.alloc (.cells cur el)) el size { block := w.heap.size, stride := size, cap := cap } L vs := by
  refine ⟨hl, rfl, hs, .inr ⟨rfl, cur, ?_, hLc, hmx, by simp [hcap], by simpa using htake⟩⟩
  exact heap_alloc_new w _
/-- A new block of cells that is a row of its own. -/
theorem Post.box {E : Env} {hp : Nat → Option AB} {w : World} {F R : Nat → List Nat} {e : Eff} {m : Nat} {el : TypeId} {size L cap : Nat} {cs : List AV} {vs : List Value} {cur : Array Value} (hm : E m = none) (hnn : e.nn = 1) (hu : e.upd = []) (hn : e.news = [(m, some (.own (.raw el size cs)))])
    (hs : 0 < size) (hl : cs.length = L * size) (hcs : concs E cs = some vs) (hcap : cur.size = cap * size) (hLc : L ≤ cap) (hmx : cap ≤ maxLen) (htake : cur.toList.take (L * size) = vs) :
    Post E hp w F R m e (E.set m { block := w.heap.size, stride := size, cap := cap }) (w.alloc (.cells cur el)) (fun _ => [w.heap.size]) (fun _ => []) := by
  have hle := Env.le_set hm { block := w.heap.size, stride := size, cap := cap }
  refine Post.one hm hnn hn (fun n x h => by simp [hu, lookO] at h) ⟨rfl, rfl, rfl, (show w.heap.size ≤ (w.heap.push _).size by simp), fun k hk _ => Below.heap_alloc _ _ _ hk⟩ ?_ (by simp) (fun k hk => by simp at hk; exact .inr (by omega)) (fun k hk => by simp at hk)
  have hlen : (M.raw el size cs).len = L := by simp [M.len, hl, Nat.mul_div_cancel _ hs]
  have hvl := concs_length hcs
  refine ⟨trivial, vs, [], [], ⟨concs_mono hle _ _ hcs, rfl, rfl⟩, ?_, by simp [blkO], rfl⟩
  rw [hlen]
  exact rowAt_alloc hs (show vs.length = L * size by omega) hcap hLc hmx htake

/-! ### Reading -/
theorem addr_add (p : Pl) (r o j : Nat) : (p.addr r o).add j = p.addr r (o + j) := by
  unfold Addr.add Pl.addr
  split
  · rename_i h; subst h; rfl
  · simp [Nat.add_assoc]
theorem addr_rows {p : Pl} {r j : Nat} : p.addr (r + j) 0 = p.addr r (j * p.stride) := by
  unfold Pl.addr
  simp [Nat.add_mul, Nat.add_assoc]
theorem boxH_cells {own : Bool} {w : World} {e : TypeId} {size : Nat} {p : Pl} {n : Nat} {vs : List Value} {F0 R0 F R : List Nat} (h : boxH own w e size p n vs F0 R0 F R) :
    p.stride = size ∧ 0 < size ∧ vs.length = n * size ∧ (p.nil = true → n = 0) ∧ ∀ r o V, vs[r * size + o]? = some V → w.cell? (p.addr r o) = some V := by
  obtain ⟨R', ⟨a1, a2, a3, a4, a5, _⟩, _⟩ := boxH_lax' (R0' := []) h (fun k hk => by simp at hk)
  refine ⟨a1, a2, a3, a4.1, fun r o V hV => ?_⟩
  have := a5 _ _ hV
  simp only [Pl.addr, Nat.zero_mul, Nat.add_zero] at this ⊢
  rw [a1, Nat.add_assoc]
  exact this

theorem run_isAgg {P : Program} {t : TypeId} {d : TypeDesc} (h : P.underlying t = some d) (w : World) : (Go.isAgg t).run P w = .ok (isAggD d) w := by
  unfold Go.isAgg
  simp only [Sem.run_bind, run_underlying h, Result.andThen_ok]
  cases d <;> rfl
theorem run_sizeOf {P : Program} {t : TypeId} {i : TypeInfo} (h : P.info? t = some i) (w : World) : (Go.sizeOf t).run P w = .ok i.size w := by
  simp [Go.sizeOf, typeInfo, h]
theorem get_no {e : Eff} {p : Prop} (h : (no : Te).get = some e) : p := by simp [no, T.get] at h
theorem get_one {e f : Eff} (h : (one f : Te).get = some e) : f = e := by simpa [one, T.get] using h
theorem get_none {α : Type} {a : α} {p : Prop} (h : (T.leaf (none : Option α)).get = some a) : p := by simp [T.get] at h

theorem pickN_go {α : Type} {j : Nat} {f : Nat → T (Option α)} {a : α} : ∀ (n i : Nat), (pickN.go j f i n).get = some a → (f j).get = some a
  | 0, i, h => get_none h
  | n + 1, i, h => by
    unfold pickN.go at h
    cases hb : Nat.beq j i with
    | true => rw [hb] at h; rw [Nat.eq_of_beq_eq_true hb]; exact h
    | false => rw [hb] at h; exact pickN_go n (i + 1) h
theorem pickN_get {α : Type} {n j : Nat} {f : Nat → T (Option α)} {a : α} (h : (pickN n j f).get = some a) : (f j).get = some a := by
  unfold pickN at h
  cases hb : Nat.ble n 64 with
  | true => rw [hb] at h; exact pickN_go n 0 h
  | false => rw [hb] at h; exact h

theorem encF_length : ∀ (sh : Sh) (d : Den sh), (encF sh d).length = sh.size
  | .nil, d => rfl
  | .sc c r, d => by simp [encF, Sh.size, encF_length r]
  | .sl _ _ _ r, d => by simp [encF, Sh.size, encF_length r]
  | .pt _ _ _ r, d => by simp [encF, Sh.size, encF_length r]
  | .po _ _ _ r, d => by simp [encF, Sh.size, encF_length r]
  | .ag _ _ r, d => by simp [encF, Sh.size, encF_length r]
  | .mp _ _ _ r, d => by simp [encF, Sh.size, encF_length r]
theorem plainAt_ok {w : World} {lx : Bool} : ∀ (sh : Sh) (d : Den sh) (ys : List Value) (F R : List Nat) (o k : Nat), hold w lx sh d ys F R → sh.plainAt o k = true → ((encF sh d).drop o).take k = (ys.drop o).take k ∧ (k = 0 ∨ o + k ≤ sh.size)
  | sh, d, ys, F, R, o, 0, h, hp => by simp
  | .nil, d, ys, F, R, o, k + 1, h, hp => by simp [Sh.plainAt] at hp
  | .sc c r, d, ys, F, R, 0, k + 1, h, hp => by
    obtain ⟨vs', rfl, h2, h3⟩ := h
    have := plainAt_ok r _ _ _ _ 0 k h3 (by simpa [Sh.plainAt] using hp)
    simp only [encF, List.drop_zero, List.take_succ_cons] at this ⊢
    refine ⟨by rw [this.1], .inr ?_⟩
    simp only [Sh.size]
    omega
  | .sc c r, d, ys, F, R, o + 1, k + 1, h, hp => by
    obtain ⟨vs', rfl, h2, h3⟩ := h
    have := plainAt_ok r _ _ _ _ o (k + 1) h3 (by simpa [Sh.plainAt] using hp)
    simp only [encF, List.drop_succ_cons]
    exact ⟨this.1, .inr (by simp only [Sh.size]; omega)⟩
  | .sl own e row r, d, ys, F, R, 0, k + 1, h, hp => by simp [Sh.plainAt] at hp
  | .sl own e row r, d, ys, F, R, o + 1, k + 1, h, hp => by
    obtain ⟨p, vs', xs, F0, R0, F1, R1, F2, R2, rfl, _, _, h4, rfl, rfl⟩ := h
    have := plainAt_ok r _ _ _ _ o (k + 1) h4 (by simpa [Sh.plainAt] using hp)
    simp only [encF, List.drop_succ_cons]
    exact ⟨this.1, .inr (by simp only [Sh.size]; omega)⟩
  | .pt own e row r, d, ys, F, R, 0, k + 1, h, hp => by simp [Sh.plainAt] at hp
  | .pt own e row r, d, ys, F, R, o + 1, k + 1, h, hp => by
    obtain ⟨p, vs', xs, F0, R0, F1, R1, F2, R2, _, rfl, _, _, h4, rfl, rfl⟩ := h
    have := plainAt_ok r _ _ _ _ o (k + 1) h4 (by simpa [Sh.plainAt] using hp)
    simp only [encF, List.drop_succ_cons]
    exact ⟨this.1, .inr (by simp only [Sh.size]; omega)⟩
  | .po own e row r, d, ys, F, R, 0, k + 1, h, hp => by simp [Sh.plainAt] at hp
  | .po own e row r, d, ys, F, R, o + 1, k + 1, h, hp => by
    obtain ⟨v, vs', F1, R1, F2, R2, rfl, rfl, rfl, h4, _⟩ := h
    have := plainAt_ok r _ _ _ _ o (k + 1) h4 (by simpa [Sh.plainAt] using hp)
    simp only [encF, List.drop_succ_cons]
    exact ⟨this.1, .inr (by simp only [Sh.size]; omega)⟩
  | .mp ok key row r, d, ys, F, R, 0, k + 1, h, hp => by simp [Sh.plainAt] at hp
  | .mp ok key row r, d, ys, F, R, o + 1, k + 1, h, hp => by
    obtain ⟨v, vs', F1, R1, F2, R2, rfl, _, h4, rfl, rfl⟩ := h
    have := plainAt_ok r _ _ _ _ o (k + 1) h4 (by simpa [Sh.plainAt] using hp)
    simp only [encF, List.drop_succ_cons]
    exact ⟨this.1, .inr (by simp only [Sh.size]; omega)⟩
  | .ag tg row r, d, ys, F, R, o, k + 1, h, hp => by cases o <;> simp [Sh.plainAt] at hp

theorem rowsH_at {α : Type} {P : α → List Value → List Nat → List Nat → Prop} {s : Nat} (hP : ∀ d ys F R, P d ys F R → ys.length = s) {l : List α} {xs : List Value} {F R : List Nat} (h : rowsH P l xs F R) {r : Nat} {d : α} (hr : l[r]? = some d) :
    ∃ v1 ys v2 F1 F2 F3 R1 R2 R3, xs = v1 ++ (ys ++ v2) ∧ F = F1 ++ (F2 ++ F3) ∧ R = R1 ++ (R2 ++ R3) ∧ v1.length = r * s ∧ rowsH P (l.take r) v1 F1 R1 ∧ P d ys F2 R2 ∧ rowsH P (l.drop (r + 1)) v2 F3 R3 := by
  have hlt := (List.getElem?_eq_some_iff.1 hr).1
  have e1 : l = l.take r ++ d :: l.drop (r + 1) := by
    have := (List.getElem?_eq_some_iff.1 hr).2
    rw [← this, ← List.drop_eq_getElem_cons hlt, List.take_append_drop]
  rw [e1] at h
  obtain ⟨v1, _, F1, _, R1, _, rfl, rfl, rfl, h1, ys, v2, F2, F3, R2, R3, rfl, rfl, rfl, h2, h3⟩ := rowsH_append.1 h
  have l1 := rowsH_length hP h1
  rw [List.length_take, Nat.min_eq_left (by omega)] at l1
  exact ⟨v1, ys, v2, F1, F2, F3, R1, R2, R3, rfl, rfl, rfl, l1, h1, h2, h3⟩
theorem getR_some {sh : Sh} {l : List (Den sh)} {r : Nat} (h : r < l.length) : l[r]? = some (getR l r) := by
  unfold getR
  rw [List.getD_eq_getElem?_getD, List.getElem?_eq_getElem h]
  rfl

theorem get_rows {E : Env} {w : World} {lx : Bool} {sh : Sh} {ds : List (Den sh)} {vs : List Value} {F R : List Nat} (h : rowsH (hold w lx sh) ds vs F R) {r o k : Nat} {l : List AV} (hp : sh.plainAt o k = true) (hr : r < ds.length)
    (hl : (((encF sh (getR ds r)).drop o).take k).map AV.v = l) : l.length = k ∧ ∃ us, concs E l = some us ∧ ∀ j V, us[j]? = some V → vs[r * sh.size + (o + j)]? = some V := by
  obtain ⟨v1, ys, v2, F1, F2, F3, R1, R2, R3, rfl, rfl, rfl, l1, h1, h2, h3⟩ := rowsH_at (s := sh.size) (fun d ys F R h => hold_length lx sh d ys F R h) h (getR_some hr)
  obtain ⟨g1, g2⟩ := plainAt_ok sh _ _ _ _ o k h2 hp
  have hyl := hold_length lx sh _ _ _ _ h2
  subst hl
  refine ⟨?_, ((ys.drop o).take k), by rw [g1]; exact concs_plain _, fun j V hV => ?_⟩
  · rw [List.length_map, List.length_take, List.length_drop, encF_length]
    omega
  · rw [List.getElem?_take] at hV
    split at hV
    · rw [List.getElem?_drop] at hV
      have hlt := (List.getElem?_eq_some_iff.1 hV).1
      rw [← l1, List.getElem?_append_right (by omega), List.getElem?_append_left (by omega)]
      rw [show v1.length + (o + j) - v1.length = o + j by omega]
      exact hV
    · cases hV
theorem get_raw {E : Env} {cs : List AV} {vs : List Value} (h : concs E cs = some vs) {b k : Nat} {l : List AV} (hb : Nat.ble (b + k) cs.length = true) (hl : (cs.drop b).take k = l) : l.length = k ∧ ∃ us, concs E l = some us ∧ ∀ j V, us[j]? = some V → vs[b + j]? = some V := by
  subst hl
  have hb := Nat.le_of_ble_eq_true hb
  refine ⟨by simp; omega, _, concs_take k (concs_drop b h), fun j V hV => ?_⟩
  rw [List.getElem?_take] at hV
  split at hV
  · rw [List.getElem?_drop] at hV; exact hV
  · cases hV
theorem M.get_ok {E : Env} {w : World} {lx : Bool} {x : M} {vs : List Value} {F R : List Nat} (h : x.reads E w lx vs F R) {r o k : Nat} {l : List AV} (hg : (x.get r o k).get = some l) :
    l.length = k ∧ ∃ us, concs E l = some us ∧ ∀ j V, us[j]? = some V → vs[r * x.size + (o + j)]? = some V := by
  have rows_ : ∀ {sh : Sh} {ds : List (Den sh)} {vs : List Value} {F R : List Nat} {l : List AV}, rowsH (hold w lx sh) ds vs F R →
      (bif sh.plainAt o k then T.when (decide (r < ds.length)) (.leaf (some (((encF sh (getR ds r)).drop o).take k |>.map AV.v))) else .leaf none).get = some l →
      l.length = k ∧ ∃ us, concs E l = some us ∧ ∀ j V, us[j]? = some V → vs[r * sh.size + (o + j)]? = some V := by
    intro sh ds vs F R l h hg
    cases hp : sh.plainAt o k with
    | false => rw [hp] at hg; exact get_none hg
    | true =>
      rw [hp] at hg
      simp only [cond_true] at hg
      obtain ⟨h1, h2⟩ := T.get_when hg
      simp only [T.get, Option.some.injEq] at h2
      exact get_rows h hp (by simpa using h1) h2
  cases x with
  | raw e s cs =>
    simp only [M.get] at hg
    have hg := pickN_get hg
    simp only [T.get] at hg
    cases hb : Nat.ble (r * s + o + k) cs.length with
    | false => rw [hb] at hg; cases hg
    | true =>
      rw [hb] at hg
      simp only [cond_true, Option.some.injEq] at hg
      obtain ⟨g1, us, g2, g3⟩ := get_raw h.1 hb hg
      exact ⟨g1, us, g2, fun j V hV => by have := g3 j V hV; rwa [Nat.add_assoc] at this⟩
  | rows e sh ds => exact rows_ h hg
  | hol e sh ds i q cs =>
    obtain ⟨v1, us, v2, F1, R1, F2, R2, rfl, rfl, rfl, hi, h1, h2, h3, h4⟩ := h
    simp only [M.get] at hg
    rw [T.get_ite] at hg
    have l1 := rowsH_length (s := sh.size) (fun d ys F R h => hold_length lx sh d ys F R h) h1
    rw [List.length_take, Nat.min_eq_left (by omega)] at l1
    split at hg
    · rename_i hri
      have hri : r = i := by simpa using hri
      subst hri
      simp only [T.get] at hg
      cases hb : Nat.ble (o + k) cs.length with
      | false => rw [hb] at hg; cases hg
      | true =>
        rw [hb] at hg
        simp only [cond_true, Option.some.injEq] at hg
        obtain ⟨g1, xs, g2, g3⟩ := get_raw h2 hb hg
        refine ⟨g1, xs, g2, fun j V hV => ?_⟩
        have := g3 j V hV
        have hlt := (List.getElem?_eq_some_iff.1 this).1
        show (v1 ++ us ++ v2)[r * sh.size + (o + j)]? = some V
        rw [List.append_assoc, ← l1, List.getElem?_append_right (by omega), List.getElem?_append_left (by omega)]
        rw [show v1.length + (o + j) - v1.length = o + j by omega]
        exact this
    · rename_i hri
      have hri : ¬ r = i := by simpa using hri
      cases hp : sh.plainAt o k with
      | false => rw [hp] at hg; exact get_none hg
      | true =>
        rw [hp] at hg
        simp only [cond_true] at hg
        obtain ⟨d1, d2⟩ := T.get_when hg
        simp only [T.get, Option.some.injEq] at d2
        have hr : r < ds.length := by simpa using d1
        -- rows ahead, or behind
        rcases Nat.lt_or_ge r i with hlt | hge
        · have e1 : getR ds r = getR (ds.take i) r := by
            unfold getR
            simp [List.getD_eq_getElem?_getD, List.getElem?_take, hlt]
          rw [e1] at d2
          obtain ⟨g1, xs, g2, g3⟩ := get_rows (E := E) h1 hp (by simp; omega) d2
          refine ⟨g1, xs, g2, fun j V hV => ?_⟩
          have := g3 j V hV
          have hlt' := (List.getElem?_eq_some_iff.1 this).1
          show (v1 ++ us ++ v2)[r * sh.size + (o + j)]? = some V
          rw [List.append_assoc, List.getElem?_append_left (by omega)]
          exact this
        · have hgt : i < r := by omega
          have e1 : getR ds r = getR (ds.drop (i + 1)) (r - (i + 1)) := by
            unfold getR
            simp only [List.getD_eq_getElem?_getD, List.getElem?_drop]
            rw [show i + 1 + (r - (i + 1)) = r by omega]
          rw [e1] at d2
          obtain ⟨g1, xs, g2, g3⟩ := get_rows (E := E) h4 hp (by simp; omega) d2
          refine ⟨g1, xs, g2, fun j V hV => ?_⟩
          have := g3 j V hV
          show (v1 ++ us ++ v2)[r * sh.size + (o + j)]? = some V
          have hm : r * sh.size = i * sh.size + sh.size + (r - (i + 1)) * sh.size := by
            rw [show i * sh.size + sh.size = (i + 1) * sh.size by rw [Nat.add_mul, Nat.one_mul], ← Nat.add_mul]
            congr 1; omega
          rw [List.getElem?_append_right (by simp only [List.length_append, l1, h3]; omega)]
          simp only [List.length_append, l1, h3]
          rw [show r * sh.size + (o + j) - (i * sh.size + sh.size) = (r - (i + 1)) * sh.size + (o + j) by omega]
          exact this

/-- What a load comes to, given its cells. -/
theorem load_cells {P : Program} {ty : TypeId} {d : TypeDesc} {i : TypeInfo} {w : World} {E : Env} {A : Addr} {l : List AV} {us : List Value} {rd : List Nat} {up nw : Hp} {nn : Nat} {e : Eff} (hd : P.underlying ty = some d) (hi : P.info? ty = some i)
    (hl : l.length = bif isAggD d then i.size else 1) (hc : concs E l = some us) (hcell : ∀ j V, us[j]? = some V → w.cell? (A.add j) = some V) (h : (loaded (isAggD d) l rd up nw nn).get = some e) :
    ∃ V, conc E e.val = some V ∧ (Instr.loadAt ty (.pointer (some A))).run P w = .ok V w ∧ e.reads = rd ∧ e.upd = up ∧ e.news = nw ∧ e.nn = nn := by
  unfold loaded at h
  cases hag : isAggD d with
  | true =>
    rw [hag] at h hl
    simp only [cond_true] at h hl
    obtain rfl := get_one h
    have hvl : us.length = i.size := (concs_length hc).trans hl
    refine ⟨.agg us.toArray, by simp [conc, hc], ?_, rfl, rfl, rfl, rfl⟩
    have hload := run_loadCells_list (P := P) w A us hcell
    rw [hvl] at hload
    simp [Instr.loadAt, Instr.sureAddr, loadVar, run_isAgg hd, hag, run_sizeOf hi, hload]
  | false =>
    rw [hag] at h hl
    simp only [cond_false] at h hl
    split at h
    case h_2 => exact get_no h
    rename_i v
    obtain rfl := get_one h
    obtain ⟨V, us', hV, hus, rfl⟩ := concs_cons.1 hc
    have := hcell 0 V rfl
    rw [show A.add 0 = A by simp [Addr.add]] at this
    refine ⟨V, hV, ?_, rfl, rfl, rfl, rfl⟩
    simp [Instr.loadAt, Instr.sureAddr, loadVar, run_isAgg hd, hag, run_load, this]

/-- A row of one's own, told cell by cell from now on. -/
theorem open_row {W0 : World} {S : Reg} {E : Env} {hp : Nat → Option AB} {w : World} {F R : Nat → List Nat} (G : Gf W0 S E hp w F R) {n : Nat} {el : TypeId} {sh : Sh} {l : List (Den sh)} (hb : hp n = some (.own (.rows el sh l))) {r : Nat} (hr : r < l.length) {fr : Nat} {x : List AV × Hp × Nat}
    (hx : (scat false sh (getR l r) (fr + 1)).get = x) {e : Eff} (hu : e.upd = [(n, some (.own (.hol el sh l r fr x.1)))]) (hnw : e.news = (fr, some (.al n)) :: x.2.1) (hnn : e.nn = x.2.2 - fr) (hfr : ∀ m, fr ≤ m → m < fr + e.nn → E m = none) :
    ∃ p E' F' R' us, E n = some p ∧ Post E hp w F R fr e E' w F' R' ∧ concs E' x.1 = some us ∧ (∀ j V, us[j]? = some V → w.cell? (p.addr r j) = some V) ∧ (∃ q, E' fr = some q ∧ q.nil = false ∧ q.addr 0 0 = p.addr r 0) := by
  obtain ⟨p, hp1, _, vs, F0, R0, hreads, hbox⟩ := G.holds n _ hb
  obtain ⟨c1, c2, c3, c4, c5⟩ := boxH_cells hbox
  obtain ⟨v1, ys, v2, F1, F2, F3, R1, R2, R3, rfl, hF0, hR0, l1, h1, h2, h3⟩ := rowsH_at (s := sh.size) (fun d ys F R h => hold_length false sh d ys F R h) hreads (getR_some hr)
  have hbox0 := hbox
  obtain ⟨hrow, hFn, hRn⟩ := hbox
  have hnd := G.nodup n _ hb
  rw [hFn, hF0] at hnd
  have hge := scat_ge (lx := false) sh (getR l r) (fr + 1)
  rw [hx] at hge
  have hfr0 : E fr = none := hfr fr (Nat.le_refl _) (by omega)
  have hnil : p.nil = false := by
    cases hn : p.nil with
    | false => rfl
    | true => have := c4 hn; simp only [M.len] at this; omega
  let q : Pl := { block := p.block, base := p.base + r * sh.size, stride := sh.size }
  rw [List.nodup_append] at hnd
  have hnd2 := hnd.2.1
  rw [List.nodup_append] at hnd2
  have hnd3 := hnd2.2.1
  rw [List.nodup_append] at hnd3
  obtain ⟨E', FF, RR, sc⟩ := scat_ok sh _ _ _ _ (fr + 1) (E.set fr q) h2 hnd3.1 (fun m a b => by
    rw [Env.set_ne (by omega)]
    refine hfr m (by omega) ?_
    rw [hx] at b
    omega)
  rw [hx] at sc
  have hle : E.le E' := Env.le_trans (Env.le_set hfr0 q) sc.ext
  have hq : E' fr = some q := sc.ext _ _ (Env.set_self _ _ _)
  have hne : ∀ m, lookO x.2.1 m ≠ none → True := fun _ _ => trivial
  have hnE : n ≠ fr := fun e0 => by subst e0; rw [hfr0] at hp1; cases hp1
  have hnlo : ∀ b, look x.2.1 n = some b → False := by
    intro b hb'
    have := sc.lo n b hb'
    have h0 := hfr n (by omega) (by omega)
    rw [h0] at hp1; cases hp1
  have hput : ∀ m b, lookO e.put m = some (some b) → (m = n ∧ b = .own (.hol el sh l r fr x.1)) ∨ (m ≠ n ∧ m = fr ∧ b = .al n) ∨ (m ≠ n ∧ m ≠ fr ∧ look x.2.1 m = some b) := by
    intro m b h
    simp only [Eff.put, hu, hnw, List.cons_append, List.nil_append, lookO] at h
    cases hb1 : Nat.beq n m with
    | true => rw [hb1] at h; simp at h; exact .inl ⟨(Nat.eq_of_beq_eq_true hb1).symm, h.symm⟩
    | false =>
      rw [hb1] at h
      have hmn : m ≠ n := fun e0 => by subst e0; simp at hb1
      cases hb2 : Nat.beq fr m with
      | true => rw [hb2] at h; simp at h; exact .inr (.inl ⟨hmn, (Nat.eq_of_beq_eq_true hb2).symm, h.symm⟩)
      | false =>
        rw [hb2] at h
        exact .inr (.inr ⟨hmn, fun e0 => by subst e0; simp at hb2, look_of_lookO.2 h⟩)
  have htouch : ∀ k, k ∈ F n → touched hp F e k := fun k hk => ⟨n, _, by simp [hu, lookO], hb, hk⟩
  refine ⟨p, E', fun m => if m = n then blkO p ++ (F1 ++ F3) else if m = fr then [] else FF m, fun m => if m = n then R1 ++ R3 else if m = fr then [] else RR m, ys, hp1, ⟨hle, ?_, ⟨rfl, rfl, rfl, Nat.le_refl _, fun _ _ _ => rfl⟩, ?_, ?_, ?_, ?_, ?_⟩, sc.cells, ?_, q, hq, rfl, ?_⟩
  · intro m a b
    by_cases e1 : m = fr
    · subst e1; omega
    · have := sc.dom m (by rw [Env.set_ne e1]; exact a) b
      omega
  · intro m b h
    rcases hput m b h with ⟨rfl, rfl⟩ | ⟨hmn, rfl, rfl⟩ | ⟨hmn, hmf, hl⟩
    · rw [if_pos rfl, if_pos rfl]
      refine ⟨p, hle _ _ hp1, ⟨q, hq, rfl, rfl, rfl⟩, _, F1 ++ F3, R1 ++ R3, ⟨v1, ys, v2, F1, R1, F3, R3, (List.append_assoc _ _ _).symm, rfl, rfl, hr, h1, sc.cells, hold_length false sh _ _ _ _ h2, h3⟩, ?_, rfl, rfl⟩
      exact hrow
    · rw [if_neg hmn, if_neg hmn, if_pos rfl, if_pos rfl]
      exact ⟨q, hq, rfl, rfl⟩
    · rw [if_neg hmn, if_neg hmn, if_neg hmf, if_neg hmf]
      exact sc.gc.holds m b hl
  · intro m b h
    rcases hput m b h with ⟨rfl, rfl⟩ | ⟨hmn, rfl, rfl⟩ | ⟨hmn, hmf, hl⟩
    · rw [if_pos rfl, List.nodup_append, List.nodup_append]
      refine ⟨hnd.1, ⟨hnd2.1, hnd3.2.1, fun a ha b hb => hnd2.2.2 a ha b (by simp [hb])⟩, fun a ha b hb => hnd.2.2 a ha b ?_⟩
      rcases List.mem_append.1 hb with hb | hb <;> simp [hb]
    · rw [if_neg hmn, if_pos rfl]; exact List.nodup_nil
    · rw [if_neg hmn, if_neg hmf]; exact sc.gc.nodup m b hl
  · intro m b k h hk
    left
    rcases hput m b h with ⟨rfl, rfl⟩ | ⟨hmn, rfl, rfl⟩ | ⟨hmn, hmf, hl⟩
    · rw [if_pos rfl] at hk
      refine htouch k ?_
      rw [hFn, hF0]
      rcases List.mem_append.1 hk with hk | hk
      · simp [hk]
      · rcases List.mem_append.1 hk with hk | hk <;> simp [hk]
    · rw [if_neg hmn, if_pos rfl] at hk; simp at hk
    · rw [if_neg hmn, if_neg hmf] at hk
      refine htouch k ?_
      rw [hFn, hF0]
      simp [sc.inF m b k hl hk]
  · intro m b k h hk
    refine .inl ⟨n, _, hb, ?_⟩
    rw [hRn, hR0]
    rcases hput m b h with ⟨rfl, rfl⟩ | ⟨hmn, rfl, rfl⟩ | ⟨hmn, hmf, hl⟩
    · rw [if_pos rfl] at hk
      rcases List.mem_append.1 hk with hk | hk <;> simp [hk]
    · rw [if_neg hmn, if_pos rfl] at hk; simp at hk
    · rw [if_neg hmn, if_neg hmf] at hk
      simp [sc.inR m b k hl hk]
  · have hsep : ∀ m b k, m ≠ n → m ≠ fr → look x.2.1 m = some b → k ∈ FF m → k ∈ blkO p ++ (F1 ++ F3) → False := by
      intro m b k hmn hmf hl hk hk'
      have hk2 := sc.inF m b k hl hk
      rcases List.mem_append.1 hk' with hk' | hk'
      · exact hnd.2.2 k hk' k (by simp [hk2]) rfl
      · rcases List.mem_append.1 hk' with hk' | hk'
        · exact hnd2.2.2 k hk' k (by simp [hk2]) rfl
        · exact hnd3.2.2 k hk2 k hk' rfl
    intro m m' b b' k h h' hk hk'
    rcases hput m b h with ⟨e1, _⟩ | ⟨hmn, e1, _⟩ | ⟨hmn, hmf, hl⟩ <;> rcases hput m' b' h' with ⟨e2, _⟩ | ⟨hmn', e2, _⟩ | ⟨hmn', hmf', hl'⟩
    · rw [e1, e2]
    · rw [if_neg hmn', if_pos e2] at hk'; simp at hk'
    · rw [if_pos e1] at hk; rw [if_neg hmn', if_neg hmf'] at hk'
      exact (hsep m' b' k hmn' hmf' hl' hk' hk).elim
    · rw [if_neg hmn, if_pos e1] at hk; simp at hk
    · rw [e1, e2]
    · rw [if_neg hmn, if_pos e1] at hk; simp at hk
    · rw [if_neg hmn, if_neg hmf] at hk; rw [if_pos e2] at hk'
      exact (hsep m b k hmn hmf hl hk hk').elim
    · rw [if_neg hmn', if_pos e2] at hk'; simp at hk'
    · rw [if_neg hmn, if_neg hmf] at hk; rw [if_neg hmn', if_neg hmf'] at hk'
      exact sc.gc.dist m m' b b' k hl hl' hk hk'
  · intro j V hV
    refine c5 r j V ?_
    have hlt := (List.getElem?_eq_some_iff.1 hV).1
    show (v1 ++ (ys ++ v2))[r * sh.size + j]? = some V
    rw [← l1, List.getElem?_append_right (by omega), List.getElem?_append_left (by omega), show v1.length + j - v1.length = j by omega]
    exact hV
  · simp only [Pl.addr, q, c1, M.size]
    simp

/-- A row of read-only memory, laid out. -/
theorem open_ro {W0 : World} {S : Reg} {E : Env} {hp : Nat → Option AB} {w : World} {F R : Nat → List Nat} (G : Gf W0 S E hp w F R) {n : Nat} {el : TypeId} {sh : Sh} {l : List (Den sh)} (hb : hp n = some (.ro (.rows el sh l))) {r : Nat} (hr : r < l.length) {fr : Nat} {x : List AV × Hp × Nat}
    (hx : (scat true sh (getR l r) fr).get = x) {e : Eff} (hu : e.upd = []) (hnw : e.news = x.2.1) (hnn : e.nn = x.2.2 - fr) (hfr : ∀ m, fr ≤ m → m < fr + e.nn → E m = none) :
    ∃ p E' F' R' us, E n = some p ∧ Post E hp w F R fr e E' w F' R' ∧ concs E' x.1 = some us ∧ (∀ j V, us[j]? = some V → w.cell? (p.addr r j) = some V) := by
  obtain ⟨p, hp1, _, vs, F0, R0, hreads, hbox⟩ := G.holds n _ hb
  obtain ⟨c1, c2, c3, c4, c5⟩ := boxH_cells hbox
  obtain ⟨v1, ys, v2, F1, F2, F3, R1, R2, R3, rfl, hF0, hR0, l1, h1, h2, h3⟩ := rowsH_at (s := sh.size) (fun d ys F R h => hold_length true sh d ys F R h) hreads (getR_some hr)
  obtain ⟨_, _, _, _, _, hF00, hFn, hRn⟩ := hbox
  have hge := scat_ge (lx := true) sh (getR l r) fr
  rw [hx] at hge
  have hF2 := hold_true_nil sh _ _ _ _ h2
  obtain ⟨E', FF, RR, sc⟩ := scat_ok sh _ _ _ _ fr E h2 (by rw [hF2]; exact List.nodup_nil) (fun m a b => hfr m a (by rw [hx] at b; omega))
  rw [hx] at sc
  have hnone : ∀ m b k, look x.2.1 m = some b → k ∈ FF m → False := by
    intro m b k hl hk
    have := sc.inF m b k hl hk
    rw [hF2] at this; simp at this
  refine ⟨p, E', FF, RR, ys, hp1, Post.news (fun m y h => by rw [hu] at h; simp [lookO] at h) sc.ext ?_ ⟨rfl, rfl, rfl, Nat.le_refl _, fun _ _ _ => rfl⟩ ?_ ?_ ?_ ?_ ?_, sc.cells, ?_⟩
  · intro m a b
    have := sc.dom m a b
    omega
  · intro m b h; rw [hnw] at h; exact sc.gc.holds m b (look_of_lookO.2 h)
  · intro m b h; rw [hnw] at h; exact sc.gc.nodup m b (look_of_lookO.2 h)
  · intro m b k h hk; rw [hnw] at h; exact (hnone m b k (look_of_lookO.2 h) hk).elim
  · intro m b k h hk
    rw [hnw] at h
    refine ⟨n, _, hb, ?_⟩
    rw [hRn, hR0]
    simp [sc.inR m b k (look_of_lookO.2 h) hk]
  · intro m m' b b' k h h' hk hk'; rw [hnw] at h; exact (hnone m b k (look_of_lookO.2 h) hk).elim
  · intro j V hV
    refine c5 r j V ?_
    have hlt := (List.getElem?_eq_some_iff.1 hV).1
    show (v1 ++ (ys ++ v2))[r * sh.size + j]? = some V
    rw [← l1, List.getElem?_append_right (by omega), List.getElem?_append_left (by omega), show v1.length + j - v1.length = j by omega]
    exact hV
end Go.Proofs.YtpfbpcaehmhefaaDoorB.Sx
