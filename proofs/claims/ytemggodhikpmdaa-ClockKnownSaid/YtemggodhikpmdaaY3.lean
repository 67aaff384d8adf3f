/- The engine, part 3: soundness of the effects: the model's operation does what the effect says. -/
import Derived.Test.YtemggodhikpmdaaY2
import Derived.Test.YtemggodhikpmdaaYA
import Derived.ChangeKeysEq
namespace Go.Proofs.Ytemggodhikpmdaa.Sx
open Go.RowKit
set_option linter.unusedSimpArgs false
set_option linter.unusedVariables false

/-- An operation may be carried out: whatever goes on from its effect goes on. -/
def OpOk (P : Program) (o : Oper) (a : Act) (w : World) (E : Env) (hp : Nat → Option AB) (lo : Nat) (e : Eff) : Prop :=
  ∀ (next : Act → World → Prop) (Q : Exit → Act → World → Prop), (∀ V w' E', conc E' e.val = some V → Post E hp w lo e E' w' → next (a.put o.dst V) w') → o.wp P a w next Q

theorem Post.same {E : Env} {hp : Nat → Option AB} {w w' : World} {lo : Nat} {e : Eff} (hu : e.upd = []) (hn : e.news = []) (hf : Fr (fun _ => False) w w') : Post E hp w lo e E w' := by
  have hput : ∀ n, lookO e.put n = none := fun n => by simp [Eff.put, hu, hn, lookO]
  exact ⟨E.le_refl, fun n h h' => (h' h).elim, ⟨hf.os, hf.tape, hf.output, hf.size, fun k hk _ => hf.block k hk (fun x => x)⟩,
    fun n b h => (by rw [hput] at h; cases h), fun n b p k h => (by rw [hput] at h; cases h), fun n b p h => (by rw [hput] at h; cases h), fun n m b c p q k h => (by rw [hput] at h; cases h)⟩

theorem OpOk.value {P : Program} {o : Oper} {a : Act} {w : World} {E : Env} {hp : Nat → Option AB} {lo : Nat} {e : Eff} {V : Value} (hr : (execOp a.eval o).run P w = .ok (.value V) w) (hv : conc E e.val = some V)
    (hu : e.upd = []) (hn : e.news = []) : OpOk P o a w E hp lo e := by
  intro next Q h
  unfold Oper.wp
  rw [hr]
  exact h V w E hv (Post.same hu hn (Fr.refl _ _))

def Env.set (E : Env) (m : Nat) (p : Pl) : Env := fun n => if n = m then some p else E n
theorem Env.le_set {E : Env} {m : Nat} (h : E m = none) (p : Pl) : E.le (E.set m p) := by
  intro n q hq
  unfold Env.set
  rw [if_neg (fun e => by subst e; rw [h] at hq; cases hq)]
  exact hq

/-- One new name. -/
theorem Post.one {E : Env} {hp : Nat → Option AB} {w w' : World} {m : Nat} {e : Eff} {b : AB} {p : Pl} (hm : E m = none) (hnn : e.nn = 1) (hn : e.news = [(m, some b)]) (hu : ∀ n x, lookO e.upd n = some x → x = none)
    (hw : Fr (touched E hp e) w w') (hold : ∀ q, b.old q = none) (hb : b.holds (E.set m p) w' p) (hfoot : ∀ k, b.foot p = some k → touched E hp e k ∨ w.heap.size ≤ k) : Post E hp w m e (E.set m p) w' := by
  have hle := Env.le_set hm p
  have hput : ∀ n x, lookO e.put n = some (some x) → n = m ∧ x = b := by
    intro n x h
    rw [Eff.put, lookO_append] at h
    cases hl : lookO e.upd n with
    | some y => rw [hl] at h; simp only [Option.some.injEq] at h; rw [hu n y hl] at h; cases h
    | none =>
      rw [hl] at h
      simp only [hn, lookO] at h
      cases hb : Nat.beq m n with
      | false => rw [hb] at h; simp at h
      | true => rw [hb] at h; simp at h; exact ⟨(Nat.eq_of_beq_eq_true hb).symm, h.symm⟩
  refine ⟨hle, ?_, hw, ?_, ?_, ?_, ?_⟩
  · intro n h h'
    by_cases e1 : n = m
    · subst e1; rw [hnn]; omega
    · simp [Env.set, e1, h] at h'
  · intro n c h
    obtain ⟨rfl, rfl⟩ := hput n _ h
    exact ⟨p, if_pos rfl, hb⟩
  · intro n c q k h hq hf
    obtain ⟨rfl, rfl⟩ := hput n _ h
    rw [Env.set, if_pos rfl] at hq
    cases hq
    exact hfoot k hf
  · intro n c q h
    obtain ⟨rfl, rfl⟩ := hput n _ h
    exact hold q
  · intro n m' c c' q q' k h h' _ _ _ _
    exact (hput n _ h).1.trans (hput m' _ h').1.symm

/-- A new block of cells that is a row of its own. -/
theorem Post.box {E : Env} {hp : Nat → Option AB} {w : World} {e : Eff} {m : Nat} {el : TypeId} {size L cap : Nat} {cs : List AV} {vs : List Value} {cur : Array Value} (hm : E m = none) (hnn : e.nn = 1) (hu : e.upd = []) (hn : e.news = [(m, some (.own (.raw el size cs)))])
    (hs : 0 < size) (hl : cs.length = L * size) (hcs : concs E cs = some vs) (hcap : cur.size = cap * size) (hLc : L ≤ cap) (hmx : cap ≤ maxLen) (htake : cur.toList.take (L * size) = vs) :
    Post E hp w m e (E.set m { block := w.heap.size, stride := size, cap := cap }) (w.alloc (.cells cur el)) := by
  have hle := Env.le_set hm { block := w.heap.size, stride := size, cap := cap }
  refine Post.one hm hnn hn (fun n x h => by simp [hu, lookO] at h) ⟨rfl, rfl, rfl, (show w.heap.size ≤ (w.heap.push _).size by simp), fun k hk _ => Below.heap_alloc _ _ _ hk⟩ (fun _ => rfl) ?_ ?_
  · have hlen : (M.raw el size cs).len = L := by simp [M.len, hl, Nat.mul_div_cancel _ hs]
    refine ⟨rfl, rfl, hs, vs, concs_mono hle _ _ hcs, ?_⟩
    have hvl := concs_length hcs
    rw [hlen]
    refine ⟨by simp only [M.size]; omega, .inr ⟨w.heap.size, cap, cur, ?_, Nat.zero_le _, heap_alloc_new w _, hLc, hmx, hcap, htake⟩⟩
    simp [Pl.whole, Pl.ptr, Pl.addr]
  · intro k hk
    simp only [AB.foot] at hk
    simp at hk
    exact .inr (by omega)

/-- One block turned in place. -/
theorem Post.turn {E : Env} {hp : Nat → Option AB} {w w' : World} {lo : Nat} {e : Eff} {n : Nat} {b b' : AB} {p : Pl} {k : Nat} (hb : hp n = some b) (hE : E n = some p) (hf : b.foot p = some k) (hf' : b'.foot p = some k) (hold : ∀ q, b'.old q = none)
    (hu : e.upd = [(n, some b')]) (hn : e.news = []) (hw : Fr (fun i => i = k) w w') (hh : b'.holds E w' p) : Post E hp w lo e E w' := by
  have hput : ∀ m x, lookO e.put m = some x → m = n ∧ x = some b' := by
    intro m x h
    simp only [Eff.put, hu, hn, List.append_nil, lookO] at h
    cases hb : Nat.beq n m with
    | false => rw [hb] at h; simp at h
    | true => rw [hb] at h; simp at h; exact ⟨(Nat.eq_of_beq_eq_true hb).symm, h.symm⟩
  have ht : touched E hp e k := ⟨n, b, p, by simp [hu, lookO], hb, hE, hf⟩
  refine ⟨E.le_refl, fun m h h' => (h' h).elim, ⟨hw.os, hw.tape, hw.output, hw.size, fun i hi hs => hw.block i hi (fun e1 => by subst e1; exact hs ht)⟩, ?_, ?_, ?_, ?_⟩
  · intro m c h
    obtain ⟨rfl, hc⟩ := hput m _ h
    simp only [Option.some.injEq] at hc
    subst hc
    exact ⟨p, hE, hh⟩
  · intro m c q i h hq hi
    obtain ⟨rfl, hc⟩ := hput m _ h
    simp only [Option.some.injEq] at hc
    subst hc
    rw [hE] at hq
    cases hq
    rw [hf'] at hi
    cases hi
    exact .inl ht
  · intro m c q h
    obtain ⟨rfl, hc⟩ := hput m _ h
    simp only [Option.some.injEq] at hc
    subst hc
    exact hold q
  · intro m m' c c' q q' i h h' _ _ _ _
    exact (hput m _ h).1.trans (hput m' _ h').1.symm

/-! ### Reading -/
theorem addr_add (p : Pl) (r o j : Nat) : (p.addr r o).add j = p.addr r (o + j) := by
  unfold Addr.add Pl.addr
  split
  · rename_i h; subst h; rfl
  · simp [Nat.add_assoc]
theorem addr_rows {p : Pl} {r j : Nat} : p.addr (r + j) 0 = p.addr r (j * p.stride) := by
  unfold Pl.addr
  simp [Nat.add_mul, Nat.add_assoc]

/-- The cells of what may be read lie where they should. -/
theorem cont_cells {E : Env} {w : World} {p : Pl} {b : AB} {x : M} (h : b.holds E w p) (hx : b.cont = some x) :
    p.stride = x.size ∧ (x.flat ≠ [] → p.nil = false) ∧ ∀ r o v, x.flat[r * x.size + o]? = some v → ∃ V, conc E v = some V ∧ w.cell? (p.addr r o) = some V := by
  cases b with
  | own y =>
    simp only [AB.cont, Option.some.injEq] at hx
    subst hx
    obtain ⟨h0, h1, h2, vs, hvs, ho⟩ := h
    refine ⟨h1, ?_, ?_⟩
    · intro hne
      cases hn : p.nil with
      | false => rfl
      | true =>
        exfalso
        rcases ho.2 with ⟨_, hl⟩ | ⟨g, cap, cur, he, _⟩
        · have := ho.1
          rw [hl, Nat.zero_mul] at this
          have := concs_length hvs
          exact hne (List.eq_nil_of_length_eq_zero (by omega))
        · simp [Pl.whole, Pl.ptr, hn] at he
    · intro r o v hv
      obtain ⟨V, hV, hcv⟩ := concs_get hvs hv
      refine ⟨V, hcv, ?_⟩
      rcases ho.2 with ⟨_, hl⟩ | ⟨g, cap, cur, he, _⟩
      · have := ho.1
        rw [hl, Nat.zero_mul] at this
        have := (List.getElem?_eq_some_iff.1 hV).1
        omega
      · have hn : p.nil = false := by
          cases hn : p.nil with
          | false => rfl
          | true => simp [Pl.whole, Pl.ptr, hn] at he
        have := ho.cells (Pl.whole_block hn) _ V hV
        have hadd : (⟨p.block, 0, none⟩ : Addr).add (r * y.size + o) = p.addr r o := by
          unfold Addr.add Pl.addr
          rw [h0, h1]
          split
          · rename_i e0; rw [Nat.zero_add, e0]
          · simp
        rwa [hadd] at this
  | ro y =>
    simp only [AB.cont, Option.some.injEq] at hx
    subst hx
    obtain ⟨h0, hn, hlt, h⟩ := h
    refine ⟨h0, ?_, ?_⟩
    · intro hne
      cases hn' : p.nil with
      | false => rfl
      | true => exact absurd (hn hn').1 hne
    · intro r o v hv
      obtain ⟨V, h1, h2⟩ := h _ v hv
      refine ⟨V, h1, ?_⟩
      unfold Pl.addr
      rw [h0, Nat.add_assoc]
      exact h2
  | _ => simp [AB.cont] at hx

theorem run_isAgg {P : Program} {t : TypeId} {d : TypeDesc} (h : P.underlying t = some d) (w : World) : (Go.isAgg t).run P w = .ok (isAggD d) w := by
  unfold Go.isAgg
  simp only [Sem.run_bind, run_underlying h, Result.andThen_ok]
  cases d <;> rfl
theorem run_sizeOf {P : Program} {t : TypeId} {i : TypeInfo} (h : P.info? t = some i) (w : World) : (Go.sizeOf t).run P w = .ok i.size w := by
  simp [Go.sizeOf, typeInfo, h]

theorem get_no {e : Eff} {p : Prop} (h : (no : Te).get = some e) : p := by simp [no, T.get] at h
theorem get_one {e f : Eff} (h : (one f : Te).get = some e) : f = e := by simpa [one, T.get] using h

/-- A known list of cells in a row. -/
theorem got_cells {E : Env} {w : World} {p : Pl} {b : AB} {x : M} {r o k : Nat} {l : List AV} (hh : b.holds E w p) (hx : b.cont = some x) (h : (x.get r o k).get = some l) :
    l.length = k ∧ ∃ vs, concs E l = some vs ∧ ∀ j V, vs[j]? = some V → w.cell? ((p.addr r o).add j) = some V := by
  obtain ⟨h1, h2⟩ := M.get_ok h
  obtain ⟨_, _, h3⟩ := cont_cells hh hx
  refine ⟨h1, ?_⟩
  obtain ⟨vs, h4, h5⟩ := concs_of_cells (E := E) (g := fun j V => w.cell? (p.addr r j) = some V) (a := l) (k := o) (fun j v hv => h3 r (o + j) v (h2 j v hv))
  exact ⟨vs, h4, fun j V hV => by rw [addr_add]; exact h5 j V hV⟩

theorem load_run {P : Program} {ty : TypeId} {w : World} {E : Env} {hp : Nat → Option AB} {e : Eff} {av : AV} {X : Value} (hv : conc E av = some X)
    (G : ∀ n b, hp n = some b → ∃ p, E n = some p ∧ b.holds E w p) (h : (effLoad P ty av hp).get = some e) : ∃ V, conc E e.val = some V ∧ (Instr.loadAt ty X).run P w = .ok V w ∧ e.upd = [] ∧ e.news = [] := by
  unfold effLoad at h
  split at h
  case h_2 => exact get_no h
  rename_i n r of
  split at h
  case h_2 => exact get_no h
  rename_i x d i hb hd hi
  obtain ⟨b, hb, hx⟩ := Option.bind_eq_some_iff.1 hb
  obtain ⟨p, hp1, hh⟩ := G n b hb
  simp only [conc, hp1, Option.map_some, Option.some.injEq] at hv
  cases hag : isAggD d with
  | true =>
    rw [hag] at h
    simp only [cond_true] at h
    obtain ⟨l, hl, rfl⟩ := T.get_mapO h
    obtain ⟨h1, vs, hvs, hcell⟩ := got_cells hh hx hl
    have hvl : vs.length = i.size := (concs_length hvs).trans h1
    refine ⟨.agg vs.toArray, by simp [conc, hvs], ?_, rfl, rfl⟩
    have hload := run_loadCells_list (P := P) w (p.addr r of) vs hcell
    rw [hvl] at hload
    simp [← hv, Instr.loadAt, Instr.sureAddr, loadVar, run_isAgg hd, hag, run_sizeOf hi, hload]
  | false =>
    rw [hag] at h
    simp only [cond_false] at h
    obtain ⟨l, hl, h⟩ := T.get_bindO h
    split at h
    case h_2 => exact get_no h
    rename_i v
    obtain rfl := get_one h
    obtain ⟨h1, vs, hvs, hcell⟩ := got_cells hh hx hl
    obtain ⟨V, us, hV, hus, rfl⟩ := concs_cons.1 hvs
    have := hcell 0 V rfl
    rw [addr_add, Nat.add_zero] at this
    refine ⟨V, hV, ?_, rfl, rfl⟩
    simp [← hv, Instr.loadAt, Instr.sureAddr, loadVar, run_isAgg hd, hag, run_load, this]

theorem load_ok {C : Cx} {ty : TypeId} {x : Operand} {o : Oper} {a : Act} {w : World} {E : Env} {hp : Nat → Option AB} {lo : Nat} {e : Eff} {av : AV} (ho : o.op = .load ty x) (hv : conc E av = some (a.eval x))
    (G : ∀ n b, hp n = some b → ∃ p, E n = some p ∧ b.holds E w p) (h : (effLoad C.P ty av hp).get = some e) : OpOk C.P o a w E hp lo e := by
  obtain ⟨V, h1, h2, h3, h4⟩ := load_run hv G h
  refine OpOk.value (V := V) ?_ h1 h3 h4
  simp [execOp, ho, h2]

theorem setRow_fr (w : World) (g : Nat) (X : Array Value) : Fr (fun i => i = g) w (w.setRow g X) := by
  refine ⟨rfl, rfl, rfl, by simp [World.setRow], fun k hk hne => ?_⟩
  simp only [World.setRow, Array.getElem?_modify]
  rw [if_neg (fun e => hne e.symm)]

/-- An owned block, opened. -/
theorem own_open {E : Env} {w : World} {p : Pl} {x : M} (h : (AB.own x).holds E w p) (hne : x.flat ≠ []) : p.nil = false ∧ p.base = 0 ∧ p.stride = x.size ∧ 0 < x.size ∧
    ∃ vs cur, concs E x.flat = some vs ∧ vs.length = x.len * x.size ∧ w.heap[p.block]? = some (.cells cur x.e (0, 0)) ∧ x.len ≤ p.cap ∧ p.cap ≤ maxLen ∧ cur.size = p.cap * x.size ∧ cur.toList.take (x.len * x.size) = vs := by
  have hn := (cont_cells h rfl).2.1 hne
  obtain ⟨h0, h1, h2, vs, hvs, hl, ho⟩ := h
  refine ⟨hn, h0, h1, h2, vs, ?_⟩
  rcases ho with ⟨he, _⟩ | ⟨g, cap, cur, he, hg, hh, h3, h4, h5, h6⟩
  · simp [Pl.whole, Pl.ptr, hn] at he
  · simp only [Pl.whole, Pl.ptr, hn, Pl.addr, h0] at he
    simp at he
    obtain ⟨e1, e2⟩ := he
    subst e1 e2
    exact ⟨cur, hvs, hl, hh, h3, h4, h5, h6⟩

theorem store_ok {C : Cx} {ty : TypeId} {x y : Operand} {o : Oper} {a : Act} {w : World} {E : Env} {hp : Nat → Option AB} {lo : Nat} {e : Eff} {av xv : AV} (ho : o.op = .store ty x y) (hv : conc E av = some (a.eval x)) (hx : conc E xv = some (a.eval y))
    (G : ∀ n b, hp n = some b → ∃ p, E n = some p ∧ b.holds E w p) (h : (effStore C.P ty av xv hp).get = some e) : OpOk C.P o a w E hp lo e := by
  unfold effStore at h
  split at h
  case h_2 => exact get_no h
  rename_i n r of
  split at h
  case h_2 => exact get_no h
  rename_i m i hb hi
  cases hbe : (noJ xv && Nat.beq (acells xv).length i.size && allOne (acells xv)) with
  | false => rw [hbe] at h; exact get_no h
  | true =>
    rw [hbe] at h
    simp only [cond_true] at h
    simp only [Bool.and_eq_true] at hbe
    obtain ⟨⟨hj, h1⟩, h3⟩ := hbe
    have h1 := Nat.eq_of_beq_eq_true h1
    obtain ⟨m', hm, rfl⟩ := T.get_mapO h
    obtain ⟨me, ms, mle, mf, ml⟩ := M.put_ok hm
    obtain ⟨p, hp1, hh⟩ := G n _ hb
    have hh' := hh
    simp only [conc, hp1, Option.map_some, Option.some.injEq] at hv
    have hxc := acells_conc hx hj
    have hxl := concs_length hxc
    by_cases hz : m.flat = []
    · -- nothing is stored
      have hl0 : (acells xv).length = 0 := by rw [hz] at mle; simp at mle; simp [mle]
      have hcs0 : (a.eval y).cells.toList = [] := List.eq_nil_of_length_eq_zero (by omega)
      have hf0 : m'.flat = [] := by
        have : acells xv = [] := List.eq_nil_of_length_eq_zero hl0
        rw [mf, hz, this]; simp
      have hsz : (a.eval y).cells.size = i.size := by rw [← h1, ← hxl]; simp
      have hstore : (execOp a.eval o).run C.P w = .ok .skip w := by
        simp only [execOp, ho, ← hv, Instr.storeAt, Instr.sureAddr, storeVar]
        simp only [Sem.run_bind, Sem.run_pure, Result.andThen_ok, run_sizeOf hi, hsz, ne_eq, not_true, if_false, hcs0, storeCells]
      intro next Q hnext
      unfold Oper.wp
      rw [hstore]
      refine hnext undef _ E rfl ?_
      have hholds : (AB.own m').holds E w p := by
        obtain ⟨q0, q1, q2, vs, q3, q4⟩ := hh
        rw [hz] at q3
        refine ⟨q0, by rw [ms]; exact q1, by rw [ms]; exact q2, vs, by rw [hf0]; exact q3, by rw [ms, me, ml]; exact q4⟩
      cases hf : (AB.own m).foot p with
      | some k => exact Post.turn hb hp1 hf (by simpa [AB.foot] using hf) (fun _ => rfl) rfl rfl ⟨rfl, rfl, rfl, Nat.le_refl _, fun _ _ _ => rfl⟩ hholds
      | none =>
        refine ⟨E.le_refl, fun m h h' => (h' h).elim, ⟨rfl, rfl, rfl, Nat.le_refl _, fun _ _ _ => rfl⟩, ?_, ?_, ?_, ?_⟩
        · intro n' b' h'
          simp only [Eff.put, List.append_nil, lookO] at h'
          cases hbq : Nat.beq n n' with
          | false => rw [hbq] at h'; simp at h'
          | true =>
            rw [hbq] at h'
            simp at h'
            subst h'
            obtain rfl := Nat.eq_of_beq_eq_true hbq
            exact ⟨p, hp1, hholds⟩
        · intro n' b' q k h' hq hk
          simp only [Eff.put, List.append_nil, lookO] at h'
          cases hbq : Nat.beq n n' with
          | false => rw [hbq] at h'; simp at h'
          | true =>
            rw [hbq] at h'
            simp at h'
            subst h'
            obtain rfl := Nat.eq_of_beq_eq_true hbq
            rw [hp1] at hq
            cases hq
            rw [show (AB.own m').foot p = (AB.own m).foot p from rfl, hf] at hk
            cases hk
        · intro n' b' q h'
          simp only [Eff.put, List.append_nil, lookO] at h'
          cases hbq : Nat.beq n n' with
          | false => rw [hbq] at h'; simp at h'
          | true => rw [hbq] at h'; simp at h'; subst h'; rfl
        · intro n' m'' b' c' q q' k h' h'' _ _ _ _
          simp only [Eff.put, List.append_nil, lookO] at h' h''
          cases hbq : Nat.beq n n' with
          | false => rw [hbq] at h'; simp at h'
          | true =>
            cases hbq' : Nat.beq n m'' with
            | false => rw [hbq'] at h''; simp at h''
            | true => exact (Nat.eq_of_beq_eq_true hbq).symm.trans (Nat.eq_of_beq_eq_true hbq')
    · obtain ⟨hn, h0, hst, hs, vs, cur, hvs, hvl, hheap, hcap1, hcap2, hcs, htake⟩ := own_open hh hz
      have hfl : m.flat.length = m.len * m.size := by rw [← concs_length hvs]; exact hvl
      have haddr : p.addr r of = ⟨p.block, r * m.size + of, none⟩ := by simp [Pl.addr, h0, hst]
      rw [haddr] at hv
      have hlen : (a.eval y).cells.toList.length = (acells xv).length := hxl
      have hle : r * m.size + of + (a.eval y).cells.toList.length ≤ cur.size := by
        have : m.len * m.size ≤ p.cap * m.size := Nat.mul_le_mul_right _ hcap1
        omega
      have hsto := run_storeCells_at C.P p.block (r * m.size + of) m.e (a.eval y).cells.toList 0 cur w hheap (by simp at hle ⊢; omega) (ones_conc hxc h3)
      simp only [Nat.add_zero] at hsto
      have hstore : (execOp a.eval o).run C.P w = .ok .skip (w.setRow p.block (cur.toList.take (r * m.size + of) ++ (a.eval y).cells.toList ++ cur.toList.drop (r * m.size + of + (a.eval y).cells.toList.length)).toArray) := by
        simp only [execOp, ho, ← hv, Instr.storeAt, Instr.sureAddr, storeVar]
        have hsz : (a.eval y).cells.size = i.size := by rw [← h1, ← hxl]; simp
        simp only [Sem.run_bind, Sem.run_pure, Result.andThen_ok, run_sizeOf hi, hsz, ne_eq, not_true, if_false, hsto]
      intro next Q hnext
      unfold Oper.wp
      rw [hstore]
      refine hnext undef _ E rfl (Post.turn (b := .own m) (k := p.block) hb hp1 (by simp [AB.foot, hn]) (by simp [AB.foot, hn]) (fun _ => rfl) rfl rfl (setRow_fr _ _ _) ?_)
      have htk := concs_take (r * m.size + of) hvs
      have hdr := concs_drop (r * m.size + of + (acells xv).length) hvs
      refine ⟨h0, by rw [ms]; exact hst, by rw [ms]; exact hs, vs.take (r * m.size + of) ++ (a.eval y).cells.toList ++ vs.drop (r * m.size + of + (acells xv).length), ?_, ?_⟩
      · rw [mf]
        exact concs_append.2 ⟨_, _, concs_append.2 ⟨_, _, htk, hxc, rfl⟩, hdr, rfl⟩
      · rw [ms, me, ml]
        have hclen : cur.toList.length = p.cap * m.size := by simpa using hcs
        have hmc : m.len * m.size ≤ p.cap * m.size := Nat.mul_le_mul_right _ hcap1
        refine ⟨?_, .inr ⟨p.block, p.cap, _, ?_, Nat.zero_le _, setRow_heap w p.block cur _ m.e (0, 0) hheap, hcap1, hcap2, ?_, ?_⟩⟩
        · simp only [List.length_append, List.length_take, List.length_drop, hlen, hvl]
          rw [hfl] at mle
          omega
        · simp [Pl.whole, Pl.ptr, hn, Pl.addr, h0]
        · simp only [List.size_toArray, List.length_append, List.length_take, List.length_drop, hclen, hlen]
          rw [hfl] at mle
          omega
        · simp only [List.toList_toArray]
          rw [hlen, ← htake]
          apply List.ext_getElem?
          intro k
          rw [hfl] at mle
          have hcl : (a.eval y).cells.toList.length = (acells xv).length := hxl
          simp only [List.getElem?_take, List.getElem?_append, List.length_append, List.length_take, List.getElem?_drop, hcl, hclen, Nat.min_eq_left (show r * m.size + of ≤ p.cap * m.size by omega),
            Nat.min_eq_left hmc, Nat.min_eq_left (show r * m.size + of ≤ m.len * m.size by omega)]
          by_cases k1 : k < r * m.size + of
          · have k2 : k < r * m.size + of + (acells xv).length := by omega
            have k3 : k < m.len * m.size := by omega
            simp only [k1, k2, k3, if_true]
          · by_cases k2 : k < r * m.size + of + (acells xv).length
            · have k3 : k < m.len * m.size := by omega
              simp only [k1, k2, k3, if_true, if_false]
            · by_cases k3 : k < m.len * m.size
              · have k4 : r * m.size + of + (acells xv).length + (k - (r * m.size + of + (acells xv).length)) = k := by omega
                simp only [k1, k2, k3, k4, if_true, if_false]
              · have k4 : r * m.size + of + (acells xv).length + (k - (r * m.size + of + (acells xv).length)) = k := by omega
                simp only [k1, k2, k3, k4, if_true, if_false]

/-! ### Addresses, parts -/
theorem field_ok {C : Cx} {s : TypeId} {x : Operand} {f : Nat} {o : Oper} {a : Act} {w : World} {E : Env} {hp : Nat → Option AB} {lo : Nat} {e : Eff} {av : AV} (ho : o.op = .fieldAddr s x f) (hv : conc E av = some (a.eval x))
    (h : (effField C.P s av f).get = some e) : OpOk C.P o a w E hp lo e := by
  unfold effField at h
  split at h
  case h_2 => exact get_no h
  rename_i n r of
  split at h
  case h_2 => exact get_no h
  rename_i fs hs
  split at h
  case h_2 => exact get_no h
  rename_i fd hf
  split at h
  case h_2 => exact get_no h
  rename_i i hi
  cases hz : Nat.beq i.size 0 with
  | true => rw [hz] at h; exact get_no h
  | false =>
    rw [hz] at h
    simp only [cond_false] at h
    obtain rfl := get_one h
    simp only [conc, Option.map_eq_some_iff] at hv
    obtain ⟨p, hp1, hv⟩ := hv
    have hne : ¬ i.size = 0 := by intro e0; rw [e0] at hz; simp at hz
    refine OpOk.value (V := .pointer (some (p.addr r (of + fd.offset)))) ?_ (by simp [conc, hp1]) rfl rfl
    simp [execOp, ho, ← hv, Instr.fieldAt, run_underlying hs, hf, Instr.sureAddr, fieldPlace, run_sizeOf hi, hne, addr_add]

theorem nil_len {E : Env} {w : World} {p : Pl} {b : AB} {x : M} (h : b.holds E w p) (hx : b.cont = some x) (hn : p.nil = true) : x.len = 0 := by
  cases b with
  | own y =>
    simp only [AB.cont, Option.some.injEq] at hx
    subst hx
    obtain ⟨_, _, _, vs, _, ho⟩ := h
    rcases ho.2 with ⟨_, hl⟩ | ⟨g, cap, cur, he, _⟩
    · exact hl
    · simp [Pl.whole, Pl.ptr, hn] at he
  | ro y =>
    simp only [AB.cont, Option.some.injEq] at hx
    subst hx
    exact (h.2.1 hn).2
  | _ => simp [AB.cont] at hx
theorem elemAt_conc {E : Env} {w : World} {p : Pl} {b : AB} {y : M} {n r of size j : Nat} (hb : b.holds E w p) (hy : b.cont = some y) (hp1 : E n = some p) :
    conc E (elemAt y r of size j n) = some (.pointer (some ((p.addr r of).add (j * size)))) := by
  unfold elemAt
  cases hq : (Nat.beq y.size size && Nat.beq of 0) with
  | true =>
    simp only [Bool.and_eq_true] at hq
    have h1 := Nat.eq_of_beq_eq_true hq.1
    have h2 := Nat.eq_of_beq_eq_true hq.2
    subst h1 h2
    simp only [cond_true, conc, hp1, Option.map_some]
    rw [addr_rows, addr_add, Nat.zero_add, (cont_cells hb hy).1]
  | false => simp [conc, hp1, addr_add]

theorem index_ok {C : Cx} {ty : TypeId} {x y : Operand} {o : Oper} {a : Act} {w : World} {E : Env} {hp : Nat → Option AB} {lo : Nat} {e : Eff} {av iv : AV} (ho : o.op = .indexAddr ty x y) (hv : conc E av = some (a.eval x)) (hi : conc E iv = some (a.eval y))
    (G : ∀ n b, hp n = some b → ∃ p, E n = some p ∧ b.holds E w p) (h : (effIndex C.P ty av iv hp).get = some e) : OpOk C.P o a w E hp lo e := by
  unfold effIndex at h
  split at h
  case h_2 => exact get_no h
  rename_i k j
  simp only [conc, Option.some.injEq] at hi
  split at h
  · rename_i len el hu
    split at h
    case h_2 => exact get_no h
    rename_i n r of ie hie
    obtain ⟨hc, h⟩ := T.get_when h
    obtain rfl := get_one h
    simp only [conc, Option.map_eq_some_iff] at hv
    obtain ⟨p, hp1, hv⟩ := hv
    have hc' : 0 ≤ j ∧ j < (len : Int) := by simpa using hc
    refine OpOk.value (V := .pointer (some (p.addr r (of + j.toNat * ie.size)))) ?_ (by simp [conc, hp1]) rfl rfl
    simp [execOp, ho, ← hv, ← hi, Instr.indexAt, asIntOf, run_underlying hu, Instr.sureAddr, hc', run_sizeOf hie, addr_add]
  · rename_i el hu
    split at h
    case h_2 => exact get_no h
    rename_i ie hie
    split at h
    case h_2 => exact get_no h
    rename_i n r of len cap
    split at h
    case h_2 => exact get_no h
    rename_i y hy
    obtain ⟨hc, h⟩ := T.get_when h
    obtain rfl := get_one h
    obtain ⟨b, hb, hy⟩ := Option.bind_eq_some_iff.1 hy
    obtain ⟨p, hp1, hh⟩ := G n b hb
    simp only [conc, hp1, Option.map_some, Option.some.injEq] at hv
    have hc1 : 0 ≤ j ∧ j < (len : Int) ∧ 0 < y.len := by simpa using hc
    have hc' : 0 ≤ j ∧ j < (len : Int) := ⟨hc1.1, hc1.2.1⟩
    cases hnil : p.nil with
    | true =>
      have := nil_len hh hy hnil
      omega
    | false =>
      refine OpOk.value (V := .pointer (some ((p.addr r of).add (j.toNat * ie.size)))) ?_ (elemAt_conc hh hy hp1) rfl rfl
      simp [execOp, ho, ← hv, ← hi, Instr.indexAt, asIntOf, run_underlying hu, hc', run_sizeOf hie, addr_add, Pl.ptr, hnil]
  · exact get_no h

theorem run_part_of {P : Program} {E : Env} {t : TypeId} {u : TypeDesc} {i : TypeInfo} {xs : List AV} {Xs : List Value} {off : Nat} {a : AV} (hu : P.underlying t = some u) (hi : P.info? t = some i) (hx : concs E xs = some Xs)
    (h : partOf u i xs off = some a) : ∃ A, conc E a = some A ∧ ∀ w, (part t Xs.toArray off).run P w = .ok A w := by
  unfold partOf at h
  cases hag : isAggD u with
  | true =>
    rw [hag] at h
    simp only [cond_true, Option.some.injEq] at h
    subst h
    have := concs_take i.size (concs_drop off hx)
    exact ⟨.agg ((Xs.drop off).take i.size).toArray, by simp [conc, this], fun w => by simp [part, run_isAgg hu, hag, run_sizeOf hi, List.extract_eq_take_drop]⟩
  | false =>
    rw [hag] at h
    simp only [cond_false] at h
    obtain ⟨A, h1, h2⟩ := concs_get hx h
    exact ⟨A, h2, fun w => by simp [part, run_isAgg hu, hag, h1]⟩

theorem part_ok {C : Cx} {ty : TypeId} {x : Operand} {f : Nat} {o : Oper} {a : Act} {w : World} {E : Env} {hp : Nat → Option AB} {lo : Nat} {e : Eff} {av : AV} (ho : o.op = .field ty x f) (hv : conc E av = some (a.eval x))
    (h : (effPart C.P ty av f).get = some e) : OpOk C.P o a w E hp lo e := by
  unfold effPart at h
  split at h
  case h_2 => exact get_no h
  rename_i cs
  split at h
  case h_2 => exact get_no h
  rename_i fs hs
  split at h
  case h_2 => exact get_no h
  rename_i fd hf
  split at h
  case h_2 => exact get_no h
  rename_i d i hd hi
  simp only [conc, Option.map_eq_some_iff] at hv
  obtain ⟨vs, hvs, hv⟩ := hv
  split at h
  case h_2 => exact get_no h
  rename_i u hu
  obtain rfl := get_one h
  obtain ⟨A, h1, h2⟩ := run_part_of hd hi hvs hu
  refine OpOk.value (V := A) ?_ h1 rfl rfl
  simp [execOp, ho, ← hv, Instr.field, run_underlying hs, hf, asAgg, h2]

theorem acells_agg {E : Env} {v : AV} {V : Value} (h : conc E v = some V) (ha : isAgg v = true) : ∃ cs, V = .agg cs ∧ concs E (acells v) = some cs.toList := by
  have hc := acells_conc h (by cases v <;> first | rfl | simp [isAgg] at ha)
  cases v with
  | v x =>
    simp only [conc, Option.some.injEq] at h
    subst h
    cases x <;> simp [isAgg] at ha
    exact ⟨_, rfl, hc⟩
  | agg cs =>
    have h' := h
    simp only [conc, Option.map_eq_some_iff] at h'
    obtain ⟨vs, hvs, rfl⟩ := h'
    exact ⟨_, rfl, hc⟩
  | _ => simp [isAgg] at ha

theorem elem_ok {C : Cx} {ty : TypeId} {x y : Operand} {o : Oper} {a : Act} {w : World} {E : Env} {hp : Nat → Option AB} {lo : Nat} {e : Eff} {av iv : AV} (ho : o.op = .index ty x y) (hv : conc E av = some (a.eval x)) (hi : conc E iv = some (a.eval y))
    (h : (effElem C.P ty av iv).get = some e) : OpOk C.P o a w E hp lo e := by
  unfold effElem at h
  split at h
  case h_2 => exact get_no h
  rename_i k j
  simp only [conc, Option.some.injEq] at hi
  split at h
  · rename_i len el hu
    cases hag : isAgg av with
    | false => rw [hag] at h; exact get_no h
    | true =>
      rw [hag] at h
      simp only [cond_true] at h
      split at h
      case h_2 => exact get_no h
      rename_i d ie hd hie
      obtain ⟨hc, h⟩ := T.get_when h
      have hc' : 0 ≤ j ∧ j < (len : Int) := by simpa using hc
      split at h
      case h_2 => exact get_no h
      rename_i u hu'
      obtain rfl := get_one h
      obtain ⟨cs, hcs, hcc⟩ := acells_agg hv hag
      obtain ⟨A, h1, h2⟩ := run_part_of hd hie hcc hu'
      refine OpOk.value (V := A) ?_ h1 rfl rfl
      simp only [Array.toArray_toList] at h2
      simp [execOp, ho, hcs, ← hi, Instr.index, asIntOf, run_underlying hu, hc', run_sizeOf hie, h2]
  · rename_i hu
    split at h
    case h_2 => exact get_no h
    rename_i s
    obtain ⟨hc, h⟩ := T.get_when h
    have hc' : 0 ≤ j ∧ j < (s.size : Int) := by simpa using hc
    split at h
    case h_2 => exact get_no h
    rename_i b hb
    obtain rfl := get_one h
    simp only [conc, Option.some.injEq] at hv
    refine OpOk.value (V := .int .u8 b.toNat) ?_ rfl rfl rfl
    have hb2 : (if 0 ≤ j then s[j.toNat]? else none) = some b := by rw [if_pos hc'.1, hb]
    simp only [execOp, ho, ← hv, ← hi, Instr.index, asIntOf, Sem.run_bind, Sem.run_pure, run_underlying hu, Result.andThen_ok, hb2]
  · exact get_no h

/-! ### Equality -/
theorem aeqF_ok {P : Program} {E : Env} {d : Nat} {eq : TypeId → AV → AV → Option Bool} (ih : ∀ t x y X Y b, eq t x y = some b → conc E x = some X → conc E y = some Y → ∀ w, (Op.equalIn d t X Y).run P w = .ok b w) :
    ∀ (fs : List Field) (xs ys : List AV) (Xs Ys : List Value) (b : Bool), aeqF P eq fs xs ys = some b → concs E xs = some Xs → concs E ys = some Ys → ∀ w, (Op.eqFields d Xs.toArray Ys.toArray fs).run P w = .ok b w
  | [], xs, ys, Xs, Ys, b, h, hx, hy, w => by
    simp only [aeqF, Option.some.injEq] at h
    subst h
    rfl
  | f :: fs, xs, ys, Xs, Ys, b, h, hx, hy, w => by
    unfold aeqF at h
    cases hn : (f.name == "_") with
    | true =>
      rw [hn] at h
      simp only [cond_true] at h
      have hn' : f.name = "_" := by simpa using hn
      simp only [Op.eqFields, hn', ne_eq, not_true, if_false]
      exact aeqF_ok ih fs xs ys Xs Ys b h hx hy w
    | false =>
      rw [hn] at h
      simp only [cond_false] at h
      have hn' : f.name ≠ "_" := by simpa using hn
      split at h
      case h_2 => cases h
      rename_i u i hu hi
      split at h
      case h_2 => cases h
      rename_i a c ha hc
      split at h
      case h_2 => cases h
      rename_i r s hr hs
      simp only [Option.some.injEq] at h
      subst h
      obtain ⟨A, hA, hpa⟩ := run_part_of hu hi hx ha
      obtain ⟨B, hB, hpb⟩ := run_part_of hu hi hy hc
      have h1 := ih _ _ _ _ _ _ hr hA hB w
      have h2 := aeqF_ok ih fs xs ys Xs Ys s hs hx hy w
      simp only [Op.eqFields, hn', ne_eq, not_false_iff, if_true, Sem.run_bind, hpa, hpb, Result.andThen_ok, h1]
      cases r
      · simp
      · simpa using h2
theorem aeqA_ok {P : Program} {E : Env} {d : Nat} {eq : TypeId → AV → AV → Option Bool} (ih : ∀ t x y X Y b, eq t x y = some b → conc E x = some X → conc E y = some Y → ∀ w, (Op.equalIn d t X Y).run P w = .ok b w)
    {e : TypeId} {u : TypeDesc} {i : TypeInfo} {xs ys : List AV} {Xs Ys : List Value} (hu : P.underlying e = some u) (hi : P.info? e = some i) (hx : concs E xs = some Xs) (hy : concs E ys = some Ys) :
    ∀ (n k : Nat) (b : Bool), aeqA P eq e u i xs ys n k = some b → ∀ w, (Op.eqItems d e i.size Xs.toArray Ys.toArray (List.range' k n)).run P w = .ok b w
  | 0, k, b, h, w => by
    simp only [aeqA, Option.some.injEq] at h
    subst h
    rfl
  | n + 1, k, b, h, w => by
    unfold aeqA at h
    split at h
    case h_2 => cases h
    rename_i a c ha hc
    split at h
    case h_2 => cases h
    rename_i r s hr hs
    simp only [Option.some.injEq] at h
    subst h
    obtain ⟨A, hA, hpa⟩ := run_part_of hu hi hx ha
    obtain ⟨B, hB, hpb⟩ := run_part_of hu hi hy hc
    have h1 := ih _ _ _ _ _ _ hr hA hB w
    have h2 := aeqA_ok ih hu hi hx hy n (k + 1) s hs w
    simp only [List.range'_succ, Op.eqItems, Sem.run_bind, hpa, hpb, Result.andThen_ok, h1]
    cases r
    · simp
    · simpa using h2

theorem aeq_ok {P : Program} {E : Env} : ∀ (d : Nat) (t : TypeId) (x y : AV) (X Y : Value) (b : Bool), aeq P d t x y = some b → conc E x = some X → conc E y = some Y → ∀ w, (Op.equalIn d t X Y).run P w = .ok b w
  | 0, t, x, y, X, Y, b, h, _, _, _ => by simp [aeq] at h
  | d + 1, t, x, y, X, Y, b, h, hx, hy, w => by
    unfold aeq at h
    cases hag : (isAgg x && isAgg y) with
    | true =>
      rw [hag] at h
      simp only [cond_true] at h
      simp only [Bool.and_eq_true] at hag
      obtain ⟨cx, rfl, hcx⟩ := acells_agg hx hag.1
      obtain ⟨cy, rfl, hcy⟩ := acells_agg hy hag.2
      split at h
      · rename_i fs hs
        cases hst : P.stoodInHeld t with
        | true => rw [hst] at h; cases h
        | false =>
          rw [hst] at h
          simp only [cond_false] at h
          have hf : P.fieldsOf t = fs := by simp [Program.fieldsOf, hs]
          rw [run_equalIn_struct w d t cx cy (by rw [hf]; exact hs) hst, hf]
          have := aeqF_ok (fun t x y X Y b h hx hy w => aeq_ok d t x y X Y b h hx hy w) fs.toList _ _ _ _ b h hcx hcy w
          simpa using this
      · rename_i n e hs
        split at h
        case h_2 => cases h
        rename_i u i hu hi
        rw [run_equalIn_array w d cx cy hs hi, List.range_eq_range']
        have hc : P.cellsOf e = i.size := by simp [Program.cellsOf, hi]
        rw [hc]
        have := aeqA_ok (fun t x y X Y b h hx hy w => aeq_ok d t x y X Y b h hx hy w) hu hi hcx hcy n 0 b h w
        simpa using this
      · cases h
    | false =>
      rw [hag] at h
      simp only [cond_false] at h
      split at h
      · rename_i k0 k a k' c hu
        split at h
        case isFalse => cases h
        rename_i hk
        simp only [conc, Option.some.injEq] at hx hy h
        subst hx hy h hk
        exact run_equalIn_int w d t k k0 a c hu
      · rename_i a c hu
        simp only [conc, Option.some.injEq] at hx hy h
        subst hx hy h
        exact run_equalIn_bool' w d t a c hu
      · rename_i a c hu
        simp only [conc, Option.some.injEq] at hx hy h
        subst hx hy h
        rw [beq_toListBytes]
        exact run_equalIn_string w d t a c hu
      · rename_i k0 k a k' c hu
        split at h
        case isFalse => cases h
        rename_i hk
        simp only [conc, Option.some.injEq] at hx hy h
        subst hx hy h hk
        simp [Op.equalIn, run_underlying hu]
      · rename_i k0 k a c k' a' c' hu
        split at h
        case isFalse => cases h
        rename_i hk
        simp only [conc, Option.some.injEq] at hx hy h
        subst hx hy h hk
        simp [Op.equalIn, run_underlying hu]
      · rename_i el hu
        simp only [conc, Option.some.injEq] at hx hy h
        subst hx hy h
        simp [Op.equalIn, run_underlying hu]
      · rename_i el n r o hu
        simp only [conc, Option.some.injEq, Option.map_eq_some_iff] at hx hy h
        obtain ⟨p, _, rfl⟩ := hx
        subst hy h
        simp [Op.equalIn, run_underlying hu]
      · rename_i el n r o hu
        simp only [conc, Option.some.injEq, Option.map_eq_some_iff] at hx hy h
        obtain ⟨p, _, rfl⟩ := hy
        subst hx h
        simp [Op.equalIn, run_underlying hu]
      · cases h

def odd : Value → Bool
  | .pointer _ | .map _ | .func .. | .nilFunc => true
  | _ => false
theorem eql_of {P : Program} {w : World} {t : TypeId} {X Y : Value} {b : Bool} (hX : odd X = true) (h : (Op.equalIn 10000 t X Y).run P w = .ok b w) : (binOp .eql t X Y).run P w = .ok (.bool b) w := by
  have h' : (Op.equal t X Y).run P w = .ok b w := h
  cases X <;> simp only [odd, reduceCtorEq] at hX <;> simp only [binOp] <;> simp only [Sem.run_bind, h', Result.andThen_ok, Sem.run_pure]
theorem neq_of {P : Program} {w : World} {t : TypeId} {X Y : Value} {b : Bool} (hX : odd X = true) (h : (Op.equalIn 10000 t X Y).run P w = .ok b w) : (binOp .neq t X Y).run P w = .ok (.bool !b) w := by
  have h' : (Op.equal t X Y).run P w = .ok b w := h
  cases X <;> simp only [odd, reduceCtorEq] at hX <;> simp only [binOp] <;> simp only [Sem.run_bind, h', Result.andThen_ok, Sem.run_pure]
theorem nil_run {P : Program} {w : World} {t : TypeId} {X Y : Value} {b : Bool} (hX : odd X = true) (hg : ∀ op u v, (eqGuard op t u v X Y).run P w = .ok () w) (h : ∀ d, (Op.equalIn (d + 1) t X Y).run P w = .ok b w) :
    (∀ op u v, (eqGuard op t u v X Y).run P w = .ok () w) ∧ (binOp .eql t X Y).run P w = .ok (.bool b) w ∧ (binOp .neq t X Y).run P w = .ok (.bool !b) w := ⟨hg, eql_of hX (h 9999), neq_of hX (h 9999)⟩
theorem eqB_run {P : Program} {E : Env} {ty : TypeId} {x y : AV} {X Y : Value} {b : Bool} (h : eqB P ty x y = some b) (hx : conc E x = some X) (hy : conc E y = some Y) (w : World) :
    (∀ op u v, (eqGuard op ty u v X Y).run P w = .ok () w) ∧ (binOp .eql ty X Y).run P w = .ok (.bool b) w ∧ (binOp .neq ty X Y).run P w = .ok (.bool !b) w := by
  unfold eqB at h
  cases hag : (isAgg x && isAgg y) with
  | true =>
    rw [hag] at h
    simp only [cond_true] at h
    cases hg : P.eqGuardType P.depth ty with
    | true => rw [hg] at h; cases h
    | false =>
      rw [hg] at h
      simp only [cond_false] at h
      have hrun := aeq_ok 10000 ty x y _ _ b h hx hy w
      simp only [Bool.and_eq_true] at hag
      obtain ⟨cx, rfl, _⟩ := acells_agg hx hag.1
      obtain ⟨cy, rfl, _⟩ := acells_agg hy hag.2
      exact ⟨fun op u v => run_eqGuard_agg w op ty u v cx cy hg, by rw [run_eql_struct, hrun]; rfl, by rw [run_neq_struct, hrun]; rfl⟩
  | false =>
    rw [hag] at h
    simp only [cond_false] at h
    split at h
    · rename_i el n r of hu
      simp only [Option.some.injEq] at h
      subst h
      simp only [conc, Option.some.injEq, Option.map_eq_some_iff] at hx hy
      obtain ⟨p, _, rfl⟩ := hx
      subst hy
      exact nil_run rfl (fun op u v => by cases op <;> simp [eqGuard]) (fun d => by simp [Op.equalIn, run_underlying hu])
    · rename_i el n r of hu
      simp only [Option.some.injEq] at h
      subst h
      simp only [conc, Option.some.injEq, Option.map_eq_some_iff] at hx hy
      obtain ⟨p, _, rfl⟩ := hy
      subst hx
      exact nil_run rfl (fun op u v => by cases op <;> simp [eqGuard]) (fun d => by simp [Op.equalIn, run_underlying hu])
    · rename_i k el n hu
      simp only [Option.some.injEq] at h
      subst h
      simp only [conc, Option.some.injEq, Option.map_eq_some_iff] at hx hy
      obtain ⟨p, _, rfl⟩ := hx
      subst hy
      exact nil_run rfl (fun op u v => by cases op <;> simp [eqGuard]) (fun d => by simp [Op.equalIn, run_underlying hu])
    · rename_i k el n hu
      simp only [Option.some.injEq] at h
      subst h
      simp only [conc, Option.some.injEq, Option.map_eq_some_iff] at hx hy
      obtain ⟨p, _, rfl⟩ := hy
      subst hx
      exact nil_run rfl (fun op u v => by cases op <;> simp [eqGuard]) (fun d => by simp [Op.equalIn, run_underlying hu])
    · rename_i k el n fn f1 f2 hu
      simp only [Option.some.injEq] at h
      subst h
      simp only [conc, Option.some.injEq, Option.map_eq_some_iff, Option.bind_eq_some_iff] at hx hy
      obtain ⟨p, _, q, _, rfl⟩ := hx
      subst hy
      exact nil_run rfl (fun op u v => by cases op <;> simp [eqGuard]) (fun d => by simp [Op.equalIn, run_underlying hu])
    · rename_i k el n fn f1 f2 hu
      simp only [Option.some.injEq] at h
      subst h
      simp only [conc, Option.some.injEq, Option.map_eq_some_iff, Option.bind_eq_some_iff] at hx hy
      obtain ⟨p, _, q, _, rfl⟩ := hy
      subst hx
      exact nil_run rfl (fun op u v => by cases op <;> simp [eqGuard]) (fun d => by simp [Op.equalIn, run_underlying hu])
    · cases h

theorem eq_ok {C : Cx} {op : BinOp} {ty : TypeId} {x y : Operand} {ty' : TypeId} {o : Oper} {a : Act} {w : World} {E : Env} {hp : Nat → Option AB} {lo : Nat} {e : Eff} {av bv : AV} (ho : o.op = .binOp op ty x y ty') (hx : conc E av = some (a.eval x)) (hy : conc E bv = some (a.eval y))
    (h : (effEq C.P op ty av bv).get = some e) : OpOk C.P o a w E hp lo e := by
  unfold effEq at h
  split at h
  · simp only [T.get, Option.map_eq_some_iff] at h
    obtain ⟨b, hb, rfl⟩ := h
    obtain ⟨h1, h2, _⟩ := eqB_run hb hx hy w
    refine OpOk.value (V := .bool b) ?_ rfl rfl rfl
    simp only [execOp, ho, Sem.run_bind, h1, Result.andThen_ok, h2, Sem.run_pure]
  · simp only [T.get, Option.map_eq_some_iff] at h
    obtain ⟨b, hb, rfl⟩ := h
    obtain ⟨h1, _, h2⟩ := eqB_run hb hx hy w
    refine OpOk.value (V := .bool !b) ?_ rfl rfl rfl
    simp only [execOp, ho, Sem.run_bind, h1, Result.andThen_ok, h2, Sem.run_pure]
  · exact get_no h
end Go.Proofs.Ytemggodhikpmdaa.Sx
