/- The engine, part X: soundness of the effects: maps. -/
import Derived.Test.YtnmgbheaabdhlaaDoorZ8
import Derived.MapKept
namespace Go.Proofs.YtnmgbheaabdhlaaDoor.Sx
open Go.RowKit
set_option linter.unusedSimpArgs false
set_option linter.unusedVariables false

theorem checkKey_simple {P : Program} {w : World} {kt : TypeId} {u : TypeDesc} {k : Value} (hd : P.underlying kt = some u) (hs : simpleKey u = true) (e : Bool) (n : Nat) : (Instr.checkKey e (n + 1) kt k).run P w = .ok () w := by
  unfold Instr.checkKey
  simp only [Sem.run_bind, run_underlying hd, Result.andThen]
  cases u <;> simp_all [simpleKey] <;> rfl
theorem concE_get {E : Env} : ∀ {es : List (AV × AV × Nat)} {l : List MapEntry} {i : Nat} {x : AV × AV × Nat}, concE E es = some l → es[i]? = some x → ∃ e, l[i]? = some e ∧ conc E x.1 = some e.key ∧ conc E x.2.1 = some e.val ∧ e.born = x.2.2
  | [], _, _, _, _, h => by simp at h
  | (k, v, b) :: es, l, i, x, h, hx => by
    simp only [concE, Option.bind_eq_some_iff, Option.map_eq_some_iff] at h
    obtain ⟨kv, hk, vv, hv, r, hr, rfl⟩ := h
    cases i with
    | zero =>
      simp only [List.getElem?_cons_zero, Option.some.injEq] at hx
      subst hx
      exact ⟨_, rfl, hk, hv, rfl⟩
    | succ i => simpa using concE_get hr (by simpa using hx)
theorem concE_length {E : Env} : ∀ {es : List (AV × AV × Nat)} {l : List MapEntry}, concE E es = some l → l.length = es.length
  | [], l, h => by simp only [concE, Option.some.injEq] at h; subst h; rfl
  | (k, v, b) :: es, l, h => by
    simp only [concE, Option.bind_eq_some_iff, Option.map_eq_some_iff] at h
    obtain ⟨kv, hk, vv, hv, r, hr, rfl⟩ := h
    simp [concE_length hr]
theorem concE_set {E : Env} : ∀ {es : List (AV × AV × Nat)} {l : List MapEntry} {i : Nat} {k v : AV} {kv vv : Value} {b : Nat}, concE E es = some l → conc E k = some kv → conc E v = some vv → concE E (es.set i (k, v, b)) = some (l.set i { key := kv, val := vv, born := b })
  | [], l, i, k, v, kv, vv, b, h, hk, hv => by simp only [concE, Option.some.injEq] at h; subst h; simp [concE]
  | (k0, v0, b0) :: es, l, i, k, v, kv, vv, b, h, hk, hv => by
    simp only [concE, Option.bind_eq_some_iff, Option.map_eq_some_iff] at h
    obtain ⟨kv0, hk0, vv0, hv0, r, hr, rfl⟩ := h
    cases i with
    | zero => simp [concE, hk, hv, hr]
    | succ i => simp [concE, hk0, hv0, concE_set hr hk hv]
theorem concE_push {E : Env} : ∀ {es : List (AV × AV × Nat)} {l : List MapEntry} {k v : AV} {kv vv : Value} {b : Nat}, concE E es = some l → conc E k = some kv → conc E v = some vv → concE E (es ++ [(k, v, b)]) = some (l ++ [{ key := kv, val := vv, born := b }])
  | [], l, k, v, kv, vv, b, h, hk, hv => by simp only [concE, Option.some.injEq] at h; subst h; simp [concE, hk, hv]
  | (k0, v0, b0) :: es, l, k, v, kv, vv, b, h, hk, hv => by
    simp only [concE, Option.bind_eq_some_iff, Option.map_eq_some_iff] at h
    obtain ⟨kv0, hk0, vv0, hv0, r, hr, rfl⟩ := h
    simp [concE, hk0, hv0, concE_push hr hk hv]
theorem concE_erase {E : Env} : ∀ {es : List (AV × AV × Nat)} {l : List MapEntry} {i : Nat}, concE E es = some l → concE E (es.eraseIdx i) = some (l.eraseIdx i)
  | [], l, i, h => by simp only [concE, Option.some.injEq] at h; subst h; simp [concE]
  | (k0, v0, b0) :: es, l, i, h => by
    simp only [concE, Option.bind_eq_some_iff, Option.map_eq_some_iff] at h
    obtain ⟨kv0, hk0, vv0, hv0, r, hr, rfl⟩ := h
    cases i with
    | zero => simpa using hr
    | succ i => simp [concE, hk0, hv0, concE_erase hr]
theorem findT_ok {E : Env} {u : TypeDesc} {k : Value} : ∀ {es : List (AV × AV × Nat)} {l : List MapEntry} {i : Nat} {r : Option Nat}, concE E es = some l → (findT u k es i).get = some r →
    match r with
    | none => Instr.findNow u k l i = some none
    | some j => i ≤ j ∧ ∃ e, l[j - i]? = some e ∧ Instr.findNow u k l i = some (some (j, e.val)) ∧ Instr.sameNow u k e.key = some true
  | [], l, i, r, h, hf => by
    simp only [concE, Option.some.injEq] at h
    subst h
    simp only [findT, T.get, Option.some.injEq] at hf
    subst hf
    rfl
  | (k0, v0, b0) :: es, l, i, r, h, hf => by
    simp only [concE, Option.bind_eq_some_iff, Option.map_eq_some_iff] at h
    obtain ⟨kv0, hk0, vv0, hv0, rr, hr, rfl⟩ := h
    simp only [findT] at hf
    split at hf
    case h_2 => exact get_none hf
    rename_i y hy
    have := plain_conc hy E
    rw [hk0] at this
    cases this
    split at hf
    case h_2 => exact get_none hf
    rename_i b hb
    cases b with
    | true =>
      simp only [T.get, Option.some.injEq] at hf
      subst hf
      exact ⟨Nat.le_refl _, { key := kv0, val := vv0, born := b0 }, by simp, by simp [Instr.findNow, hb], hb⟩
    | false =>
      simp only [T.get] at hf
      have := findT_ok hr hf
      cases r with
      | none => simp only at this ⊢; simp [Instr.findNow, hb, this]
      | some j =>
        obtain ⟨h1, e, h2, h3, h4⟩ := this
        refine ⟨by omega, e, ?_, by simp [Instr.findNow, hb, h3], h4⟩
        rw [show j - i = (j - (i + 1)) + 1 by omega]
        simpa using h2
theorem bytes_eq {a b : ByteArray} (h : (a == b) = true) : a = b := (MapKept.bytes_beq a b).1 h
theorem beq_self_bytes (a : ByteArray) : (a == a) = true := (MapKept.bytes_beq a a).2 rfl
theorem sameBits_of {u : TypeDesc} {k x : Value} (hs : simpleKey u = true) (h : Instr.sameNow u k x = some true) (n : Nat) : Instr.sameBits n x k = true := by
  cases u <;> simp [simpleKey] at hs <;> cases k <;> cases x <;> simp_all [Instr.sameNow, Instr.sameBits]
  all_goals (rw [bytes_eq h]; exact beq_self_bytes _)
theorem keyOfT_ok {P : Program} {t : TypeId} {u : TypeDesc} {z : Value} (h : keyOfT P t = some (u, z)) : ∃ k e i, P.underlying t = some (.map k e) ∧ P.underlying k = some u ∧ P.info? e = some i ∧ i.zero = some z ∧ simpleKey u = true := by
  unfold keyOfT at h
  split at h
  case h_2 => cases h
  rename_i k e hm
  split at h
  case h_2 => cases h
  rename_i u' hu
  split at h
  case h_2 => cases h
  rename_i z' hz
  cases hb : simpleKey u' with
  | false => rw [hb] at h; cases h
  | true =>
    rw [hb] at h
    cases h
    obtain ⟨i, h1, h2⟩ := Option.bind_eq_some_iff.1 hz
    exact ⟨k, e, i, hm, hu, h1, h2, hb⟩
theorem run_zero {P : Program} {w : World} {e : TypeId} {i : TypeInfo} {z : Value} (hi : P.info? e = some i) (hz : i.zero = some z) : (zeroValue e).run P w = .ok z w := by
  simp [zeroValue, typeInfo, hi, hz]
theorem list_modify {α : Type} {f : α → α} : ∀ {l : List α} {i : Nat} {e : α}, l[i]? = some e → l.modify i f = l.set i (f e)
  | [], i, e, h => by simp at h
  | x :: l, 0, e, h => by simp only [List.getElem?_cons_zero, Option.some.injEq] at h; subst h; rfl
  | x :: l, i + 1, e, h => by
    have := list_modify (f := f) (show l[i]? = some e by simpa using h)
    simp [this]
theorem modify_set {l : List MapEntry} {i : Nat} {e : MapEntry} {f : MapEntry → MapEntry} (h : l[i]? = some e) : l.toArray.modify i f = (l.set i (f e)).toArray := by
  apply Array.toList_inj.1
  rw [Array.toList_modify]
  exact list_modify h
section
variable {C : Cx} {o : Oper} {a : Act} {w W0 : World} {S : Reg} {E : Env} {hp : Nat → Option AB} {fr : Nat} {e : Eff}
theorem makeMap_ok {ty : TypeId} {r : Option Operand} {t : Operand → AV} (G : Gam W0 S E hp w) (ho : o.op = .makeMap ty r) (hr : ∀ y, r = some y → conc E (t y) = some (a.eval y))
    (hfr : ∀ n, fr ≤ n → n < fr + e.nn → E n = none) (h : (effMakeMap C.P ty (r.map t) fr).get = some e) : OpOk C.P o a w W0 S E hp fr e := by
  have key : ∀ (hrun : (execOp a.eval o).run C.P w = .ok (.value (.map (some w.heap.size))) (w.alloc (.map #[] 0))), e = { val := .mapr fr, news := [(fr, some (.mp [] 0))], nn := 1 } → OpOk C.P o a w W0 S E hp fr e := by
    rintro hrun rfl
    obtain ⟨F, R, G⟩ := G
    refine OpOk.post G hrun (by simp [conc, Env.set]) (Post.one (p := { block := w.heap.size }) (F1 := [w.heap.size]) (R1 := []) (hfr fr (Nat.le_refl _) (by simp)) rfl rfl (fun n x h => by simp [lookO] at h) ?_ ⟨rfl, rfl, [], rfl, ?_⟩ (by simp) (fun k hk => ?_) (fun k hk => by simp at hk))
    · exact ⟨rfl, rfl, rfl, by show w.heap.size ≤ (w.heap.push _).size; simp, fun k hk _ => (MapKept.heap_alloc w _).2 k hk⟩
    · exact (MapKept.heap_alloc w _).1
    · simp only [List.mem_singleton] at hk; subst hk; exact .inr (Nat.le_refl _)
  unfold effMakeMap at h
  split at h
  · rename_i k el hm hn
    cases r with
    | some y => simp at hn
    | none => exact key (by simp [execOp, ho, Instr.makeMap, newObj, Sem.run]) (get_one h).symm
  · rename_i k el kd i hm hn
    cases r with
    | none => simp at hn
    | some y =>
      simp only [Option.map_some, Option.some.injEq] at hn
      have := hr y rfl
      rw [hn] at this
      simp only [conc, Option.some.injEq] at this
      exact key (by simp [execOp, ho, Instr.makeMap, newObj, run_underlying hm, ← this, asInt, asIntOf, Sem.run]) (get_one h).symm
  · exact get_no h
/-- A map of one's own, as it lies. -/
theorem map_at (G : Gam W0 S E hp w) {n : Nat} {es : List (AV × AV × Nat)} {c : Nat} (hb : hp n = some (.mp es c)) {av : AV} {V : Value} (hv : conc E av = some V) (hn : av = .mapr n) :
    ∃ F R p l, Gf W0 S E hp w F R ∧ E n = some p ∧ F n = [p.block] ∧ concE E es = some l ∧ w.heap[p.block]? = some (.map l.toArray c) ∧ V = .map (some p.block) := by
  obtain ⟨F, R, G⟩ := G
  obtain ⟨p, hp1, h1, _, l, h2, h3⟩ := G.holds n _ hb
  rw [hn] at hv
  simp only [conc, hp1, Option.map_some, Option.some.injEq] at hv
  exact ⟨F, R, p, l, G, hp1, h1, h2, h3, hv.symm⟩
/-- A map turned. -/
theorem map_turn {F R : Nat → List Nat} (G : Gf W0 S E hp w F R) {n : Nat} {es es' : List (AV × AV × Nat)} {c c' : Nat} {p : Pl} {l l' : List MapEntry} {X : List AV} {ev : AV} (hb : hp n = some (.mp es c)) (hp1 : E n = some p) (hF : F n = [p.block]) (hh : w.heap[p.block]? = some (.map l.toArray c))
    (hl : concE E es' = some l') (he : e = { val := ev, reads := [n], upd := [(n, some (.mp es' c'))] }) : Post E hp w F R fr e E { w with heap := w.heap.setIfInBounds p.block (.map l'.toArray c') } (fun _ => [p.block]) (fun _ => []) := by
  obtain ⟨g1, g2⟩ := MapKept.heap_set (o' := .map l'.toArray c') hh
  exact Post.turn (b' := .mp es' c') hb hp1 (by rw [he]) (by rw [he]) ⟨rfl, rfl, rfl, by simp, fun k hk hnk => g2 k (fun e0 => hnk (by rw [hF, e0]; simp))⟩ ⟨rfl, rfl, l', hl, g1⟩ (fun k hk => by rw [hF]; exact hk) (fun k hk => by simp at hk) (by simp)
theorem tabT_ok {ok : Bool} {n : Nat} {x : Int} {e : Eff} : ∀ {es : List (Int × Nat)}, (tabT ok n x es).get = some e → ∃ y ∈ es, x = y.1 ∧ (foundAt ok (.func (.func y.2) [] []) true [n]).get = some e
  | [], h => get_no h
  | y :: r, h => by
    simp only [tabT, T.get] at h
    by_cases hx : x = y.1
    · rw [decide_eq_true hx] at h
      exact ⟨y, by simp, hx, h⟩
    · rw [decide_eq_false hx] at h
      obtain ⟨z, h1, h2⟩ := tabT_ok h
      exact ⟨z, by simp [h1], h2⟩
theorem oneB_ok {es : List (Int × Nat)} (h : oneB es = true) {x y : Int × Nat} (hx : x ∈ es) (hy : y ∈ es) (hxy : x.1 = y.1) : x.2 = y.2 := by
  have := List.all_eq_true.1 (List.all_eq_true.1 h x hx) y hy
  simpa [hxy] using this
/-- A map of functions, as it lies. -/
theorem tab_at (G : Gam W0 S E hp w) {n : Nat} {q : IntKind} {es : List (Int × Nat)} (hb : hp n = some (.tb q es)) {av : AV} {V : Value} (hv : conc E av = some V) (hn : av = .mapr n) :
    ∃ b, V = .map (some b) ∧ TabAt w b q es := by
  obtain ⟨F, R, G⟩ := G
  obtain ⟨p, hp1, _, _, h2⟩ := G.holds n _ hb
  rw [hn] at hv
  simp only [conc, hp1, Option.map_some, Option.some.injEq] at hv
  exact ⟨p.block, hv.symm, h2⟩
theorem lookup_ok {ty : TypeId} {m k : Operand} {ok : Bool} {t : Operand → AV} (G : Gam W0 S E hp w) (ho : o.op = .lookup ty m k ok) (hm : conc E (t m) = some (a.eval m)) (hk : conc E (t k) = some (a.eval k))
    (h : (effLookup C.P ty (t m) (t k) ok hp).get = some e) : OpOk C.P o a w W0 S E hp fr e := by
  have found : ∀ {v : AV} {b : Bool} {rd : List Nat} {V : Value}, (foundAt ok v b rd).get = some e → conc E v = some V → (∀ w' : World, w' = w → (Instr.lookup ty (a.eval m) (a.eval k) ok).run C.P w' = .ok (if ok then .tuple #[V, .bool b] else V) w') → OpOk C.P o a w W0 S E hp fr e := by
    intro v b rd V he hv hrun
    obtain rfl := get_one he
    refine OpOk.value G (V := if ok then .tuple #[V, .bool b] else V) (by simp [execOp, ho, hrun w rfl]) ?_ rfl rfl
    cases ok with
    | true => simp [conc, concs, hv]
    | false => simpa using hv
  unfold effLookup at h
  split at h
  case h_2 => exact get_no h
  rename_i u z kv hkt hkv
  obtain ⟨kt, el, i, q1, q2, q3, q4, q5⟩ := keyOfT_ok hkt
  have hkv := plain_conc hkv E
  rw [hk] at hkv
  cases hkv
  split at h
  · rename_i hm0
    rw [hm0] at hm
    simp only [conc, Option.some.injEq] at hm
    refine found h rfl fun w' hw' => ?_
    simp [Instr.lookup, ← hm, run_underlying q1, checkKey_simple q2 q5, MapKept.run_findKey q2 (show Instr.findNow u (a.eval k) [] 0 = some none from rfl), run_zero q3 q4]
  · rename_i n hm0
    split at h
    case h_3 => exact get_no h
    case h_2 =>
      rename_i q es hb
      obtain ⟨b, hV, l, c, hh, hl1, hl2⟩ := tab_at G hb hm hm0
      split at h
      case h_2 => exact get_no h
      rename_i q' q'' x hka
      cases hc : (decide (q' = q ∧ q'' = q) && oneB es) with
      | false => rw [hc] at h; exact get_no h
      | true =>
        rw [hc, cond_true] at h
        simp only [Bool.and_eq_true, decide_eq_true_eq] at hc
        obtain ⟨⟨rfl, rfl⟩, hone⟩ := hc
        obtain ⟨y, hy, rfl, hfd⟩ := tabT_ok h
        have hik : ∀ e ∈ l.toList, MapKept.IsKey (.int q'') e.key := by
          intro e he
          obtain ⟨x, _, hx, _⟩ := hl1 e he
          rw [hx]; rfl
        obtain ⟨j, e0, g1, g2, g3⟩ : ∃ j e, Instr.findNow (.int q'') (.int q'' y.1) l.toList 0 = some (some (j, e.val)) ∧ e ∈ l.toList ∧ e.key = .int q'' y.1 := by
          rcases MapKept.findNow_spec (d := .int q'') (k := .int q'' y.1) rfl l.toList 0 hik with ⟨_, h2⟩ | ⟨j, e, h1, h2, h3⟩
          · obtain ⟨e, he, hk⟩ := hl2 y hy
            exact (h2 e he hk).elim
          · exact ⟨0 + j, e, h1, List.mem_of_getElem? h2, h3⟩
        have he : e0.val = Value.func (.func y.2) #[] #[] := by
          obtain ⟨x, hx, hx1, hx2⟩ := hl1 e0 g2
          rw [g3] at hx1
          simp only [Value.int.injEq, true_and] at hx1
          rw [hx2, oneB_ok hone hx hy hx1.symm]
        refine found (V := e0.val) hfd (by rw [he]; simp [conc, concs]) fun w' hw' => ?_
        subst hw'
        simp [Instr.lookup, hV, hka, run_underlying q1, MapKept.run_getObj_map hh, checkKey_simple q2 q5, MapKept.run_findKey q2 g1]
    rename_i es c hb
    obtain ⟨r, hr, h⟩ := T.get_bindO h
    obtain ⟨F, R, p, l, Gx, hp1, hF, hl, hh, hV⟩ := map_at G hb hm hm0
    have hf := findT_ok hl hr
    cases r with
    | none =>
      simp only at h hf
      refine found h rfl fun w' hw' => ?_
      subst hw'
      simp [Instr.lookup, hV, run_underlying q1, MapKept.run_getObj_map hh, checkKey_simple q2 q5, MapKept.run_findKey q2 hf, run_zero q3 q4]
    | some j =>
      simp only at h hf
      obtain ⟨_, e0, g1, g2, _⟩ := hf
      split at h
      case h_2 => exact get_no h
      rename_i x hx
      obtain ⟨e1, k1, k2, k3, k4⟩ := concE_get hl hx
      rw [Nat.sub_zero] at g1
      rw [k1] at g1
      cases g1
      refine found h k3 fun w' hw' => ?_
      subst hw'
      simp [Instr.lookup, hV, run_underlying q1, MapKept.run_getObj_map hh, checkKey_simple q2 q5, MapKept.run_findKey q2 g2]
  · exact get_no h
theorem update_ok {ty : TypeId} {m k x : Operand} {t : Operand → AV} (G : Gam W0 S E hp w) (ho : o.op = .mapUpdate ty m k x ∨ o.op = .insert ty m k x)
    (hm : conc E (t m) = some (a.eval m)) (hk : conc E (t k) = some (a.eval k)) (hx : conc E (t x) = some (a.eval x))
    (h : (effUpdate C.P ty (t m) (t k) (t x) hp).get = some e) : OpOk C.P o a w W0 S E hp fr e := by
  have run_ : ∀ w', (Instr.mapUpdate ty (a.eval m) (a.eval k) (a.eval x)).run C.P w = .ok () w' → (execOp a.eval o).run C.P w = .ok .skip w' := by
    intro w' hr
    rcases ho with ho | ho <;> simp [execOp, ho, hr]
  unfold effUpdate at h
  split at h
  case h_2 => exact get_no h
  rename_i u z kv n hkt hkv hm0
  obtain ⟨kt, el, i, q1, q2, q3, q4, q5⟩ := keyOfT_ok hkt
  have hkv := plain_conc hkv E
  rw [hk] at hkv
  cases hkv
  split at h
  case h_2 => exact get_no h
  rename_i es c hb
  obtain ⟨r, hr, h⟩ := T.get_bindO h
  obtain ⟨F, R, p, l, Gx, hp1, hF, hl, hh, hV⟩ := map_at G hb hm hm0
  have hf := findT_ok hl hr
  cases r with
  | none =>
    simp only at h hf
    obtain rfl := get_one h
    refine OpOk.post' Gx (run_ ({ w with heap := w.heap.setIfInBounds p.block (.map (l ++ [({ key := a.eval k, val := a.eval x, born := c } : MapEntry)]).toArray (c + 1)) } : World) ?_) rfl (map_turn (X := []) Gx hb hp1 hF hh (concE_push (k := .v (a.eval k)) hl rfl hx) rfl)
    simp [Instr.mapUpdate, hV, run_underlying q1, MapKept.run_getObj_map hh, checkKey_simple q2 q5, MapKept.run_findKey q2 hf, MapKept.run_setObj_map _ hh]
  | some j =>
    simp only at h hf
    obtain ⟨_, e0, g1, g2, g3⟩ := hf
    split at h
    case h_2 => exact get_no h
    rename_i y hy
    obtain ⟨e1, k1, k2, k3, k4⟩ := concE_get hl hy
    rw [Nat.sub_zero] at g1
    rw [k1] at g1
    cases g1
    obtain rfl := get_one h
    refine OpOk.post' Gx (run_ ({ w with heap := w.heap.setIfInBounds p.block (.map (l.set j { key := a.eval k, val := a.eval x, born := y.2.2 }).toArray c) } : World) ?_) rfl (map_turn (X := []) Gx hb hp1 hF hh (concE_set (k := .v (a.eval k)) hl rfl hx) rfl)
    have hj : (l[j]?.map (·.key)).getD (a.eval k) = e0.key := by rw [k1]; rfl
    have hmod : l.modify j (fun e => { e with key := a.eval k, val := a.eval x }) = (l.set j { key := a.eval k, val := a.eval x, born := y.2.2 }) := by
      rw [list_modify k1, k4]
    simp [Instr.mapUpdate, Instr.keyThatStays, hV, run_underlying q1, MapKept.run_getObj_map hh, checkKey_simple q2 q5, MapKept.run_findKey q2 g2, MapKept.run_setObj_map _ hh, k1, sameBits_of q5 g3, hmod]
theorem mapEntry_ok {ty : TypeId} {m k : Operand} {t : Operand → AV} (G : Gam W0 S E hp w) (ho : o.op = .mapEntry ty m k) (hm : conc E (t m) = some (a.eval m)) (hk : conc E (t k) = some (a.eval k))
    (h : (effMapEntry C.P ty (t m) (t k) hp).get = some e) : OpOk C.P o a w W0 S E hp fr e := by
  unfold effMapEntry at h
  split at h
  case h_2 => exact get_no h
  rename_i u z kv n hkt hkv hm0
  obtain ⟨kt, el, i, q1, q2, q3, q4, q5⟩ := keyOfT_ok hkt
  have hkv := plain_conc hkv E
  rw [hk] at hkv
  cases hkv
  split at h
  case h_2 => exact get_no h
  rename_i es c hb
  obtain ⟨r, hr, h⟩ := T.get_bindO h
  obtain ⟨F, R, p, l, Gx, hp1, hF, hl, hh, hV⟩ := map_at G hb hm hm0
  have hf := findT_ok hl hr
  cases r with
  | none =>
    simp only at h hf
    obtain rfl := get_one h
    refine OpOk.post Gx (w' := { w with heap := w.heap.setIfInBounds p.block (.map (l ++ [({ key := a.eval k, val := z, born := c } : MapEntry)]).toArray (c + 1)) }) (V := .tuple #[z, goInt c]) ?_ (by simp [conc, concs]) (map_turn (X := []) Gx hb hp1 hF hh (concE_push (k := .v (a.eval k)) (v := .v z) hl rfl rfl) rfl)
    simp [execOp, ho, Instr.mapEntry, hV, run_underlying q1, MapKept.run_getObj_map hh, checkKey_simple q2 q5, MapKept.run_findKey q2 hf, MapKept.run_setObj_map _ hh, run_zero q3 q4]
  | some j =>
    simp only at h hf
    obtain ⟨_, e0, g1, g2, g3⟩ := hf
    split at h
    case h_2 => exact get_no h
    rename_i y hy
    obtain ⟨e1, k1, k2, k3, k4⟩ := concE_get hl hy
    rw [Nat.sub_zero] at g1
    rw [k1] at g1
    cases g1
    obtain rfl := get_one h
    refine OpOk.post Gx (w' := { w with heap := w.heap.setIfInBounds p.block (.map (l.set j { key := a.eval k, val := e0.val, born := y.2.2 }).toArray c) }) (V := .tuple #[e0.val, goInt y.2.2]) ?_ (by simp [conc, concs, k3]) (map_turn (X := []) Gx hb hp1 hF hh (concE_set (k := .v (a.eval k)) hl rfl k3) rfl)
    have hmod : l.modify j (fun e => { e with key := a.eval k }) = (l.set j { key := a.eval k, val := e0.val, born := y.2.2 }) := by
      rw [list_modify k1, k4]
    simp [execOp, ho, Instr.mapEntry, Instr.keyThatStays, hV, run_underlying q1, MapKept.run_getObj_map hh, checkKey_simple q2 q5, MapKept.run_findKey q2 g2, MapKept.run_setObj_map _ hh, k1, k4, sameBits_of q5 g3, hmod]
theorem stampAt_ok {s : Int} : ∀ {es : List (AV × AV × Nat)} {l : List MapEntry} {i j : Nat}, concE E es = some l → stampAt s es i = some j → i ≤ j ∧ (l.findIdx? (fun e => (e.born : Int) == s)) = some (j - i)
  | [], l, i, j, h, hs => by simp [stampAt] at hs
  | (k0, v0, b0) :: es, l, i, j, h, hs => by
    simp only [concE, Option.bind_eq_some_iff, Option.map_eq_some_iff] at h
    obtain ⟨kv0, hk0, vv0, hv0, rr, hr, rfl⟩ := h
    simp only [stampAt] at hs
    cases hb : decide ((b0 : Int) = s) with
    | true =>
      rw [hb] at hs
      cases hs
      have hb : (b0 : Int) = s := by simpa using hb
      exact ⟨Nat.le_refl _, by simp [List.findIdx?_cons, hb]⟩
    | false =>
      rw [hb] at hs
      have hb : ¬ (b0 : Int) = s := by simpa using hb
      obtain ⟨h1, h2⟩ := stampAt_ok hr hs
      refine ⟨by omega, ?_⟩
      have hb2 : ((b0 : Int) == s) = false := by simpa using hb
      rw [List.findIdx?_cons, hb2, h2]
      simp
      omega
theorem entryStore_ok {ty : TypeId} {m s x : Operand} {t : Operand → AV} (G : Gam W0 S E hp w) (ho : o.op = .entryStore ty m s x) (hm : conc E (t m) = some (a.eval m)) (hs : conc E (t s) = some (a.eval s)) (hx : conc E (t x) = some (a.eval x))
    (h : (effEntryStore (t m) (t s) (t x) hp).get = some e) : OpOk C.P o a w W0 S E hp fr e := by
  unfold effEntryStore at h
  split at h
  case h_2 => exact get_no h
  rename_i n kd b hm0 hs0
  split at h
  case h_2 => exact get_no h
  rename_i es c hb
  split at h
  case h_2 => exact get_no h
  rename_i j hj
  split at h
  case h_2 => exact get_no h
  rename_i y hy
  obtain ⟨F, R, p, l, Gx, hp1, hF, hl, hh, hV⟩ := map_at G hb hm hm0
  rw [hs0] at hs
  simp only [conc, Option.some.injEq] at hs
  obtain ⟨e1, k1, k2, k3, k4⟩ := concE_get hl hy
  obtain rfl := get_one h
  obtain ⟨_, hfi⟩ := stampAt_ok (E := E) hl hj
  rw [Nat.sub_zero] at hfi
  refine OpOk.post' Gx (w' := { w with heap := w.heap.setIfInBounds p.block (.map (l.set j { key := e1.key, val := a.eval x, born := y.2.2 }).toArray c) }) ?_ rfl (map_turn (X := []) Gx hb hp1 hF hh (concE_set hl k2 hx) rfl)
  have hmod : l.modify j (fun e => { e with val := a.eval x }) = (l.set j { key := e1.key, val := a.eval x, born := y.2.2 }) := by
    rw [list_modify k1, k4]
  simp [execOp, ho, Instr.entryStore, hV, MapKept.run_getObj_map hh, ← hs, asInt, asIntOf, MapKept.run_setObj_map _ hh, hfi, hmod]
theorem delete_ok {ty : TypeId} {m k : Operand} {as : Array Operand} {ts : Array TypeId} {tr : List TypeId} {t : Operand → AV} (G : Gam W0 S E hp w) (ho : o.op = .call ⟨.builtin .delete, as, ts⟩) (has : as = #[m, k]) (hts : ts = (ty :: tr).toArray)
    (hm : conc E (t m) = some (a.eval m)) (hk : conc E (t k) = some (a.eval k)) (h : (effDelete C.P ty (t m) (t k) hp).get = some e) : OpOk C.P o a w W0 S E hp fr e := by
  subst has hts
  unfold effDelete at h
  split at h
  case h_2 => exact get_no h
  rename_i u z kv n hkt hkv hm0
  obtain ⟨kt, el, i, q1, q2, q3, q4, q5⟩ := keyOfT_ok hkt
  have hkv := plain_conc hkv E
  rw [hk] at hkv
  cases hkv
  split at h
  case h_2 => exact get_no h
  rename_i es c hb
  obtain ⟨r, hr, h⟩ := T.get_bindO h
  obtain ⟨F, R, p, l, Gx, hp1, hF, hl, hh, hV⟩ := map_at G hb hm hm0
  have hf := findT_ok hl hr
  cases r with
  | none =>
    simp only at h hf
    obtain rfl := get_one h
    refine OpOk.post Gx (w' := { w with heap := w.heap.setIfInBounds p.block (.map l.toArray c) }) (V := .tuple #[]) ?_ (by simp [conc]) (map_turn (X := []) Gx hb hp1 hF hh hl rfl)
    simp [execOp, ho, resolve, invoke, builtin, Builtin.delete_, hV, run_underlying q1, MapKept.run_getObj_map hh, checkKey_simple q2 q5, MapKept.run_findKey q2 hf, MapKept.run_setObj_map _ hh]
  | some j =>
    simp only at h hf
    obtain ⟨_, e0, g1, g2, g3⟩ := hf
    obtain rfl := get_one h
    refine OpOk.post Gx (w' := { w with heap := w.heap.setIfInBounds p.block (.map (l.eraseIdx j).toArray c) }) (V := .tuple #[]) ?_ (by simp [conc]) (map_turn (X := []) Gx hb hp1 hF hh (concE_erase hl) rfl)
    have her : l.toArray.eraseIdxIfInBounds j = (l.eraseIdx j).toArray := by
      apply Array.toList_inj.1
      simp
    simp [execOp, ho, resolve, invoke, builtin, Builtin.delete_, hV, run_underlying q1, MapKept.run_getObj_map hh, checkKey_simple q2 q5, MapKept.run_findKey q2 g2, MapKept.run_setObj_map _ hh, her]
end
/-! ### Rows overwritten -/
/-- Cells stored into a row of one's own. -/
theorem cells_put {P : Program} {w W0 : World} {S : Reg} {E : Env} {hp : Nat → Option AB} {F R : Nat → List Nat} {n r of : Nat} {pn : Pl} {z z' : M} {us : List Value} (G : Gf W0 S E hp w F R) (hpn : E n = some pn) (hb : hp n = some (.own z)) (hones : ∀ u ∈ us, u.oneCell' = true)
    (hz : ∀ vs F0 R0, z.reads E w false vs F0 R0 → vs.length = z.len * z.size → z'.e = z.e ∧ z'.size = z.size ∧ z'.len = z.len ∧ (∀ E' p, z.links E' p → z'.links E' p) ∧ (us = [] ∨ r * z.size + of + us.length ≤ vs.length) ∧ z'.reads E w false (vs.take (r * z.size + of) ++ us ++ vs.drop (r * z.size + of + us.length)) F0 R0) :
    ∃ w' F1 R1, (us ≠ [] → pn.nil = false) ∧ (storeCells (pn.addr r of) us 0).run P w = .ok () w' ∧ (us = [] → w' = w) ∧ ∀ lo (e : Eff), e.upd = [(n, some (.own z'))] → e.news = [] → Post E hp w F R lo e E w' (fun _ => F1) (fun _ => R1) := by
  obtain ⟨p, hp1, hh⟩ := G.holds n _ hb
  have hnd := G.nodup n _ hb
  obtain ⟨hlk, vs, F0, R0, hr, hbox⟩ := hh
  obtain ⟨c1, c2, c3, c4, c5⟩ := boxH_cells hbox
  rw [hpn] at hp1
  cases hp1
  obtain ⟨m1, m2, m3, m4, m5, m6⟩ := hz vs F0 R0 hr c3
  obtain ⟨hrow, hF, hR⟩ := hbox
  have kept_ : ∀ {w' : World} {vs' : List Value}, Fr (fun i => i = pn.block) w w' → pn.nil = false → z'.reads E w false vs' F0 R0 → z'.reads E w' false vs' F0 R0 := by
    intro w' vs' q3 hnil h
    have lt := M.reads_lt h
    refine M.reads_kept E.le_refl h (fun k hk => q3.block k (lt.1 k hk) ?_) (fun k hk => q3.block k (lt.2 k hk) ?_)
    · intro e0
      rw [hF, List.nodup_append] at hnd
      exact hnd.2.2 k (by rw [e0]; simp [blkO, hnil]) k hk rfl
    · intro e0
      have hkF : k ∈ F n := by rw [hF, e0]; simp [blkO, hnil]
      have hkR : k ∈ R n := by rw [hR]; exact hk
      rcases G.feet n _ k hb hkF with h5 | h5
      · exact (G.old n _ k hb hkR).2 h5
      · have := (G.old n _ k hb hkR).1; omega
  by_cases hz0 : us = []
  · subst hz0
    have e1 : vs.take (r * z.size + of) ++ ([] : List Value) ++ vs.drop (r * z.size + of + 0) = vs := by simp
    simp only [List.length_nil] at m6
    rw [e1] at m6
    exact ⟨w, _, _, fun h => (h rfl).elim, by simp [storeCells], fun _ => rfl, fun lo e hu hn => Post.turn hb hpn hu hn ⟨rfl, rfl, rfl, Nat.le_refl _, fun _ _ _ => rfl⟩ ⟨m4 _ _ hlk, vs, F0, R0, m6, by rw [m1, m2, m3]; exact ⟨hrow, hF, hR⟩⟩ (fun k hk => hk) (fun k hk => hk) hnd⟩
  · have hle : r * z.size + of + us.length ≤ vs.length := m5.resolve_left hz0
    have hnil : pn.nil = false := by
      cases hn : pn.nil with
      | false => rfl
      | true =>
        have := c4 hn
        rw [this, Nat.zero_mul] at c3
        have : 0 < us.length := List.length_pos_iff.2 hz0
        omega
    obtain ⟨w', q1, q2, q3⟩ := store_row (P := P) (off := r * z.size + of) hrow hnil (by rw [← c3]; exact hle) hones
    have haddr : pn.addr r of = ⟨pn.block, pn.base + (r * z.size + of), none⟩ := by simp [Pl.addr, c1, Nat.add_assoc]
    exact ⟨w', _, _, fun _ => hnil, by rw [haddr]; exact q1, fun h => (hz0 h).elim, fun lo e hu hn => Post.turn hb hpn hu hn (q3.mono (fun k hk => by rw [hF, hk]; simp [blkO, hnil])) ⟨m4 _ _ hlk, _, F0, R0, kept_ q3 hnil m6, by rw [m1, m2, m3]; exact ⟨q2, hF, hR⟩⟩ (fun k hk => hk) (fun k hk => hk) hnd⟩
theorem over_ok {E : Env} {hp : Nat → Option AB} {w : World} {F R : Nat → List Nat} (G : Gc E hp w F R) {y z y' : M} {r o : Nat} {us : List Value} {Fz Rz : List Nat} (hz : z.reads E w false us Fz Rz) (h : (y.over hp r o z).get = some y') :
    (∀ u ∈ us, u.oneCell' = true) ∧ ∀ vs F0 R0, y.reads E w false vs F0 R0 → vs.length = y.len * y.size → y'.e = y.e ∧ y'.size = y.size ∧ y'.len = y.len ∧ (∀ E' p, y.links E' p → y'.links E' p) ∧ (us = [] ∨ r * y.size + o + us.length ≤ vs.length) ∧ y'.reads E w false (vs.take (r * y.size + o) ++ us ++ vs.drop (r * y.size + o + us.length)) F0 R0 := by
  unfold M.over at h
  split at h
  · rename_i e s cs e' s' ds
    cases ha : allOne ds with
    | false => rw [ha] at h; exact get_none h
    | true =>
      rw [ha] at h
      obtain ⟨hc, rfl, rfl⟩ := hz
      exact ⟨ones_conc hc ha, fun vs F0 R0 hy hvl => M.put_ok hy hc hvl h⟩
  · rename_i e sh l
    cases hb : (sh.flat && sh.mem && Nat.beq o 0 && z.canMove) with
    | false => rw [hb] at h; exact get_none h
    | true =>
      rw [hb] at h
      simp only [cond_true] at h
      simp only [Bool.and_eq_true] at hb
      obtain ⟨⟨⟨hfl, hmem⟩, ho⟩, hmv⟩ := hb
      have ho := Nat.eq_of_beq_eq_true ho
      subst ho
      obtain ⟨p, hp1, h⟩ := T.get_bindO h
      obtain ⟨hd, h⟩ := T.get_when h
      have hd : r + p.1.length ≤ l.length := by simpa using hd
      simp only [T.get, Option.some.injEq] at h
      subst h
      obtain ⟨j1, j2⟩ := gat_ok G false sh
      obtain ⟨a1, a2, _, Fp, Rp, gp⟩ := gatM_ok G (.inl rfl) j1 j2 hz hp1
      have hdata := gp.data
      obtain ⟨rfl, rfl, _⟩ := rowsH_flat hfl hdata
      refine ⟨rowsH_ones (fun d ys F R h => hold_ones false sh d ys F R hmem h) hdata, fun vs F0 R0 hy hvl => ?_⟩
      have hus := rowsH_length (s := sh.size) (fun d ys F R h => hold_length false sh d ys F R h) hdata
      have hy : rowsH (hold w false sh) l vs F0 R0 := hy
      obtain ⟨rfl, rfl, _⟩ := rowsH_flat hfl hy
      have hvl : vs.length = l.length * sh.size := hvl
      have hle : (r + p.1.length) * sh.size ≤ l.length * sh.size := Nat.mul_le_mul_right _ hd
      rw [Nat.add_mul] at hle
      refine ⟨rfl, rfl, by simp [M.len]; omega, fun _ _ _ => trivial, .inr ?_, ?_⟩
      · simp only [M.size]; omega
      · show rowsH _ (l.take r ++ p.1 ++ l.drop (r + p.1.length)) _ _ _
        have hl : l = l.take r ++ ((l.drop r).take p.1.length ++ l.drop (r + p.1.length)) := by
          rw [← List.drop_drop, List.take_append_drop, List.take_append_drop]
        rw [hl] at hy
        obtain ⟨v1, v23, F1, F2, R1, R2, rfl, hF, hR, g1, g2⟩ := rowsH_append.1 hy
        obtain ⟨v2, v3, F3, F4, R3, R4, rfl, hF', hR', g3, g4⟩ := rowsH_append.1 g2
        have l1 := rowsH_length (s := sh.size) (fun d ys F R h => hold_length false sh d ys F R h) g1
        have l3 := rowsH_length (s := sh.size) (fun d ys F R h => hold_length false sh d ys F R h) g3
        rw [List.length_take, Nat.min_eq_left (by omega)] at l1
        rw [List.length_take, List.length_drop, Nat.min_eq_left (by omega)] at l3
        obtain ⟨rfl, rfl, _⟩ := rowsH_flat hfl g1
        obtain ⟨rfl, rfl, _⟩ := rowsH_flat hfl g4
        have e1 : (v1 ++ (v2 ++ v3)).take (r * sh.size + 0) = v1 := by rw [Nat.add_zero, ← l1, List.take_left]
        have e2 : (v1 ++ (v2 ++ v3)).drop (r * sh.size + 0 + us.length) = v3 := by
          rw [Nat.add_zero, ← l1, List.drop_length_add_append, hus, ← l3, List.drop_left]
        simp only [M.size]
        rw [e1, e2]
        exact rowsH_append.2 ⟨v1 ++ us, v3, [], [], [], [], rfl, rfl, rfl, rowsH_append.2 ⟨v1, us, [], [], [], [], rfl, rfl, rfl, g1, hdata⟩, g4⟩
  · exact get_none h
theorem zerosM_ok {E : Env} {w : World} {y zs : M} {ie : TypeInfo} {z : Value} {n : Nat} (hzs : z.cells.size = ie.size) (h : zerosM y ie z n = some zs) : zs.reads E w false ((Array.range (n * z.cells.size)).map (z.cells[· % z.cells.size]!)).toList [] [] := by
  unfold zerosM at h
  split at h
  · rename_i e sh l
    unfold madeRows at h
    cases hc : (sh.flat && Nat.beq sh.size ie.size && sh.mem) with
    | false => rw [hc] at h; cases h
    | true =>
      rw [hc] at h
      simp only [cond_true] at h
      split at h
      case h_2 => cases h
      rename_i d hdec
      simp only [Option.some.injEq] at h
      subst h
      have h0 := decF_ok (w := w) (lx := false) (E := E) sh _ d _ hdec (concs_plain z.cells.toList)
      show rowsH _ (List.replicate n d) _ _ _
      rw [Array.toList_map, Array.toList_range]
      exact rowsH_replicate h0 n
  · cases h
    rw [← hzs]
    exact ⟨zerosOf_conc _ _, rfl, rfl⟩
  · cases h
section
variable {C : Cx} {o : Oper} {a : Act} {w W0 : World} {S : Reg} {E : Env} {hp : Nat → Option AB} {fr : Nat} {e : Eff}
theorem clear_ok {ty : TypeId} {x : Operand} {as : Array Operand} {ts : Array TypeId} {t : Operand → AV} (G : Gam W0 S E hp w) (ho : o.op = .call ⟨.builtin .clear, as, ts⟩) (has : as = #[x]) (hts : ts = #[ty])
    (hx : conc E (t x) = some (a.eval x)) (h : (effClear C.P ty (t x) hp).get = some e) : OpOk C.P o a w W0 S E hp fr e := by
  subst has hts
  unfold effClear at h
  split at h
  · rename_i el a0 c0 hu htx
    rw [htx] at hx
    simp only [conc, Option.some.injEq] at hx
    obtain rfl := get_one h
    refine OpOk.value G (V := .tuple #[]) ?_ rfl rfl rfl
    cases a0 <;> simp [execOp, ho, resolve, invoke, builtin, Builtin.clear_, ← hx, run_underlying hu]
  · rename_i el n r0 r hu htx
    rw [htx] at hx
    simp only [conc, Option.map_eq_some_iff] at hx
    obtain ⟨p, _, hx⟩ := hx
    generalize (if p.cap = r then p.ptr r0 0 else p.ptr r 0) = a0 at hx
    obtain rfl := get_one h
    refine OpOk.value G (V := .tuple #[]) ?_ rfl rfl rfl
    cases a0 <;> simp [execOp, ho, resolve, invoke, builtin, Builtin.clear_, ← hx, run_underlying hu]
  · rename_i el n r of len c hu htx
    rw [htx] at hx
    split at h
    case h_2 => exact get_no h
    rename_i ie hie
    split at h
    case h_2 => exact get_no h
    rename_i z hz
    cases hb : (Nat.blt 0 ie.size && Nat.beq z.cells.size ie.size) with
    | false => rw [hb] at h; exact get_no h
    | true =>
      rw [hb] at h
      simp only [cond_true] at h
      simp only [Bool.and_eq_true] at hb
      have hpos : 0 < ie.size := by simpa using hb.1
      have hzs := Nat.eq_of_beq_eq_true hb.2
      split at h
      case h_2 => exact get_no h
      rename_i y hy
      split at h
      case h_2 => exact get_no h
      rename_i zs hzz
      obtain ⟨y', hov, rfl⟩ := T.get_mapO h
      obtain ⟨F, R, Gx⟩ := G
      obtain ⟨p, hp1, _⟩ := Gx.holds n _ hy
      simp only [conc, hp1, Option.map_some, Option.some.injEq] at hx
      obtain ⟨h1, h2⟩ := over_ok Gx.toGc (zerosM_ok (E := E) (w := w) hzs hzz) hov
      obtain ⟨w', F1, R1, q0, q1, q2, q3⟩ := cells_put (P := C.P) Gx hp1 hy h1 h2
      refine OpOk.post Gx (V := .tuple #[]) ?_ (by simp [conc]) (q3 fr _ rfl rfl)
      by_cases hlen : len = 0
      · have hw := q2 (by rw [hlen]; simp)
        subst hw
        rw [hlen] at hx
        cases hA : p.ptr r of <;> simp [execOp, ho, resolve, invoke, builtin, Builtin.clear_, ← hx, hA, run_underlying hu]
      · have hne : ((Array.range (len * z.cells.size)).map (z.cells[· % z.cells.size]!)).toList ≠ [] := by
          intro h0
          have := congrArg List.length h0
          simp only [Array.toList_map, Array.toList_range, List.length_map, List.length_range, List.length_nil] at this
          rw [hzs] at this
          have := Nat.mul_pos (Nat.pos_of_ne_zero hlen) hpos
          omega
        have hptr : p.ptr r of = some (p.addr r of) := by simp [Pl.ptr, q0 hne]
        have hzc : Builtin.zeroCells z.cells len = (Array.range (len * z.cells.size)).map (z.cells[· % z.cells.size]!) := rfl
        rw [hptr] at hx
        rw [Array.toList_map, Array.toList_range] at q1
        simp only [execOp, ho, resolve, invoke, builtin, Builtin.clear_]
        simp [← hx, run_underlying hu, run_zero hie hz, hzc, q1, hlen]
  · exact get_no h
theorem firstCells_any {size k : Nat} {A : Option Addr} {l l' c c' : Nat} : Builtin.firstCells size k (.slice A l c) = Builtin.firstCells size k (.slice A l' c') := by cases A <;> rfl
theorem copy_ok {ty : TypeId} {tr : List TypeId} {d x : Operand} {as : Array Operand} {ts : Array TypeId} {t : Operand → AV} (G : Gam W0 S E hp w) (ho : o.op = .call ⟨.builtin .copy, as, ts⟩) (has : as = #[d, x]) (hts : ts = (ty :: tr).toArray)
    (hd : conc E (t d) = some (a.eval d)) (hx : conc E (t x) = some (a.eval x)) (h : (effCopy C.P ty (t d) (t x) hp).get = some e) : OpOk C.P o a w W0 S E hp fr e := by
  subst has hts
  unfold effCopy at h
  split at h
  case h_2 => exact get_no h
  rename_i el n r of len c hu htd
  rw [htd] at hd
  split at h
  case h_2 => exact get_no h
  rename_i ie hie
  cases hb : Nat.blt 0 ie.size with
  | false => rw [hb] at h; exact get_no h
  | true =>
  rw [hb] at h
  simp only [cond_true] at h
  have hpos : 0 < ie.size := by simpa using hb
  split at h
  case h_2 => exact get_no h
  rename_i y hy
  obtain ⟨F, R, Gx⟩ := id G
  obtain ⟨p, hp1, _⟩ := Gx.holds n _ hy
  simp only [conc, hp1, Option.map_some, Option.some.injEq] at hd
  -- so many rows are copied
  have go : ∀ {k sl : Nat} {z : M} {ns : List Nat} {us : List Value} {Fz Rz : List Nat} {y' : M}, (Builtin.lenOf (a.eval x)).run C.P w = .ok sl w → Nat.min sl len = k → z.reads E w false us Fz Rz → us.length = k * ie.size → (Builtin.firstCells ie.size k (a.eval x)).run C.P w = .ok us.toArray w →
      (y.over hp r of z).get = some y' → e = { val := .v (goInt k), reads := n :: ns, upd := [(n, some (.own y'))] } → OpOk C.P o a w W0 S E hp fr e := by
    intro k sl z ns us Fz Rz y' hlo hk hz hul hfirst hov he
    subst he
    obtain ⟨h1, h2⟩ := over_ok Gx.toGc hz hov
    obtain ⟨w', F1, R1, q0, q1, q2, q3⟩ := cells_put (P := C.P) Gx hp1 hy h1 h2
    refine OpOk.post Gx (V := goInt k) ?_ (by simp [conc]) (q3 fr _ rfl rfl)
    have hrun : (Builtin.copy_ (ty :: tr).toArray o.type #[a.eval d, a.eval x]).run C.P w = .ok (goInt k) w' := by
      by_cases hne : us = []
      · have hw := q2 hne
        subst hw
        subst hne
        cases hA : p.ptr r of with
        | none =>
          rw [hA] at hd
          simp [Builtin.copy_, ← hd, run_underlying hu, hlo, hk, run_sizeOf hie, hfirst]
        | some A =>
          rw [hA] at hd
          simp [Builtin.copy_, ← hd, run_underlying hu, hlo, hk, run_sizeOf hie, hfirst, storeCells]
      · have hptr : p.ptr r of = some (p.addr r of) := by simp [Pl.ptr, q0 hne]
        rw [hptr] at hd
        simp [Builtin.copy_, ← hd, run_underlying hu, hlo, hk, run_sizeOf hie, hfirst, q1]
    simp only [execOp, ho, resolve, invoke, builtin]
    simp [hrun]
  split at h
  · rename_i n' r' o' len' c' htx
    rw [htx] at hx
    obtain ⟨⟨z, ns, sp⟩, hro, h⟩ := T.get_bindO h
    simp only at h
    split at h
    case h_2 => exact get_no h
    obtain ⟨y', hov, he⟩ := T.get_mapO h
    obtain ⟨q, hq, hx⟩ : ∃ q, E n' = some q ∧ (Value.slice (q.ptr r' o') len' (c'.getD (q.cap - r'))) = a.eval x := by
      simp only [conc, Option.map_eq_some_iff] at hx; exact hx
    have hx2 : conc E (.sl n' r' o' (Nat.min len' len) c') = some (.slice (q.ptr r' o') (Nat.min len' len) (c'.getD (q.cap - r'))) := by simp [conc, hq]
    obtain ⟨us, Fy, Ry, hk⟩ := rows_ok (P := C.P) hpos hx2 Gx hro
    have hzl : z.len = Nat.min len' len := by
      have := hk.lenOf w
      simpa [Builtin.lenOf] using this.symm
    refine go (sl := len') (k := Nat.min len' len) (by rw [← hx]; rfl) rfl hk.reads (by rw [← hzl]; exact hk.hlen) ?_ hov he.symm
    rw [← hx, ← hzl, firstCells_any (l' := Nat.min len' len) (c' := c'.getD (q.cap - r'))]
    exact hk.first w rfl
  · rename_i A len' c' htx
    rw [htx] at hx
    simp only [conc, Option.some.injEq] at hx
    obtain ⟨⟨z, ns, sp⟩, hro, h⟩ := T.get_bindO h
    simp only at h
    split at h
    case h_2 => exact get_no h
    obtain ⟨y', hov, he⟩ := T.get_mapO h
    obtain ⟨us, Fy, Ry, hk⟩ := rows_ok (P := C.P) (E := E) hpos (show conc E (.v (.slice A (Nat.min len' len) c')) = some (.slice A (Nat.min len' len) c') from rfl) Gx hro
    have hzl : z.len = Nat.min len' len := by
      have := hk.lenOf w
      simpa [Builtin.lenOf] using this.symm
    refine go (sl := len') (k := Nat.min len' len) (by rw [← hx]; rfl) rfl hk.reads (by rw [← hzl]; exact hk.hlen) ?_ hov he.symm
    rw [← hx, ← hzl, firstCells_any (l' := Nat.min len' len) (c' := c')]
    exact hk.first w rfl
  · rename_i n' r0 r1 htx
    rw [htx] at hx
    obtain rfl := get_one h
    simp only [conc, Option.map_eq_some_iff] at hx
    obtain ⟨q, _, hx⟩ := hx
    generalize (if q.cap = r1 then q.ptr r0 0 else q.ptr r1 0) = A at hx
    refine OpOk.value G (V := goInt 0) ?_ rfl rfl rfl
    have hrun : (Builtin.copy_ (ty :: tr).toArray o.type #[a.eval d, a.eval x]).run C.P w = .ok (goInt 0) w := by
      cases A <;> cases hA : p.ptr r of <;> rw [hA] at hd <;> simp [Builtin.copy_, ← hd, ← hx, run_underlying hu, run_sizeOf hie, Builtin.lenOf, Builtin.firstCells, loadCells, loadCellsFrom, storeCells]
    simp only [execOp, ho, resolve, invoke, builtin]
    simp [hrun]
  · rename_i b htx
    rw [htx] at hx
    simp only [conc, Option.some.injEq] at hx
    obtain ⟨hle, h⟩ := T.get_when h
    have hle : b.size ≤ len := by simpa using hle
    obtain ⟨⟨z, ns, sp⟩, hro, h⟩ := T.get_bindO h
    simp only at h
    split at h
    case h_2 => exact get_no h
    obtain ⟨y', hov, he⟩ := T.get_mapO h
    obtain ⟨us, Fy, Ry, hk⟩ := rows_ok (P := C.P) (E := E) hpos (show conc E (.v (.string b)) = some (.string b) from rfl) Gx hro
    have hzl : z.len = b.size := by
      have := hk.lenOf w
      simpa [Builtin.lenOf] using this.symm
    refine go (sl := b.size) (k := b.size) (by rw [← hx]; rfl) (Nat.min_eq_left hle) hk.reads (by rw [← hzl]; exact hk.hlen) ?_ hov he.symm
    rw [← hx, ← hzl]
    exact hk.first w rfl
  · exact get_no h
end
end Go.Proofs.YtnmgbheaabdhlaaDoor.Sx
