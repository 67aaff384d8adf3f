/- The engine, part X: soundness of the effects: maps. -/
import Derived.Test.YtpfbpcaehmhefaaDoorBZ8
import Derived.MapKept
namespace Go.Proofs.YtpfbpcaehmhefaaDoorB.Sx
open Go.RowKit
set_option linter.unusedSimpArgs false
set_option linter.unusedVariables false

theorem checkKey_simple {P : Program} {w : World} {kt : TypeId} {u : TypeDesc} {k : Value} (hd : P.underlying kt = some u) (hs : simpleKey u = true) (e : Bool) (n : Nat) : (Instr.checkKey e (n + 1) kt k).run P w = .ok () w := by
  unfold Instr.checkKey
  simp only [Sem.run_bind, run_underlying hd, Result.andThen]
  cases u <;> simp_all [simpleKey] <;> rfl
theorem concE_get {E : Env} : ∀ {es : List (AV × AV × Nat)} {l : List MapEntry} {i : Nat} {x : AV × AV × Nat}, concE E es = some l → es[i]? = some x → ∃ e, l[i]? = some e ∧ conc E x.1 = some e.key ∧ conc E x.2.1 = some e.val ∧ e.born = x.2.2
  | [], _, _, _, _, h => by simp at h
  | (k, v, b) :: es, l, i, x, h, hx => by
    simp only [concE, Option.bind_eq_some_iff, Option.map_eq_some_iff] at h
    obtain ⟨kv, hk, vv, hv, r, hr, rfl⟩ := h
    cases i with
    | zero =>
      simp only [List.getElem?_cons_zero, Option.some.injEq] at hx
      subst hx
      exact ⟨_, rfl, hk, hv, rfl⟩
    | succ i => simpa using concE_get hr (by simpa using hx)
theorem concE_length {E : Env} : ∀ {es : List (AV × AV × Nat)} {l : List MapEntry}, concE E es = some l → l.length = es.length
  | [], l, h => by simp only [concE, Option.some.injEq] at h; subst h; rfl
  | (k, v, b) :: es, l, h => by
    simp only [concE, Option.bind_eq_some_iff, Option.map_eq_some_iff] at h
    obtain ⟨kv, hk, vv, hv, r, hr, rfl⟩ := h
    simp [concE_length hr]
theorem concE_set {E : Env} : ∀ {es : List (AV × AV × Nat)} {l : List MapEntry} {i : Nat} {k v : AV} {kv vv : Value} {b : Nat}, concE E es = some l → conc E k = some kv → conc E v = some vv → concE E (es.set i (k, v, b)) = some (l.set i { key := kv, val := vv, born := b })
  | [], l, i, k, v, kv, vv, b, h, hk, hv => by simp only [concE, Option.some.injEq] at h; subst h; simp [concE]
  | (k0, v0, b0) :: es, l, i, k, v, kv, vv, b, h, hk, hv => by
    simp only [concE, Option.bind_eq_some_iff, Option.map_eq_some_iff] at h
    obtain ⟨kv0, hk0, vv0, hv0, r, hr, rfl⟩ := h
    cases i with
    | zero => simp [concE, hk, hv, hr]
    | succ i => simp [concE, hk0, hv0, concE_set hr hk hv]
theorem concE_push {E : Env} : ∀ {es : List (AV × AV × Nat)} {l : List MapEntry} {k v : AV} {kv vv : Value} {b : Nat}, concE E es = some l → conc E k = some kv → conc E v = some vv → concE E (es ++ [(k, v, b)]) = some (l ++ [{ key := kv, val := vv, born := b }])
  | [], l, k, v, kv, vv, b, h, hk, hv => by simp only [concE, Option.some.injEq] at h; subst h; simp [concE, hk, hv]
  | (k0, v0, b0) :: es, l, k, v, kv, vv, b, h, hk, hv => by
    simp only [concE, Option.bind_eq_some_iff, Option.map_eq_some_iff] at h
    obtain ⟨kv0, hk0, vv0, hv0, r, hr, rfl⟩ := h
    simp [concE, hk0, hv0, concE_push hr hk hv]
theorem concE_erase {E : Env} : ∀ {es : List (AV × AV × Nat)} {l : List MapEntry} {i : Nat}, concE E es = some l → concE E (es.eraseIdx i) = some (l.eraseIdx i)
  | [], l, i, h => by simp only [concE, Option.some.injEq] at h; subst h; simp [concE]
  | (k0, v0, b0) :: es, l, i, h => by
    simp only [concE, Option.bind_eq_some_iff, Option.map_eq_some_iff] at h
    obtain ⟨kv0, hk0, vv0, hv0, r, hr, rfl⟩ := h
    cases i with
    | zero => simpa using hr
    | succ i => simp [concE, hk0, hv0, concE_erase hr]
theorem findT_ok {E : Env} {u : TypeDesc} {k : Value} : ∀ {es : List (AV × AV × Nat)} {l : List MapEntry} {i : Nat} {r : Option Nat}, concE E es = some l → (findT u k es i).get = some r →
    match r with
    | none => Instr.findNow u k l i = some none
    | some j => i ≤ j ∧ ∃ e, l[j - i]? = some e ∧ Instr.findNow u k l i = some (some (j, e.val)) ∧ Instr.sameNow u k e.key = some true
  | [], l, i, r, h, hf => by
    simp only [concE, Option.some.injEq] at h
    subst h
    simp only [findT, T.get, Option.some.injEq] at hf
    subst hf
    rfl
  | (k0, v0, b0) :: es, l, i, r, h, hf => by
    simp only [concE, Option.bind_eq_some_iff, Option.map_eq_some_iff] at h
    obtain ⟨kv0, hk0, vv0, hv0, rr, hr, rfl⟩ := h
    simp only [findT] at hf
    split at hf
    case h_2 => exact get_none hf
    rename_i y hy
    have := plain_conc hy E
    rw [hk0] at this
    cases this
    split at hf
    case h_2 => exact get_none hf
    rename_i b hb
    cases b with
    | true =>
      simp only [T.get, Option.some.injEq] at hf
      subst hf
      exact ⟨Nat.le_refl _, { key := kv0, val := vv0, born := b0 }, by simp, by simp [Instr.findNow, hb], hb⟩
    | false =>
      simp only [T.get] at hf
      have := findT_ok hr hf
      cases r with
      | none => simp only at this ⊢; simp [Instr.findNow, hb, this]
      | some j =>
        obtain ⟨h1, e, h2, h3, h4⟩ := this
        refine ⟨by omega, e, ?_, by simp [Instr.findNow, hb, h3], h4⟩
        rw [show j - i = (j - (i + 1)) + 1 by omega]
        simpa using h2
theorem bytes_eq {a b : ByteArray} (h : (a == b) = true) : a = b := (MapKept.bytes_beq a b).1 h
theorem beq_self_bytes (a : ByteArray) : (a == a) = true := (MapKept.bytes_beq a a).2 rfl
theorem sameBits_of {u : TypeDesc} {k x : Value} (hs : simpleKey u = true) (h : Instr.sameNow u k x = some true) (n : Nat) : Instr.sameBits n x k = true := by
  cases u <;> simp [simpleKey] at hs <;> cases k <;> cases x <;> simp_all [Instr.sameNow, Instr.sameBits]
  all_goals (rw [bytes_eq h]; exact beq_self_bytes _)
theorem keyOfT_ok {P : Program} {t : TypeId} {u : TypeDesc} {z : Value} (h : keyOfT P t = some (u, z)) : ∃ k e i, P.underlying t = some (.map k e) ∧ P.underlying k = some u ∧ P.info? e = some i ∧ i.zero = some z ∧ simpleKey u = true := by
  unfold keyOfT at h
  split at h
  case h_2 => cases h
  rename_i k e hm
  split at h
  case h_2 => cases h
  rename_i u' hu
  split at h
  case h_2 => cases h
  rename_i z' hz
  cases hb : simpleKey u' with
  | false => rw [hb] at h; cases h
  | true =>
    rw [hb] at h
    cases h
    obtain ⟨i, h1, h2⟩ := Option.bind_eq_some_iff.1 hz
    exact ⟨k, e, i, hm, hu, h1, h2, hb⟩
theorem run_zero {P : Program} {w : World} {e : TypeId} {i : TypeInfo} {z : Value} (hi : P.info? e = some i) (hz : i.zero = some z) : (zeroValue e).run P w = .ok z w := by
  simp [zeroValue, typeInfo, hi, hz]
theorem list_modify {α : Type} {f : α → α} : ∀ {l : List α} {i : Nat} {e : α}, l[i]? = some e → l.modify i f = l.set i (f e)
  | [], i, e, h => by simp at h
  | x :: l, 0, e, h => by simp only [List.getElem?_cons_zero, Option.some.injEq] at h; subst h; rfl
  | x :: l, i + 1, e, h => by
    have := list_modify (f := f) (show l[i]? = some e by simpa using h)
    simp [this]
theorem modify_set {l : List MapEntry} {i : Nat} {e : MapEntry} {f : MapEntry → MapEntry} (h : l[i]? = some e) : l.toArray.modify i f = (l.set i (f e)).toArray := by
  apply Array.toList_inj.1
  rw [Array.toList_modify]
  exact list_modify h
section
variable {C : Cx} {o : Oper} {a : Act} {w W0 : World} {S : Reg} {E : Env} {hp : Nat → Option AB} {fr : Nat} {e : Eff}
theorem makeMap_ok {ty : TypeId} {r : Option Operand} {t : Operand → AV} (G : Gam W0 S E hp w) (ho : o.op = .makeMap ty r) (hr : ∀ y, r = some y → conc E (t y) = some (a.eval y))
    (hfr : ∀ n, fr ≤ n → n < fr + e.nn → E n = none) (h : (effMakeMap C.P ty (r.map t) fr).get = some e) : OpOk C.P o a w W0 S E hp fr e := by
  have key : ∀ (hrun : (execOp a.eval o).run C.P w = .ok (.value (.map (some w.heap.size))) (w.alloc (.map #[] 0))), e = { val := .mapr fr, news := [(fr, some (.mp [] 0))], nn := 1 } → OpOk C.P o a w W0 S E hp fr e := by
    rintro hrun rfl
    obtain ⟨F, R, G⟩ := G
    refine OpOk.post G hrun (by simp [conc, Env.set]) (Post.one (p := { block := w.heap.size }) (F1 := [w.heap.size]) (R1 := []) (hfr fr (Nat.le_refl _) (by simp)) rfl rfl (fun n x h => by simp [lookO] at h) ?_ ⟨rfl, rfl, [], rfl, ?_⟩ (by simp) (fun k hk => ?_) (fun k hk => by simp at hk))
    · exact ⟨rfl, rfl, rfl, by show w.heap.size ≤ (w.heap.push _).size; simp, fun k hk _ => (MapKept.heap_alloc w _).2 k hk⟩
    · exact (MapKept.heap_alloc w _).1
    · simp only [List.mem_singleton] at hk; subst hk; exact .inr (Nat.le_refl _)
  unfold effMakeMap at h
  split at h
  · rename_i k el hm hn
    cases r with
    | some y => simp at hn
    | none => exact key (by simp [execOp, ho, Instr.makeMap, newObj, Sem.run]) (get_one h).symm
  · rename_i k el kd i hm hn
    cases r with
    | none => simp at hn
    | some y =>
      simp only [Option.map_some, Option.some.injEq] at hn
      have := hr y rfl
      rw [hn] at this
      simp only [conc, Option.some.injEq] at this
      exact key (by simp [execOp, ho, Instr.makeMap, newObj, run_underlying hm, ← this, asInt, asIntOf, Sem.run]) (get_one h).symm
  · exact get_no h
/-- A map of one's own, as it lies. -/
theorem map_at (G : Gam W0 S E hp w) {n : Nat} {es : List (AV × AV × Nat)} {c : Nat} (hb : hp n = some (.mp es c)) {av : AV} {V : Value} (hv : conc E av = some V) (hn : av = .mapr n) :
    ∃ F R p l, Gf W0 S E hp w F R ∧ E n = some p ∧ F n = [p.block] ∧ concE E es = some l ∧ w.heap[p.block]? = some (.map l.toArray c) ∧ V = .map (some p.block) := by
  obtain ⟨F, R, G⟩ := G
  obtain ⟨p, hp1, h1, _, l, h2, h3⟩ := G.holds n _ hb
  rw [hn] at hv
  simp only [conc, hp1, Option.map_some, Option.some.injEq] at hv
  exact ⟨F, R, p, l, G, hp1, h1, h2, h3, hv.symm⟩
/-- A map turned. -/
theorem map_turn {F R : Nat → List Nat} (G : Gf W0 S E hp w F R) {n : Nat} {es es' : List (AV × AV × Nat)} {c c' : Nat} {p : Pl} {l l' : List MapEntry} {X : List AV} {ev : AV} (hb : hp n = some (.mp es c)) (hp1 : E n = some p) (hF : F n = [p.block]) (hh : w.heap[p.block]? = some (.map l.toArray c))
    (hl : concE E es' = some l') (he : e = { val := ev, reads := [n], upd := [(n, some (.mp es' c'))] }) : Post E hp w F R fr e E { w with heap := w.heap.setIfInBounds p.block (.map l'.toArray c') } (fun _ => [p.block]) (fun _ => []) := by
  obtain ⟨g1, g2⟩ := MapKept.heap_set (o' := .map l'.toArray c') hh
  exact Post.turn (b' := .mp es' c') hb hp1 (by rw [he]) (by rw [he]) ⟨rfl, rfl, rfl, by simp, fun k hk hnk => g2 k (fun e0 => hnk (by rw [hF, e0]; simp))⟩ ⟨rfl, rfl, l', hl, g1⟩ (fun k hk => by rw [hF]; exact hk) (fun k hk => by simp at hk) (by simp)
theorem tabT_ok {ok : Bool} {n : Nat} {x : Int} {e : Eff} : ∀ {es : List (Int × Nat)}, (tabT ok n x es).get = some e → ∃ y ∈ es, x = y.1 ∧ (foundAt ok (.func (.func y.2) [] []) true [n]).get = some e
  | [], h => get_no h
  | y :: r, h => by
    simp only [tabT, T.get] at h
    by_cases hx : x = y.1
    · rw [decide_eq_true hx] at h
      exact ⟨y, by simp, hx, h⟩
    · rw [decide_eq_false hx] at h
      obtain ⟨z, h1, h2⟩ := tabT_ok h
      exact ⟨z, by simp [h1], h2⟩
theorem oneB_ok {es : List (Int × Nat)} (h : oneB es = true) {x y : Int × Nat} (hx : x ∈ es) (hy : y ∈ es) (hxy : x.1 = y.1) : x.2 = y.2 := by
  have := List.all_eq_true.1 (List.all_eq_true.1 h x hx) y hy
  simpa [hxy] using this
/-- A map of functions, as it lies. -/
theorem tab_at (G : Gam W0 S E hp w) {n : Nat} {q : IntKind} {es : List (Int × Nat)} (hb : hp n = some (.tb q es)) {av : AV} {V : Value} (hv : conc E av = some V) (hn : av = .mapr n) :
    ∃ b, V = .map (some b) ∧ TabAt w b q es := by
  obtain ⟨F, R, G⟩ := G
  obtain ⟨p, hp1, _, _, h2⟩ := G.holds n _ hb
  rw [hn] at hv
  simp only [conc, hp1, Option.map_some, Option.some.injEq] at hv
  exact ⟨p.block, hv.symm, h2⟩
theorem lookup0_ok {ty : TypeId} {m k : Operand} {ok : Bool} {t : Operand → AV} (G : Gam W0 S E hp w) (ho : o.op = .lookup ty m k ok) (hm : conc E (t m) = some (a.eval m)) (hk : conc E (t k) = some (a.eval k))
    (h : (effLookup0 C.P ty (t m) (t k) ok hp).get = some e) : OpOk C.P o a w W0 S E hp fr e := by
  have found : ∀ {v : AV} {b : Bool} {rd : List Nat} {V : Value}, (foundAt ok v b rd).get = some e → conc E v = some V → (∀ w' : World, w' = w → (Instr.lookup ty (a.eval m) (a.eval k) ok).run C.P w' = .ok (if ok then .tuple #[V, .bool b] else V) w') → OpOk C.P o a w W0 S E hp fr e := by
    intro v b rd V he hv hrun
    obtain rfl := get_one he
    refine OpOk.value G (V := if ok then .tuple #[V, .bool b] else V) (by simp [execOp, ho, hrun w rfl]) ?_ rfl rfl
    cases ok with
    | true => simp [conc, concs, hv]
    | false => simpa using hv
  unfold effLookup0 at h
  split at h
  case h_2 => exact get_no h
  rename_i u z kv hkt hkv
  obtain ⟨kt, el, i, q1, q2, q3, q4, q5⟩ := keyOfT_ok hkt
  have hkv := plain_conc hkv E
  rw [hk] at hkv
  cases hkv
  split at h
  · rename_i hm0
    rw [hm0] at hm
    simp only [conc, Option.some.injEq] at hm
    refine found h rfl fun w' hw' => ?_
    simp [Instr.lookup, ← hm, run_underlying q1, checkKey_simple q2 q5, MapKept.run_findKey q2 (show Instr.findNow u (a.eval k) [] 0 = some none from rfl), run_zero q3 q4]
  · rename_i n hm0
    split at h
    case h_3 => exact get_no h
    case h_2 =>
      rename_i q es hb
      obtain ⟨b, hV, l, c, hh, hl1, hl2⟩ := tab_at G hb hm hm0
      split at h
      case h_2 => exact get_no h
      rename_i q' q'' x hka
      cases hc : (decide (q' = q ∧ q'' = q) && oneB es) with
      | false => rw [hc] at h; exact get_no h
      | true =>
        rw [hc, cond_true] at h
        simp only [Bool.and_eq_true, decide_eq_true_eq] at hc
        obtain ⟨⟨rfl, rfl⟩, hone⟩ := hc
        obtain ⟨y, hy, rfl, hfd⟩ := tabT_ok h
        have hik : ∀ e ∈ l.toList, MapKept.IsKey (.int q'') e.key := by
          intro e he
          obtain ⟨x, _, hx, _⟩ := hl1 e he
          rw [hx]; rfl
        obtain ⟨j, e0, g1, g2, g3⟩ : ∃ j e, Instr.findNow (.int q'') (.int q'' y.1) l.toList 0 = some (some (j, e.val)) ∧ e ∈ l.toList ∧ e.key = .int q'' y.1 := by
          rcases MapKept.findNow_spec (d := .int q'') (k := .int q'' y.1) rfl l.toList 0 hik with ⟨_, h2⟩ | ⟨j, e, h1, h2, h3⟩
          · obtain ⟨e, he, hk⟩ := hl2 y hy
            exact (h2 e he hk).elim
          · exact ⟨0 + j, e, h1, List.mem_of_getElem? h2, h3⟩
        have he : e0.val = Value.func (.func y.2) #[] #[] := by
          obtain ⟨x, hx, hx1, hx2⟩ := hl1 e0 g2
          rw [g3] at hx1
          simp only [Value.int.injEq, true_and] at hx1
          rw [hx2, oneB_ok hone hx hy hx1.symm]
        refine found (V := e0.val) hfd (by rw [he]; simp [conc, concs]) fun w' hw' => ?_
        subst hw'
        simp [Instr.lookup, hV, hka, run_underlying q1, MapKept.run_getObj_map hh, checkKey_simple q2 q5, MapKept.run_findKey q2 g1]
    rename_i es c hb
    obtain ⟨r, hr, h⟩ := T.get_bindO h
    obtain ⟨F, R, p, l, Gx, hp1, hF, hl, hh, hV⟩ := map_at G hb hm hm0
    have hf := findT_ok hl hr
    cases r with
    | none =>
      simp only at h hf
      refine found h rfl fun w' hw' => ?_
      subst hw'
      simp [Instr.lookup, hV, run_underlying q1, MapKept.run_getObj_map hh, checkKey_simple q2 q5, MapKept.run_findKey q2 hf, run_zero q3 q4]
    | some j =>
      simp only at h hf
      obtain ⟨_, e0, g1, g2, _⟩ := hf
      split at h
      case h_2 => exact get_no h
      rename_i x hx
      obtain ⟨e1, k1, k2, k3, k4⟩ := concE_get hl hx
      rw [Nat.sub_zero] at g1
      rw [k1] at g1
      cases g1
      refine found h k3 fun w' hw' => ?_
      subst hw'
      simp [Instr.lookup, hV, run_underlying q1, MapKept.run_getObj_map hh, checkKey_simple q2 q5, MapKept.run_findKey q2 g2]
  · exact get_no h
theorem update0_ok {ty : TypeId} {m k x : Operand} {t : Operand → AV} (G : Gam W0 S E hp w) (ho : o.op = .mapUpdate ty m k x ∨ o.op = .insert ty m k x)
    (hm : conc E (t m) = some (a.eval m)) (hk : conc E (t k) = some (a.eval k)) (hx : conc E (t x) = some (a.eval x))
    (h : (effUpdate0 C.P ty (t m) (t k) (t x) hp).get = some e) : OpOk C.P o a w W0 S E hp fr e := by
  have run_ : ∀ w', (Instr.mapUpdate ty (a.eval m) (a.eval k) (a.eval x)).run C.P w = .ok () w' → (execOp a.eval o).run C.P w = .ok .skip w' := by
    intro w' hr
    rcases ho with ho | ho <;> simp [execOp, ho, hr]
  unfold effUpdate0 at h
  split at h
  case h_2 => exact get_no h
  rename_i u z kv n hkt hkv hm0
  obtain ⟨kt, el, i, q1, q2, q3, q4, q5⟩ := keyOfT_ok hkt
  have hkv := plain_conc hkv E
  rw [hk] at hkv
  cases hkv
  split at h
  case h_2 => exact get_no h
  rename_i es c hb
  obtain ⟨r, hr, h⟩ := T.get_bindO h
  obtain ⟨F, R, p, l, Gx, hp1, hF, hl, hh, hV⟩ := map_at G hb hm hm0
  have hf := findT_ok hl hr
  cases r with
  | none =>
    simp only at h hf
    obtain rfl := get_one h
    refine OpOk.post' Gx (run_ ({ w with heap := w.heap.setIfInBounds p.block (.map (l ++ [({ key := a.eval k, val := a.eval x, born := c } : MapEntry)]).toArray (c + 1)) } : World) ?_) rfl (map_turn (X := []) Gx hb hp1 hF hh (concE_push (k := .v (a.eval k)) hl rfl hx) rfl)
    simp [Instr.mapUpdate, hV, run_underlying q1, MapKept.run_getObj_map hh, checkKey_simple q2 q5, MapKept.run_findKey q2 hf, MapKept.run_setObj_map _ hh]
  | some j =>
    simp only at h hf
    obtain ⟨_, e0, g1, g2, g3⟩ := hf
    split at h
    case h_2 => exact get_no h
    rename_i y hy
    obtain ⟨e1, k1, k2, k3, k4⟩ := concE_get hl hy
    rw [Nat.sub_zero] at g1
    rw [k1] at g1
    cases g1
    obtain rfl := get_one h
    refine OpOk.post' Gx (run_ ({ w with heap := w.heap.setIfInBounds p.block (.map (l.set j { key := a.eval k, val := a.eval x, born := y.2.2 }).toArray c) } : World) ?_) rfl (map_turn (X := []) Gx hb hp1 hF hh (concE_set (k := .v (a.eval k)) hl rfl hx) rfl)
    have hj : (l[j]?.map (·.key)).getD (a.eval k) = e0.key := by rw [k1]; rfl
    have hmod : l.modify j (fun e => { e with key := a.eval k, val := a.eval x }) = (l.set j { key := a.eval k, val := a.eval x, born := y.2.2 }) := by
      rw [list_modify k1, k4]
    simp [Instr.mapUpdate, Instr.keyThatStays, hV, run_underlying q1, MapKept.run_getObj_map hh, checkKey_simple q2 q5, MapKept.run_findKey q2 g2, MapKept.run_setObj_map _ hh, k1, sameBits_of q5 g3, hmod]
theorem mapEntry_ok {ty : TypeId} {m k : Operand} {t : Operand → AV} (G : Gam W0 S E hp w) (ho : o.op = .mapEntry ty m k) (hm : conc E (t m) = some (a.eval m)) (hk : conc E (t k) = some (a.eval k))
    (h : (effMapEntry C.P ty (t m) (t k) hp).get = some e) : OpOk C.P o a w W0 S E hp fr e := by
  unfold effMapEntry at h
  split at h
  case h_2 => exact get_no h
  rename_i u z kv n hkt hkv hm0
  obtain ⟨kt, el, i, q1, q2, q3, q4, q5⟩ := keyOfT_ok hkt
  have hkv := plain_conc hkv E
  rw [hk] at hkv
  cases hkv
  split at h
  case h_2 => exact get_no h
  rename_i es c hb
  obtain ⟨r, hr, h⟩ := T.get_bindO h
  obtain ⟨F, R, p, l, Gx, hp1, hF, hl, hh, hV⟩ := map_at G hb hm hm0
  have hf := findT_ok hl hr
  cases r with
  | none =>
    simp only at h hf
    obtain rfl := get_one h
    refine OpOk.post Gx (w' := { w with heap := w.heap.setIfInBounds p.block (.map (l ++ [({ key := a.eval k, val := z, born := c } : MapEntry)]).toArray (c + 1)) }) (V := .tuple #[z, goInt c]) ?_ (by simp [conc, concs]) (map_turn (X := []) Gx hb hp1 hF hh (concE_push (k := .v (a.eval k)) (v := .v z) hl rfl rfl) rfl)
    simp [execOp, ho, Instr.mapEntry, hV, run_underlying q1, MapKept.run_getObj_map hh, checkKey_simple q2 q5, MapKept.run_findKey q2 hf, MapKept.run_setObj_map _ hh, run_zero q3 q4]
  | some j =>
    simp only at h hf
    obtain ⟨_, e0, g1, g2, g3⟩ := hf
    split at h
    case h_2 => exact get_no h
    rename_i y hy
    obtain ⟨e1, k1, k2, k3, k4⟩ := concE_get hl hy
    rw [Nat.sub_zero] at g1
    rw [k1] at g1
    cases g1
    obtain rfl := get_one h
    refine OpOk.post Gx (w' := { w with heap := w.heap.setIfInBounds p.block (.map (l.set j { key := a.eval k, val := e0.val, born := y.2.2 }).toArray c) }) (V := .tuple #[e0.val, goInt y.2.2]) ?_ (by simp [conc, concs, k3]) (map_turn (X := []) Gx hb hp1 hF hh (concE_set (k := .v (a.eval k)) hl rfl k3) rfl)
    have hmod : l.modify j (fun e => { e with key := a.eval k }) = (l.set j { key := a.eval k, val := e0.val, born := y.2.2 }) := by
      rw [list_modify k1, k4]
    simp [execOp, ho, Instr.mapEntry, Instr.keyThatStays, hV, run_underlying q1, MapKept.run_getObj_map hh, checkKey_simple q2 q5, MapKept.run_findKey q2 g2, MapKept.run_setObj_map _ hh, k1, k4, sameBits_of q5 g3, hmod]
theorem stampAt_ok {s : Int} : ∀ {es : List (AV × AV × Nat)} {l : List MapEntry} {i j : Nat}, concE E es = some l → stampAt s es i = some j → i ≤ j ∧ (l.findIdx? (fun e => (e.born : Int) == s)) = some (j - i)
  | [], l, i, j, h, hs => by simp [stampAt] at hs
  | (k0, v0, b0) :: es, l, i, j, h, hs => by
    simp only [concE, Option.bind_eq_some_iff, Option.map_eq_some_iff] at h
    obtain ⟨kv0, hk0, vv0, hv0, rr, hr, rfl⟩ := h
    simp only [stampAt] at hs
    cases hb : decide ((b0 : Int) = s) with
    | true =>
      rw [hb] at hs
      cases hs
      have hb : (b0 : Int) = s := by simpa using hb
      exact ⟨Nat.le_refl _, by simp [List.findIdx?_cons, hb]⟩
    | false =>
      rw [hb] at hs
      have hb : ¬ (b0 : Int) = s := by simpa using hb
      obtain ⟨h1, h2⟩ := stampAt_ok hr hs
      refine ⟨by omega, ?_⟩
      have hb2 : ((b0 : Int) == s) = false := by simpa using hb
      rw [List.findIdx?_cons, hb2, h2]
      simp
      omega
theorem entryStore_ok {ty : TypeId} {m s x : Operand} {t : Operand → AV} (G : Gam W0 S E hp w) (ho : o.op = .entryStore ty m s x) (hm : conc E (t m) = some (a.eval m)) (hs : conc E (t s) = some (a.eval s)) (hx : conc E (t x) = some (a.eval x))
    (h : (effEntryStore (t m) (t s) (t x) hp).get = some e) : OpOk C.P o a w W0 S E hp fr e := by
  unfold effEntryStore at h
  split at h
  case h_2 => exact get_no h
  rename_i n kd b hm0 hs0
  split at h
  case h_2 => exact get_no h
  rename_i es c hb
  split at h
  case h_2 => exact get_no h
  rename_i j hj
  split at h
  case h_2 => exact get_no h
  rename_i y hy
  obtain ⟨F, R, p, l, Gx, hp1, hF, hl, hh, hV⟩ := map_at G hb hm hm0
  rw [hs0] at hs
  simp only [conc, Option.some.injEq] at hs
  obtain ⟨e1, k1, k2, k3, k4⟩ := concE_get hl hy
  obtain rfl := get_one h
  obtain ⟨_, hfi⟩ := stampAt_ok (E := E) hl hj
  rw [Nat.sub_zero] at hfi
  refine OpOk.post' Gx (w' := { w with heap := w.heap.setIfInBounds p.block (.map (l.set j { key := e1.key, val := a.eval x, born := y.2.2 }).toArray c) }) ?_ rfl (map_turn (X := []) Gx hb hp1 hF hh (concE_set hl k2 hx) rfl)
  have hmod : l.modify j (fun e => { e with val := a.eval x }) = (l.set j { key := e1.key, val := a.eval x, born := y.2.2 }) := by
    rw [list_modify k1, k4]
  simp [execOp, ho, Instr.entryStore, hV, MapKept.run_getObj_map hh, ← hs, asInt, asIntOf, MapKept.run_setObj_map _ hh, hfi, hmod]
theorem delete0_ok {ty : TypeId} {m k : Operand} {as : Array Operand} {ts : Array TypeId} {tr : List TypeId} {t : Operand → AV} (G : Gam W0 S E hp w) (ho : o.op = .call ⟨.builtin .delete, as, ts⟩) (has : as = #[m, k]) (hts : ts = (ty :: tr).toArray)
    (hm : conc E (t m) = some (a.eval m)) (hk : conc E (t k) = some (a.eval k)) (h : (effDelete0 C.P ty (t m) (t k) hp).get = some e) : OpOk C.P o a w W0 S E hp fr e := by
  subst has hts
  unfold effDelete0 at h
  split at h
  case h_2 => exact get_no h
  rename_i u z kv n hkt hkv hm0
  obtain ⟨kt, el, i, q1, q2, q3, q4, q5⟩ := keyOfT_ok hkt
  have hkv := plain_conc hkv E
  rw [hk] at hkv
  cases hkv
  split at h
  case h_2 => exact get_no h
  rename_i es c hb
  obtain ⟨r, hr, h⟩ := T.get_bindO h
  obtain ⟨F, R, p, l, Gx, hp1, hF, hl, hh, hV⟩ := map_at G hb hm hm0
  have hf := findT_ok hl hr
  cases r with
  | none =>
    simp only at h hf
    obtain rfl := get_one h
    refine OpOk.post Gx (w' := { w with heap := w.heap.setIfInBounds p.block (.map l.toArray c) }) (V := .tuple #[]) ?_ (by simp [conc]) (map_turn (X := []) Gx hb hp1 hF hh hl rfl)
    simp [execOp, ho, resolve, invoke, builtin, Builtin.delete_, hV, run_underlying q1, MapKept.run_getObj_map hh, checkKey_simple q2 q5, MapKept.run_findKey q2 hf, MapKept.run_setObj_map _ hh]
  | some j =>
    simp only at h hf
    obtain ⟨_, e0, g1, g2, g3⟩ := hf
    obtain rfl := get_one h
    refine OpOk.post Gx (w' := { w with heap := w.heap.setIfInBounds p.block (.map (l.eraseIdx j).toArray c) }) (V := .tuple #[]) ?_ (by simp [conc]) (map_turn (X := []) Gx hb hp1 hF hh (concE_erase hl) rfl)
    have her : l.toArray.eraseIdxIfInBounds j = (l.eraseIdx j).toArray := by
      apply Array.toList_inj.1
      simp
    simp [execOp, ho, resolve, invoke, builtin, Builtin.delete_, hV, run_underlying q1, MapKept.run_getObj_map hh, checkKey_simple q2 q5, MapKept.run_findKey q2 g2, MapKept.run_setObj_map _ hh, her]
/-! Maps as data. -/
theorem entH_at {κ α : Type} {K : κ → Value → Prop} {Pp : α → List Value → List Nat → List Nat → Prop} : ∀ {l : List (κ × α)} {es : List MapEntry} {F R : List Nat} {j : Nat} {x : κ × α}, entH K Pp l es F R → l[j]? = some x →
    ∃ es1 e es2 F1 F2 F3 R1 R2 R3, es = es1 ++ e :: es2 ∧ F = F1 ++ (F2 ++ F3) ∧ R = R1 ++ (R2 ++ R3) ∧ es1.length = j ∧ entH K Pp (l.take j) es1 F1 R1 ∧ K x.1 e.key ∧ Pp x.2 [e.val] F2 R2 ∧ entH K Pp (l.drop (j + 1)) es2 F3 R3
  | [], es, F, R, j, x, h, hj => by simp at hj
  | y :: l, es, F, R, j, x, h, hj => by
    obtain ⟨e, es', F1, F2, R1, R2, rfl, rfl, rfl, h0, h1, h2⟩ := h
    cases j with
    | zero =>
      simp only [List.getElem?_cons_zero, Option.some.injEq] at hj
      subst hj
      exact ⟨[], e, es', [], F1, F2, [], R1, R2, rfl, rfl, rfl, rfl, ⟨rfl, rfl, rfl⟩, h0, h1, h2⟩
    | succ j =>
      obtain ⟨es1, e', es2, G1, G2, G3, Q1, Q2, Q3, rfl, rfl, rfl, g1, g2, g3, g4, g5⟩ := entH_at h2 (by simpa using hj)
      exact ⟨e :: es1, e', es2, F1 ++ G1, G2, G3, R1 ++ Q1, Q2, Q3, rfl, by simp, by simp, by simp [g1], ⟨e, es1, F1, G1, R1, Q1, rfl, rfl, rfl, h0, h1, g2⟩, g3, g4, g5⟩
theorem entH_length {κ α : Type} {K : κ → Value → Prop} {Pp : α → List Value → List Nat → List Nat → Prop} : ∀ {l : List (κ × α)} {es : List MapEntry} {F R : List Nat}, entH K Pp l es F R → es.length = l.length
  | [], es, F, R, h => by obtain ⟨rfl, _, _⟩ := h; rfl
  | y :: l, es, F, R, h => by
    obtain ⟨e, es', F1, F2, R1, R2, rfl, rfl, rfl, h0, h1, h2⟩ := h
    simp [entH_length h2]
theorem keyT_ok {P : Program} {t kt : TypeId} {u : TypeDesc} {z : Value} (h : keyT P t = some (kt, u, z)) : ∃ e i, P.underlying t = some (.map kt e) ∧ P.underlying kt = some u ∧ P.info? e = some i ∧ i.zero = some z := by
  unfold keyT at h
  split at h
  case h_2 => cases h
  rename_i k e hm
  split at h
  case h_2 => cases h
  rename_i u' hu
  split at h
  case h_2 => cases h
  rename_i z' hz
  cases h
  obtain ⟨i, h1, h2⟩ := Option.bind_eq_some_iff.1 hz
  exact ⟨e, i, hm, hu, h1, h2⟩
theorem keyFits_simple {P : Program} {kt : TypeId} {u : TypeDesc} {key : Sh} (h : keyFits P kt u key = true) : simpleKey u = true := by
  unfold keyFits at h
  split at h <;> first | rfl | cases h
theorem same_key {P : Program} {kt : TypeId} {u : TypeDesc} {key : Sh} (h : keyFits P kt u key = true) (x y : Den key) : Instr.sameNow u (encK key x) (encK key y) = some (keyB key y x) ∧ (keyB key y x = true → y = x) := by
  unfold keyFits at h
  split at h
  · have h := of_decide_eq_true h
    subst h
    simp only [encK, Ck.enc, prHd, Instr.sameNow, keyB, Ck.eqB, if_true]
    refine ⟨?_, fun h => of_decide_eq_true h⟩
    congr 1
    rw [Bool.eq_iff_iff]
    simp only [beq_iff_eq, decide_eq_true_eq]
    exact ⟨fun h => h.symm, fun h => h.symm⟩
  · exact ⟨rfl, fun h => (bytes_eq h).symm⟩
  · exact ⟨rfl, fun h => (eq_of_beq h).symm⟩
  · cases h
theorem keyB_self {P : Program} {kt : TypeId} {u : TypeDesc} {key : Sh} (h : keyFits P kt u key = true) (x : Den key) : keyB key x x = true := by
  unfold keyFits at h
  split at h
  · exact decide_eq_true rfl
  · exact beq_self_bytes _
  · exact beq_self_eq_true _
  · cases h
/-- A key is found as it is found in the data. -/
theorem findNow_data {P : Program} {kt : TypeId} {u : TypeDesc} {key : Sh} (hf : keyFits P kt u key = true) (x : Den key) {α : Type} {Pp : α → List Value → List Nat → List Nat → Prop} : ∀ {l : List (Den key × α)} {es : List MapEntry} {F R : List Nat} (i : Nat), entH (keyH key) Pp l es F R →
    (hasK (keyB key) l x = false → Instr.findNow u (encK key x) es i = some none) ∧
    (hasK (keyB key) l x = true → ∃ e y, es[posK (keyB key) l x]? = some e ∧ l[posK (keyB key) l x]? = some y ∧ Instr.findNow u (encK key x) es i = some (some (i + posK (keyB key) l x, e.val)) ∧ e.key = encK key x ∧ y.1 = x)
  | [], es, F, R, i, h => by
    obtain ⟨rfl, _, _⟩ := h
    exact ⟨fun _ => rfl, fun h => by simp [hasK] at h⟩
  | y :: l, es, F, R, i, h => by
    obtain ⟨e, es', F1, F2, R1, R2, rfl, rfl, rfl, h0, h1, h2⟩ := h
    obtain ⟨s1, s2⟩ := same_key hf x y.1
    obtain ⟨i1, i2⟩ := findNow_data hf x (i + 1) h2
    have h0 : e.key = encK key y.1 := h0
    cases hb : keyB key y.1 x with
    | true =>
      rw [hb] at s1
      refine ⟨fun h => by simp [hasK, hb] at h, fun _ => ?_⟩
      have hp : posK (keyB key) (y :: l) x = 0 := by simp [posK, List.findIdx_cons, hb]
      rw [hp]
      exact ⟨e, y, rfl, rfl, by simp [Instr.findNow, h0, s1], by rw [h0, s2 hb], s2 hb⟩
    | false =>
      rw [hb] at s1
      have hp : posK (keyB key) (y :: l) x = posK (keyB key) l x + 1 := by simp [posK, List.findIdx_cons, hb]
      have hh : hasK (keyB key) (y :: l) x = hasK (keyB key) l x := by simp [hasK, hb]
      have hn : Instr.findNow u (encK key x) (e :: es') i = Instr.findNow u (encK key x) es' (i + 1) := by simp [Instr.findNow, h0, s1]
      rw [hp, hh, hn]
      refine ⟨i1, fun h => ?_⟩
      obtain ⟨e', y', a1, a2, a3, a4, a5⟩ := i2 h
      exact ⟨e', y', by simpa using a1, by simpa using a2, by rw [a3]; congr 3; omega, a4, a5⟩
/-- A map as data, as it lies. -/
theorem obj_at {F R : Nat → List Nat} {own : Bool} {key row : Sh} {l : List (Den key × Den row)} {n : Nat} (G : Gf W0 S E hp w F R) (hb : hp n = some (.obj own .map key row l)) {av : AV} {V : Value} (hv : conc E av = some V) (hn : av = .mapr n) :
    ∃ p es clk F0 R0, E n = some p ∧ V = .map (some p.block) ∧ w.heap[p.block]? = some (.map es clk) ∧ entH (keyH key) (hold w (!own) row) l es.toList F0 R0 ∧ ownR own p.block F0 R0 (F n) (R n) := by
  obtain ⟨p, hp1, hh⟩ := G.holds n _ hb
  obtain ⟨b, es, clk, F0, R0, e1, h1, h2, h3⟩ := hh
  simp only [objV, Value.map.injEq, Option.some.injEq] at e1
  subst e1
  rw [hn] at hv
  simp only [conc, hp1, Option.map_some, Option.some.injEq] at hv
  exact ⟨p, es, clk, F0, R0, hp1, hv.symm, h1, h2, h3⟩
theorem mph_at {F R : Nat → List Nat} {own : Bool} {key row : Sh} {l : List (Den key × Den row)} {n i : Nat} {v : AV} (G : Gf W0 S E hp w F R) (hb : hp n = some (.mph own key row l i v)) {av : AV} {V : Value} (hv : conc E av = some V) (hn : av = .mapr n) :
    ∃ p clk es1 e es2 F1 R1 F2 R2 x, E n = some p ∧ V = .map (some p.block) ∧ w.heap[p.block]? = some (.map (es1 ++ e :: es2).toArray clk) ∧ l[i]? = some x ∧ keyH key x.1 e.key ∧ conc E v = some e.val ∧
      entH (keyH key) (hold w (!own) row) (l.take i) es1 F1 R1 ∧ entH (keyH key) (hold w (!own) row) (l.drop (i + 1)) es2 F2 R2 ∧ ownR own p.block (F1 ++ F2) (R1 ++ R2) (F n) (R n) := by
  obtain ⟨p, hp1, hh⟩ := G.holds n _ hb
  obtain ⟨clk, es1, e, es2, F1, R1, F2, R2, x, h1, h2, h3, h4, h5, h6, h7⟩ := hh
  rw [hn] at hv
  simp only [conc, hp1, Option.map_some, Option.some.injEq] at hv
  exact ⟨p, clk, es1, e, es2, F1, R1, F2, R2, x, hp1, hv.symm, h1, h2, h3, h4, h5, h6, h7⟩
/-- Which entry has a key, one entry being told apart. -/
theorem findNow_mph {P : Program} {kt : TypeId} {u : TypeDesc} {key : Sh} (hf : keyFits P kt u key = true) (x : Den key) {α : Type} {Pp : α → List Value → List Nat → List Nat → Prop} {l : List (Den key × α)} {es1 es2 : List MapEntry} {e : MapEntry} {F1 R1 : List Nat} {i : Nat} {y : Den key × α}
    (h1 : entH (keyH key) Pp (l.take i) es1 F1 R1) (h2 : l[i]? = some y) (h3 : keyH key y.1 e.key) (h : hasK (keyB key) l x = true) (hi : posK (keyB key) l x = i) : Instr.findNow u (encK key x) (es1 ++ e :: es2) 0 = some (some (i, e.val)) ∧ es1.length = i ∧ e.key = encK key x ∧ y.1 = x := by
  have hlt := (List.getElem?_eq_some_iff.1 h2).1
  have hlen : es1.length = i := by rw [entH_length h1, List.length_take]; omega
  have hno : hasK (keyB key) (l.take i) x = false := by
    rw [Bool.eq_false_iff]
    intro hc
    simp only [hasK, List.any_eq_true] at hc
    obtain ⟨z, hz, hz2⟩ := hc
    obtain ⟨j, hj, hj2⟩ := List.getElem_of_mem hz
    rw [List.length_take] at hj
    have hjl : j < l.findIdx fun e => keyB key e.1 x := by unfold posK at hi; omega
    have := List.not_of_lt_findIdx hjl
    rw [List.getElem_take] at hj2
    simp only [hj2] at this
    rw [hz2] at this
    simp at this
  have hyes : keyB key y.1 x = true := by
    have hlt' : (l.findIdx fun e => keyB key e.1 x) < l.length := by unfold posK at hi; omega
    have := List.findIdx_getElem (w := hlt')
    unfold posK at hi
    have hy : l[i] = y := (List.getElem?_eq_some_iff.1 h2).2
    simp only [hi, hy] at this
    exact this
  have hxy := (same_key hf x y.1).2 hyes
  have hs := (same_key hf x y.1).1
  rw [hyes] at hs
  have h3 : e.key = encK key y.1 := h3
  have key_ : ∀ {es : List MapEntry} {l' : List (Den key × α)} {F R : List Nat} (k : Nat), entH (keyH key) Pp l' es F R → hasK (keyB key) l' x = false → Instr.findNow u (encK key x) (es ++ e :: es2) k = some (some (k + es.length, e.val)) := by
    intro es
    induction es with
    | nil => intro l' F R k _ _; simp [Instr.findNow, h3, hs]
    | cons e' es ih =>
      intro l' F R k he hn
      cases l' with
      | nil => obtain ⟨h, _⟩ := he; cases h
      | cons y' l' =>
        obtain ⟨e'', es', _, _, _, _, hee, _, _, g0, _, g2⟩ := he
        cases hee
        have g0 : e'.key = encK key y'.1 := g0
        have hn' : keyB key y'.1 x = false ∧ hasK (keyB key) l' x = false := by simpa [hasK] using hn
        have hs' := (same_key hf x y'.1).1
        rw [hn'.1] at hs'
        simp only [List.cons_append, Instr.findNow, g0, hs']
        rw [ih (k + 1) g2 hn'.2]
        simp only [List.length_cons]
        congr 3; omega
  have := key_ 0 h1 hno
  rw [hlen, Nat.zero_add] at this
  exact ⟨this, hlen, by rw [h3, hxy], hxy⟩
theorem okV_conc {ok b : Bool} {v : AV} {V : Value} {E : Env} (h : conc E v = some V) : conc E (okV ok v b) = some (if ok then .tuple #[V, .bool b] else V) := by
  cases ok <;> simp [okV, conc, concs, h]
theorem decK_bind {k : AV} {key : Sh} {x : Den key} {V : Value} (h : (plain k).bind (decK key) = some x) (hk : conc E k = some V) : V = encK key x := by
  obtain ⟨kv, h1, h2⟩ := Option.bind_eq_some_iff.1 h
  have := plain_conc h1 E
  rw [hk] at this
  cases this
  exact (decK_enc h2).symm
theorem lookH_ok {ty : TypeId} {m k : Operand} {ok : Bool} {t : Operand → AV} {n i : Nat} {own : Bool} {key row : Sh} {l : List (Den key × Den row)} {v : AV} (Gm : Gam W0 S E hp w) (ho : o.op = .lookup ty m k ok) (hm : conc E (t m) = some (a.eval m)) (hk : conc E (t k) = some (a.eval k))
    (hn : t m = .mapr n) (hb : hp n = some (.mph own key row l i v)) (h : (effLookH C.P ty n (t k) ok key row l i v).get = some e) : OpOk C.P o a w W0 S E hp fr e := by
  unfold effLookH at h
  split at h
  case h_2 => exact get_no h
  rename_i kt u z x hkt hx
  cases hf : keyFits C.P kt u key with
  | false => rw [hf] at h; exact get_no h
  | true =>
    rw [hf] at h
    obtain ⟨hc, h⟩ := T.get_when h
    obtain rfl := get_one h
    simp only [Bool.and_eq_true] at hc
    have hi := Nat.eq_of_beq_eq_true hc.2
    obtain ⟨el, ii, q1, q2, q3, q4⟩ := keyT_ok hkt
    have hkv := decK_bind hx hk
    obtain ⟨F, R, G⟩ := id Gm
    obtain ⟨p, clk, es1, e0, es2, F1, R1, F2, R2, y, hp1, hV, h1, h2, h3, h4, h5, h6, h7⟩ := mph_at G hb hm hn
    obtain ⟨f1, f2, f3, f4⟩ := findNow_mph (es2 := es2) hf x h5 h2 h3 hc.1 hi
    refine OpOk.value Gm (V := if ok then .tuple #[e0.val, .bool true] else e0.val) ?_ (okV_conc h4) rfl rfl
    simp [execOp, ho, Instr.lookup, hV, hkv, run_underlying q1, MapKept.run_getObj_map h1, checkKey_simple q2 (keyFits_simple hf), MapKept.run_findKey q2 f1]
theorem lookO_ok {ty : TypeId} {m k : Operand} {ok : Bool} {t : Operand → AV} {n : Nat} {own : Bool} {key row : Sh} {l : List (Den key × Den row)} (Gm : Gam W0 S E hp w) (ho : o.op = .lookup ty m k ok) (hm : conc E (t m) = some (a.eval m)) (hk : conc E (t k) = some (a.eval k))
    (hn : t m = .mapr n) (hb : hp n = some (.obj own .map key row l)) (hfr : ∀ n, fr ≤ n → n < fr + e.nn → E n = none) (h : (effLookO C.P ty n (t k) ok own key row l fr).get = some e) : OpOk C.P o a w W0 S E hp fr e := by
  unfold effLookO at h
  split at h
  case h_2 => exact get_no h
  rename_i kt u z x hkt hx
  cases hf : keyFits C.P kt u key with
  | false => rw [hf] at h; exact get_no h
  | true =>
    rw [hf, cond_true, T.get_ite] at h
    obtain ⟨el, ii, q1, q2, q3, q4⟩ := keyT_ok hkt
    have hkv := decK_bind hx hk
    obtain ⟨F, R, G⟩ := id Gm
    obtain ⟨p, es, clk, F0, R0, hp1, hV, h1, h2, h3⟩ := obj_at G hb hm hn
    obtain ⟨g1, g2⟩ := findNow_data hf x 0 h2
    have run_ : ∀ {r : Option (Nat × Value)} {V : Value} {b : Bool}, Instr.findNow u (encK key x) es.toList 0 = some r → (match r with | some (_, v) => V = v ∧ b = true | none => V = z ∧ b = false) → (execOp a.eval o).run C.P w = .ok (.value (if ok then .tuple #[V, .bool b] else V)) w := by
      intro r V b hr hV'
      cases r with
      | none => obtain ⟨rfl, rfl⟩ := hV'; simp [execOp, ho, Instr.lookup, hV, hkv, run_underlying q1, MapKept.run_getObj_map h1, checkKey_simple q2 (keyFits_simple hf), MapKept.run_findKey q2 hr, run_zero q3 q4]
      | some r => obtain ⟨j, v⟩ := r; obtain ⟨rfl, rfl⟩ := hV'; simp [execOp, ho, Instr.lookup, hV, hkv, run_underlying q1, MapKept.run_getObj_map h1, checkKey_simple q2 (keyFits_simple hf), MapKept.run_findKey q2 hr]
    cases hh : hasK (keyB key) l x with
    | false =>
      rw [hh, if_neg (by simp)] at h
      obtain rfl := get_one h
      exact OpOk.value Gm (run_ (g1 hh) ⟨rfl, rfl⟩) (okV_conc rfl) rfl rfl
    | true =>
      rw [hh, if_pos rfl, T.get_bind] at h
      obtain ⟨e0, y, k1, k2, k3, k4, k5⟩ := g2 hh
      have hg : getK (keyB key) l x (dflt row) = y.2 := by unfold getK; rw [k2]
      rw [hg] at h
      obtain ⟨es1, e1, es2, F1, F2, F3, R1, R2, R3, hes, rfl, rfl, l1, d1, d2, d3, d4⟩ := entH_at h2 k2
      have he01 : e0 = e1 := by
        rw [hes, List.getElem?_append_right (by omega), l1, Nat.sub_self] at k1
        simpa using k1.symm
      subst he01
      have hFn := G.nodup n _ hb
      have hF2 : F2.Nodup := by
        cases own with
        | true =>
          obtain ⟨q, _⟩ := h3
          rw [q] at hFn
          exact (List.nodup_append.1 (List.nodup_append.1 (List.nodup_cons.1 hFn).2).2.1).1
        | false => rw [hold_true_nil row _ _ _ _ d3]; exact List.nodup_nil
      generalize hs : (scat (!own) row y.2 fr).get = s at h
      have hge := scat_ge (lx := !own) row y.2 fr
      rw [hs] at hge
      have hfr' : ∀ m, fr ≤ m → m < s.2.2 → e.nn = s.2.2 - fr → E m = none := fun m a b c => hfr m a (by omega)
      have hnn : e.nn = s.2.2 - fr := by
        split at h
        · generalize (own && !s.2.1.isEmpty) = c at h
          cases c <;> (rw [← get_one h])
        · exact get_no h
      obtain ⟨E', FF, RR, sc⟩ := scat_ok row _ _ _ _ fr E d3 hF2 (fun m a b => hfr' m a (by rw [← hs]; exact b) hnn)
      rw [hs] at sc
      split at h
      case h_2 => exact get_no h
      rename_i v hv1
      have hcv : conc E' v = some e0.val := by
        have := sc.cells
        rw [hv1] at this
        obtain ⟨_, _, c1, c2, c3⟩ := concs_cons.1 this
        simp only [List.cons.injEq] at c3
        rw [c3.1]; exact c1
      cases hc : (own && !s.2.1.isEmpty) with
      | false =>
        rw [hc, cond_false] at h
        obtain rfl := get_one h
        have hnone : ∀ m b k', look s.2.1 m = some b → k' ∈ FF m → False := by
          intro m b k' hl hk'
          cases own with
          | true =>
            simp only [Bool.true_and, Bool.not_eq_false', List.isEmpty_iff] at hc
            rw [hc] at hl
            simp [look] at hl
          | false =>
            have := sc.inF m b k' hl hk'
            rw [hold_true_nil row _ _ _ _ d3] at this
            simp at this
        refine OpOk.post G (run_ k3 ⟨rfl, rfl⟩) (okV_conc hcv) (Post.news (F' := FF) (R' := RR) (fun m q h => by simp [lookO] at h) sc.ext ?_ ⟨rfl, rfl, rfl, Nat.le_refl _, fun _ _ _ => rfl⟩ ?_ ?_ ?_ ?_ ?_)
        · intro m a b
          have := sc.dom m a b
          simp only
          omega
        · intro m b h; exact sc.gc.holds m b (look_of_lookO.2 h)
        · intro m b h; exact sc.gc.nodup m b (look_of_lookO.2 h)
        · intro m b k' h hk'; exact (hnone m b k' (look_of_lookO.2 h) hk').elim
        · intro m b k' h hk'
          refine ⟨n, _, hb, ?_⟩
          have hk2 := sc.inR m b k' (look_of_lookO.2 h) hk'
          cases own with
          | true => obtain ⟨_, q⟩ := h3; rw [q]; simp [hk2]
          | false => obtain ⟨_, _, q⟩ := h3; rw [q]; simp [hk2]
        · intro m m' b b' k' h h' hk' hk''; exact (hnone m b k' (look_of_lookO.2 h) hk').elim
      | true =>
        rw [hc, cond_true] at h
        obtain rfl := get_one h
        simp only [Bool.and_eq_true] at hc
        obtain ⟨rfl, _⟩ := hc
        obtain ⟨hFn', hRn'⟩ := h3
        rw [hFn'] at hFn
        have hnd0 := List.nodup_cons.1 hFn
        have hnd1 := List.nodup_append.1 hnd0.2
        have hnd2 := List.nodup_append.1 hnd1.2.1
        have hput : ∀ m b, lookO (Eff.put { val := okV ok v true, reads := [n], upd := [(n, some (.mph true key row l (posK (keyB key) l x) v))], news := s.2.1, nn := s.2.2 - fr }) m = some (some b) → (m = n ∧ b = .mph true key row l (posK (keyB key) l x) v) ∨ (m ≠ n ∧ look s.2.1 m = some b) := by
          intro m b h
          simp only [Eff.put, List.cons_append, List.nil_append, lookO] at h
          cases hb1 : Nat.beq n m with
          | true => rw [hb1] at h; simp at h; exact .inl ⟨(Nat.eq_of_beq_eq_true hb1).symm, h.symm⟩
          | false =>
            rw [hb1] at h
            exact .inr ⟨fun e0 => by subst e0; simp at hb1, look_of_lookO.2 h⟩
        have htouch : ∀ k, k ∈ F n → touched hp F { val := okV ok v true, reads := [n], upd := [(n, some (.mph true key row l (posK (keyB key) l x) v))], news := s.2.1, nn := s.2.2 - fr } k := fun k hk => ⟨n, _, by simp [lookO], hb, hk⟩
        have hmem : ∀ k, k ∈ p.block :: (F1 ++ F3) → k ∈ F n ∧ k ∉ F2 := by
          intro k hk
          rw [hFn']
          rcases List.mem_cons.1 hk with rfl | hk
          · exact ⟨by simp, fun h => hnd0.1 (by simp [h])⟩
          · rcases List.mem_append.1 hk with hk | hk
            · exact ⟨by simp [hk], fun h => hnd1.2.2 k hk k (by simp [h]) rfl⟩
            · exact ⟨by simp [hk], fun h => hnd2.2.2 k h k hk rfl⟩
        refine OpOk.post G (run_ k3 ⟨rfl, rfl⟩) (okV_conc hcv) (F' := fun m => if m = n then p.block :: (F1 ++ F3) else FF m) (R' := fun m => if m = n then R1 ++ R3 else RR m) ⟨sc.ext, ?_, ⟨rfl, rfl, rfl, Nat.le_refl _, fun _ _ _ => rfl⟩, ?_, ?_, ?_, ?_, ?_⟩
        · intro m a b
          have := sc.dom m a b
          simp only
          omega
        · intro m b h
          rcases hput m b h with ⟨rfl, rfl⟩ | ⟨hmn, hl⟩
          · rw [if_pos rfl, if_pos rfl]
            refine ⟨p, sc.ext _ _ hp1, clk, es1, e0, es2, F1, R1, F3, R3, y, ?_, k2, d2, hcv, d1, d4, rfl, rfl⟩
            rw [← hes]; exact h1
          · rw [if_neg hmn, if_neg hmn]
            exact sc.gc.holds m b hl
        · intro m b h
          rcases hput m b h with ⟨rfl, rfl⟩ | ⟨hmn, hl⟩
          · rw [if_pos rfl, List.nodup_cons, List.nodup_append]
            exact ⟨fun h => hnd0.1 (by rcases List.mem_append.1 h with h | h <;> simp [h]), hnd1.1, hnd2.2.1, fun a ha b hb => hnd1.2.2 a ha b (by simp [hb])⟩
          · rw [if_neg hmn]; exact sc.gc.nodup m b hl
        · intro m b k' h hk'
          left
          rcases hput m b h with ⟨rfl, rfl⟩ | ⟨hmn, hl⟩
          · rw [if_pos rfl] at hk'; exact htouch k' (hmem k' hk').1
          · rw [if_neg hmn] at hk'
            refine htouch k' ?_
            rw [hFn']; simp [sc.inF m b k' hl hk']
        · intro m b k' h hk'
          refine .inl ⟨n, _, hb, ?_⟩
          rw [hRn']
          rcases hput m b h with ⟨rfl, rfl⟩ | ⟨hmn, hl⟩
          · rw [if_pos rfl] at hk'
            rcases List.mem_append.1 hk' with hk' | hk' <;> simp [hk']
          · rw [if_neg hmn] at hk'; simp [sc.inR m b k' hl hk']
        · intro m m' b b' k' h h' hk' hk''
          rcases hput m b h with ⟨e1, _⟩ | ⟨hmn, hl⟩ <;> rcases hput m' b' h' with ⟨e2, _⟩ | ⟨hmn', hl'⟩
          · rw [e1, e2]
          · rw [if_pos e1] at hk'; rw [if_neg hmn'] at hk''
            exact ((hmem k' hk').2 (sc.inF m' b' k' hl' hk'')).elim
          · rw [if_neg hmn] at hk'; rw [if_pos e2] at hk''
            exact ((hmem k' hk'').2 (sc.inF m b k' hl hk')).elim
          · rw [if_neg hmn] at hk'; rw [if_neg hmn'] at hk''
            exact sc.gc.dist m m' b b' k' hl hl' hk' hk''
/-- A map's block is turned: what else is known of it stays. -/
theorem entH_turn {κ : Type} {K : κ → Value → Prop} {row : Sh} {w w' : World} {lx : Bool} {b : Nat} (hw : ∀ k, k ≠ b → w'.heap[k]? = w.heap[k]?) {l : List (κ × Den row)} {es : List MapEntry} {F R : List Nat} (h : entH K (hold w lx row) l es F R) (hF : b ∉ F) (hR : b ∉ R) : entH K (hold w' lx row) l es F R :=
  entH_imp h fun d ys F' R' a c g => hold_kept _ row d ys F' R' g (fun k hk => hw k (fun e => hF (by rw [← e]; exact a k hk))) (fun k hk => hw k (fun e => hR (by rw [← e]; exact c k hk)))
theorem upd_run {P : Program} {w w' : World} {o : Oper} {a : Act} {ty : TypeId} {m k x : Operand} (ho : o.op = .mapUpdate ty m k x ∨ o.op = .insert ty m k x) (hr : (Instr.mapUpdate ty (a.eval m) (a.eval k) (a.eval x)).run P w = .ok () w') : (execOp a.eval o).run P w = .ok .skip w' := by
  rcases ho with ho | ho <;> simp [execOp, ho, hr]
theorem updH_ok {ty : TypeId} {m k x : Operand} {t : Operand → AV} {n i : Nat} {key row : Sh} {l : List (Den key × Den row)} {v : AV} (Gm : Gam W0 S E hp w) (ho : o.op = .mapUpdate ty m k x ∨ o.op = .insert ty m k x) (hm : conc E (t m) = some (a.eval m)) (hk : conc E (t k) = some (a.eval k)) (hx : conc E (t x) = some (a.eval x))
    (hn : t m = .mapr n) (hb : hp n = some (.mph true key row l i v)) (h : (effUpdH C.P ty n (t k) (t x) key row l i).get = some e) : OpOk C.P o a w W0 S E hp fr e := by
  unfold effUpdH at h
  split at h
  case h_2 => exact get_no h
  rename_i kt u z y hkt hy
  cases hf : keyFits C.P kt u key with
  | false => rw [hf] at h; exact get_no h
  | true =>
    rw [hf] at h
    obtain ⟨hc, h⟩ := T.get_when h
    obtain rfl := get_one h
    simp only [Bool.and_eq_true] at hc
    have hi := Nat.eq_of_beq_eq_true hc.2
    obtain ⟨el, ii, q1, q2, q3, q4⟩ := keyT_ok hkt
    have hkv := decK_bind hy hk
    obtain ⟨F, R, G⟩ := Gm
    obtain ⟨p, clk, es1, e0, es2, F1, R1, F2, R2, y', hp1, hV, h1, h2, h3, h4, h5, h6, h7⟩ := mph_at G hb hm hn
    obtain ⟨f1, f2, f3, f4⟩ := findNow_mph (es2 := es2) hf y h5 h2 h3 hc.1 hi
    obtain ⟨hF, hR⟩ := h7
    have hnd := G.nodup n _ hb
    rw [hF] at hnd
    have hnd := List.nodup_cons.1 hnd
    obtain ⟨g1, g2⟩ := MapKept.heap_set (o' := .map (es1 ++ ({ key := a.eval k, val := a.eval x, born := e0.born } : MapEntry) :: es2).toArray clk) h1
    have hbR : ∀ q, q ∈ R1 ++ R2 → p.block ≠ q := by
      intro q hq e1
      subst e1
      obtain ⟨o1, o2⟩ := G.old n _ p.block hb (by rw [hR]; exact hq)
      rcases G.feet n _ p.block hb (by rw [hF]; simp) with h | h
      · exact o2 h
      · omega
    refine OpOk.post' G (upd_run ho (w' := { w with heap := w.heap.setIfInBounds p.block (.map (es1 ++ ({ key := a.eval k, val := a.eval x, born := e0.born } : MapEntry) :: es2).toArray clk) }) ?_) rfl
      (Post.turn (F1 := p.block :: (F1 ++ F2)) (R1 := R1 ++ R2) hb hp1 rfl rfl ⟨rfl, rfl, rfl, by simp, fun k' hk' hnk => g2 k' (fun e0 => hnk (by rw [hF, e0]; simp))⟩
        ⟨clk, es1, _, es2, F1, R1, F2, R2, y', g1, h2, ?_, hx, entH_turn g2 h5 (fun h => hnd.1 (by simp [h])) (fun h => hbR _ (List.mem_append_left _ h) rfl), entH_turn g2 h6 (fun h => hnd.1 (by simp [h])) (fun h => hbR _ (List.mem_append_right _ h) rfl), rfl, rfl⟩ (fun q hq => by rw [hF]; exact hq) (fun q hq => by rw [hR]; exact hq) ?_)
    · have hj : (es1 ++ e0 :: es2)[i]? = some e0 := by rw [List.getElem?_append_right (by omega), f2, Nat.sub_self]; rfl
      have hmod : (es1 ++ e0 :: es2).modify i (fun e => { e with key := a.eval k, val := a.eval x }) = es1 ++ ({ key := a.eval k, val := a.eval x, born := e0.born } : MapEntry) :: es2 := by
        rw [list_modify hj, List.set_append_right _ _ (by omega), f2, Nat.sub_self]
        rfl
      have hss : Instr.sameBits 10000 e0.key (a.eval k) = true := by
        rw [f3, ← hkv]
        have := (same_key hf y y).1
        have hyy : keyB key y y = true := keyB_self hf y
        rw [hyy] at this
        rw [hkv]
        exact sameBits_of (keyFits_simple hf) this 10000
      generalize hL : es1 ++ e0 :: es2 = L at *
      generalize hL' : es1 ++ ({ key := a.eval k, val := a.eval x, born := e0.born } : MapEntry) :: es2 = L' at *
      rw [hkv] at hss hmod ⊢
      simp [Instr.mapUpdate, Instr.keyThatStays, hV, run_underlying q1, MapKept.run_getObj_map h1, checkKey_simple q2 (keyFits_simple hf), MapKept.run_findKey q2 f1, MapKept.run_setObj_map _ h1, hj, hss, hmod]
    · show keyH key y'.1 (a.eval k)
      rw [hkv, f4]; rfl
    · rw [List.nodup_cons]; exact hnd
theorem entH_one {κ : Type} {K : κ → Value → Prop} {α : Type} {Pp : α → List Value → List Nat → List Nat → Prop} {x : κ} {d : α} {e : MapEntry} {F R : List Nat} (h1 : K x e.key) (h2 : Pp d [e.val] F R) : entH K Pp [(x, d)] [e] F R :=
  ⟨e, [], F, [], R, [], rfl, (List.append_nil _).symm, (List.append_nil _).symm, h1, h2, rfl, rfl, rfl⟩
theorem updO_ok {ty : TypeId} {m k x : Operand} {t : Operand → AV} {n : Nat} {key row : Sh} {l : List (Den key × Den row)} (Gm : Gam W0 S E hp w) (ho : o.op = .mapUpdate ty m k x ∨ o.op = .insert ty m k x) (hm : conc E (t m) = some (a.eval m)) (hk : conc E (t k) = some (a.eval k)) (hx : conc E (t x) = some (a.eval x))
    (hn : t m = .mapr n) (hb : hp n = some (.obj true .map key row l)) (h : (effUpdO C.P ty n (t k) (t x) key row l hp).get = some e) : OpOk C.P o a w W0 S E hp fr e := by
  unfold effUpdO at h
  split at h
  case h_2 => exact get_no h
  rename_i kt u z y hkt hy
  cases hf : keyFits C.P kt u key with
  | false => rw [hf] at h; exact get_no h
  | true =>
    rw [hf, cond_true] at h
    obtain ⟨ga, hg, h⟩ := T.get_bindO h
    cases hc : (nodupB (n :: ga.2.1) && allRo hp ga.2.2) with
    | false => rw [hc] at h; exact get_no h
    | true =>
      rw [hc, cond_true] at h
      obtain rfl := get_one h
      simp only [Bool.and_eq_true] at hc
      have hc1 := nodupB_ok hc.1
      have hc2 := allRo_ok hc.2
      obtain ⟨el, ii, q1, q2, q3, q4⟩ := keyT_ok hkt
      have hkv := decK_bind hy hk
      obtain ⟨F, R, G⟩ := Gm
      obtain ⟨p, es, clk, F0, R0, hp1, hV, h1, h2, hF, hR⟩ := obj_at G hb hm hn
      obtain ⟨Fv, Rv, gv⟩ := (gat_ok G.toGc false row).1 [t x] [a.eval x] ga (concs_cons.2 ⟨_, [], hx, rfl, rfl⟩) hg
      have hnd := G.nodup n _ hb
      rw [hF] at hnd
      have hnd := List.nodup_cons.1 hnd
      have hFv : Fv.Nodup := gv.nodup (List.nodup_cons.1 hc1).2
      have hsep : ∀ k, k ∈ F n → k ∉ Fv := by
        intro k hk hk'
        obtain ⟨m', hm', s1, s2⟩ := gv.inF k hk'
        obtain ⟨b', hb'⟩ := Option.isSome_iff_exists.1 s1
        have := G.dist n m' _ b' k hb hb' hk s2
        subst this
        exact (List.nodup_cons.1 hc1).1 hm'
      have hRv : ∀ k, k ∈ Rv → ∃ m b, hp m = some b ∧ k ∈ R m := by
        intro k hk
        rcases gv.inR k hk with ⟨m', hm', s1, s2⟩ | ⟨m', hm', s1, s2⟩
        · obtain ⟨y, hy⟩ := hc2 m' hm'
          rw [ro_nil G.toGc hy] at s2
          simp only [List.not_mem_nil, false_or] at s2
          exact ⟨m', _, hy, s2⟩
        · obtain ⟨b', hb'⟩ := Option.isSome_iff_exists.1 s1
          exact ⟨m', b', hb', s2⟩
      have hbold : ∀ q m b, hp m = some b → q ∈ R m → p.block ≠ q := by
        intro q m b hm hq e1
        subst e1
        obtain ⟨o1, o2⟩ := G.old m _ p.block hm hq
        rcases G.feet n _ p.block hb (by rw [hF]; simp) with h | h
        · exact o2 h
        · omega
      have hbFv : p.block ∉ Fv := hsep _ (by rw [hF]; simp)
      have hbR0 : p.block ∉ R0 := fun h => hbold _ n _ hb (by rw [hR]; exact h) rfl
      have hbRv : p.block ∉ Rv := fun h => by obtain ⟨m', b', g1, g2⟩ := hRv _ h; exact hbold _ m' b' g1 g2 rfl
      have fin : ∀ (es' : Array MapEntry) (clk' : Nat) (Fd Rd : List Nat), (Instr.mapUpdate ty (a.eval m) (a.eval k) (a.eval x)).run C.P w = .ok () { w with heap := w.heap.setIfInBounds p.block (.map es' clk') } →
          (∀ w' : World, (∀ k, k ≠ p.block → w'.heap[k]? = w.heap[k]?) → entH (keyH key) (hold w' false row) (putK (keyB key) l y ga.1) es'.toList Fd Rd) → (∀ k ∈ Fd, k ∈ F0 ∨ k ∈ Fv) → (∀ k ∈ Rd, k ∈ R0 ∨ k ∈ Rv) → Fd.Nodup →
          OpOk C.P o a w W0 S E hp fr { val := .v undef, reads := n :: (ga.2.1 ++ ga.2.2), upd := (n, some (.obj true .map key row (putK (keyB key) l y ga.1))) :: spent ga.2.1 } := by
        intro es' clk' Fd Rd hrun hent hFd hRd hnd'
        obtain ⟨g1, g2⟩ := MapKept.heap_set (o' := .map es' clk') h1
        have hput : ∀ m b, lookO (Eff.put { val := .v undef, reads := n :: (ga.2.1 ++ ga.2.2), upd := (n, some (.obj true .map key row (putK (keyB key) l y ga.1))) :: spent ga.2.1 }) m = some (some b) → m = n ∧ b = .obj true .map key row (putK (keyB key) l y ga.1) := by
          intro m b h
          simp only [Eff.put, List.append_nil, lookO] at h
          cases hb1 : Nat.beq n m with
          | true => rw [hb1] at h; simp at h; exact ⟨(Nat.eq_of_beq_eq_true hb1).symm, h.symm⟩
          | false => rw [hb1] at h; have := (lookO_spent h).2; cases this
        have htouch : ∀ k, k ∈ F n ∨ k ∈ Fv → touched hp F { val := .v undef, reads := n :: (ga.2.1 ++ ga.2.2), upd := (n, some (.obj true .map key row (putK (keyB key) l y ga.1))) :: spent ga.2.1 } k := by
          rintro k (hk | hk)
          · exact ⟨n, _, by simp [lookO], hb, hk⟩
          · obtain ⟨m', hm', s1, s2⟩ := gv.inF k hk
            obtain ⟨b', hb'⟩ := Option.isSome_iff_exists.1 s1
            refine ⟨m', b', ?_, hb', s2⟩
            simp only [lookO]
            cases hq : Nat.beq n m' with
            | true => rfl
            | false => simp [lookO_spent_of hm']
        refine OpOk.post' G (upd_run ho hrun) rfl (F' := fun _ => p.block :: Fd) (R' := fun _ => Rd) ⟨E.le_refl, fun m h h' => (h' h).elim, ⟨rfl, rfl, rfl, by simp, fun k' hk' hnk => g2 k' (fun e0 => hnk (htouch k' (.inl (by rw [hF, e0]; simp))))⟩, ?_, ?_, ?_, ?_, ?_⟩
        · intro m b h
          obtain ⟨rfl, rfl⟩ := hput m b h
          exact ⟨p, hp1, p.block, es', clk', Fd, Rd, rfl, g1, hent _ g2, rfl, rfl⟩
        · intro m b h
          rw [List.nodup_cons]
          refine ⟨fun hk => ?_, hnd'⟩
          rcases hFd _ hk with h | h
          · exact hnd.1 h
          · exact hbFv h
        · intro m b k' h hk'
          left
          rcases List.mem_cons.1 hk' with rfl | hk'
          · exact htouch _ (.inl (by rw [hF]; simp))
          · rcases hFd _ hk' with h | h
            · exact htouch _ (.inl (by rw [hF]; simp [h]))
            · exact htouch _ (.inr h)
        · intro m b k' h hk'
          left
          rcases hRd _ hk' with h | h
          · exact ⟨n, _, hb, by rw [hR]; exact h⟩
          · exact hRv _ h
        · intro m m' b b' k' h h' _ _
          rw [(hput m b h).1, (hput m' b' h').1]
      have hvd : ∀ w' : World, (∀ k, k ≠ p.block → w'.heap[k]? = w.heap[k]?) → hold w' false row ga.1 [a.eval x] Fv Rv := fun w' hw => hold_kept _ row _ _ _ _ gv.data (fun k hk => hw k (fun e => hbFv (e ▸ hk))) (fun k hk => hw k (fun e => hbRv (e ▸ hk)))
      obtain ⟨g1, g2⟩ := findNow_data hf y 0 h2
      cases hh : hasK (keyB key) l y with
      | false =>
        have hd : putK (keyB key) l y ga.1 = l ++ [(y, ga.1)] := by unfold putK; rw [hh]
        refine fin (es.push { key := a.eval k, val := a.eval x, born := clk }) (clk + 1) (F0 ++ Fv) (R0 ++ Rv) ?_ (fun w' hw => ?_) (fun k hk => List.mem_append.1 hk) (fun k hk => List.mem_append.1 hk) ?_
        · have hfk := g1 hh
          rw [hkv]
          simp [Instr.mapUpdate, hV, run_underlying q1, MapKept.run_getObj_map h1, checkKey_simple q2 (keyFits_simple hf), MapKept.run_findKey q2 hfk, MapKept.run_setObj_map _ h1]
        · rw [hd, Array.toList_push]
          exact entH_append (entH_turn hw h2 (fun h => hnd.1 h) hbR0) (entH_one (by rw [hkv]; rfl) (hvd w' hw))
        · rw [List.nodup_append]
          refine ⟨hnd.2, hFv, fun c hc d hd e => ?_⟩
          subst e
          exact hsep c (by rw [hF]; simp [hc]) hd
      | true =>
        obtain ⟨e0, y', k1, k2, k3, k4, k5⟩ := g2 hh
        have hlt := (List.getElem?_eq_some_iff.1 k2).1
        have hd : putK (keyB key) l y ga.1 = l.take (posK (keyB key) l y) ++ (y, ga.1) :: l.drop (posK (keyB key) l y + 1) := by
          unfold putK; rw [hh]
          simp only
          rw [List.set_eq_take_append_cons_drop, if_pos hlt]
        obtain ⟨es1, e1, es2, F1, F2, F3, R1, R2, R3, hes, rfl, rfl, l1, d1, d2, d3, d4⟩ := entH_at h2 k2
        have he01 : e0 = e1 := by
          rw [hes, List.getElem?_append_right (by omega), l1, Nat.sub_self] at k1
          simpa using k1.symm
        subst he01
        have hnd1 := List.nodup_append.1 hnd.2
        have hnd2 := List.nodup_append.1 hnd1.2.1
        have hmod : es.modify (posK (keyB key) l y) (fun e => { e with key := a.eval k, val := a.eval x }) = (es1 ++ ({ key := a.eval k, val := a.eval x, born := e0.born } : MapEntry) :: es2).toArray := by
          apply Array.toList_inj.1
          rw [Array.toList_modify, list_modify k1, hes, List.set_append_right _ _ (by omega), l1, Nat.sub_self]
          rfl
        refine fin ((es1 ++ ({ key := a.eval k, val := a.eval x, born := e0.born } : MapEntry) :: es2).toArray) clk (F1 ++ (Fv ++ F3)) (R1 ++ (Rv ++ R3)) ?_ (fun w' hw => ?_) (fun k hk => ?_) (fun k hk => ?_) ?_
        · have hsk : Instr.sameNow u (encK key y) (encK key y) = some true := by rw [(same_key hf y y).1, keyB_self hf]
          have hss : Instr.sameBits 10000 e0.key (a.eval k) = true := by
            rw [k4, hkv]; exact sameBits_of (keyFits_simple hf) hsk 10000
          have hj : es[posK (keyB key) l y]? = some e0 := by rw [← Array.getElem?_toList]; exact k1
          rw [Nat.zero_add] at k3
          rw [← hmod]
          rw [hkv] at hss ⊢
          simp [Instr.mapUpdate, Instr.keyThatStays, hV, run_underlying q1, MapKept.run_getObj_map h1, checkKey_simple q2 (keyFits_simple hf), MapKept.run_findKey q2 k3, MapKept.run_setObj_map _ h1, hj, hss]
        · rw [hd]
          refine entH_append (entH_turn hw d1 (fun h => hnd.1 (by simp [h])) (fun h => hbR0 (by simp [h]))) ?_
          exact ⟨_, es2, Fv, F3, Rv, R3, rfl, rfl, rfl, by rw [hkv]; rfl, hvd w' hw, entH_turn hw d4 (fun h => hnd.1 (by simp [h])) (fun h => hbR0 (by simp [h]))⟩
        · rcases List.mem_append.1 hk with hk | hk
          · exact .inl (by simp [hk])
          · rcases List.mem_append.1 hk with hk | hk
            · exact .inr hk
            · exact .inl (by simp [hk])
        · rcases List.mem_append.1 hk with hk | hk
          · exact .inl (by simp [hk])
          · rcases List.mem_append.1 hk with hk | hk
            · exact .inr hk
            · exact .inl (by simp [hk])
        · rw [List.nodup_append, List.nodup_append]
          refine ⟨hnd1.1, ⟨hFv, hnd2.2.1, fun c hc d hd e => ?_⟩, fun c hc d hd e => ?_⟩
          · subst e; exact hsep c (by rw [hF]; simp [hd]) hc
          · subst e
            rcases List.mem_append.1 hd with hd | hd
            · exact hsep c (by rw [hF]; simp [hc]) hd
            · exact hnd1.2.2 c hc c (by simp [hd]) rfl
theorem update_ok {ty : TypeId} {m k x : Operand} {t : Operand → AV} (G : Gam W0 S E hp w) (ho : o.op = .mapUpdate ty m k x ∨ o.op = .insert ty m k x)
    (hm : conc E (t m) = some (a.eval m)) (hk : conc E (t k) = some (a.eval k)) (hx : conc E (t x) = some (a.eval x))
    (h : (effUpdate C.P ty (t m) (t k) (t x) hp).get = some e) : OpOk C.P o a w W0 S E hp fr e := by
  unfold effUpdate at h
  split at h
  · rename_i n hmn
    split at h
    · rename_i key row l hb
      exact updO_ok G ho hm hk hx hmn hb h
    · rename_i key row l i v hb
      exact updH_ok G ho hm hk hx hmn hb h
    · exact update0_ok G ho hm hk hx h
  · exact update0_ok G ho hm hk hx h
theorem delO_ok {ty : TypeId} {m k : Operand} {as : Array Operand} {ts : Array TypeId} {tr : List TypeId} {t : Operand → AV} {n : Nat} {key row : Sh} {l : List (Den key × Den row)} (Gm : Gam W0 S E hp w) (ho : o.op = .call ⟨.builtin .delete, as, ts⟩) (has : as = #[m, k]) (hts : ts = (ty :: tr).toArray)
    (hm : conc E (t m) = some (a.eval m)) (hk : conc E (t k) = some (a.eval k)) (hn : t m = .mapr n) (hb : hp n = some (.obj true .map key row l)) (h : (effDelO C.P ty n (t k) key row l).get = some e) : OpOk C.P o a w W0 S E hp fr e := by
  subst has hts
  unfold effDelO at h
  split at h
  case h_2 => exact get_no h
  rename_i kt u z y hkt hy
  cases hf : keyFits C.P kt u key with
  | false => rw [hf] at h; exact get_no h
  | true =>
    rw [hf, cond_true] at h
    obtain rfl := get_one h
    obtain ⟨el, ii, q1, q2, q3, q4⟩ := keyT_ok hkt
    have hkv := decK_bind hy hk
    obtain ⟨F, R, G⟩ := Gm
    obtain ⟨p, es, clk, F0, R0, hp1, hV, h1, h2, hF, hR⟩ := obj_at G hb hm hn
    have hnd := G.nodup n _ hb
    rw [hF] at hnd
    have hnd := List.nodup_cons.1 hnd
    have hbR0 : p.block ∉ R0 := by
      intro hq
      obtain ⟨o1, o2⟩ := G.old n _ p.block hb (by rw [hR]; exact hq)
      rcases G.feet n _ p.block hb (by rw [hF]; simp) with h | h
      · exact o2 h
      · omega
    have fin : ∀ (es' : Array MapEntry) (Fd Rd : List Nat), (execOp a.eval o).run C.P w = .ok (.value (.tuple #[])) { w with heap := w.heap.setIfInBounds p.block (.map es' clk) } →
        (∀ w' : World, (∀ k, k ≠ p.block → w'.heap[k]? = w.heap[k]?) → entH (keyH key) (hold w' false row) (delK (keyB key) l y) es'.toList Fd Rd) → (∀ k ∈ Fd, k ∈ F0) → (∀ k ∈ Rd, k ∈ R0) → Fd.Nodup →
        OpOk C.P o a w W0 S E hp fr { val := .v (.tuple #[]), reads := [n], upd := [(n, some (.obj true .map key row (delK (keyB key) l y)))] } := by
      intro es' Fd Rd hrun hent hFd hRd hnd'
      obtain ⟨g1, g2⟩ := MapKept.heap_set (o' := .map es' clk) h1
      exact OpOk.post G hrun (by simp [conc]) (Post.turn (F1 := p.block :: Fd) (R1 := Rd) hb hp1 rfl rfl ⟨rfl, rfl, rfl, by simp, fun k' hk' hnk => g2 k' (fun e0 => hnk (by rw [hF, e0]; simp))⟩
        ⟨p.block, es', clk, Fd, Rd, rfl, g1, hent _ g2, rfl, rfl⟩ (fun q hq => by rw [hF]; exact (List.mem_cons.1 hq).elim (fun h => by rw [h]; exact List.mem_cons_self) (fun h => List.mem_cons_of_mem _ (hFd q h))) (fun q hq => by rw [hR]; exact hRd q hq) (by rw [List.nodup_cons]; exact ⟨fun h => hnd.1 (hFd _ h), hnd'⟩))
    obtain ⟨g1, g2⟩ := findNow_data hf y 0 h2
    cases hh : hasK (keyB key) l y with
    | false =>
      have hd : delK (keyB key) l y = l := by
        unfold delK
        refine List.eraseIdx_of_length_le ?_
        unfold posK
        rw [List.findIdx_eq_length_of_false]
        · exact Nat.le_refl _
        · intro z hz
          simp only [hasK, List.any_eq_false] at hh
          simpa using hh z hz
      refine fin es F0 R0 ?_ (fun w' hw => ?_) (fun k hk => hk) (fun k hk => hk) hnd.2
      · have hfk := g1 hh
        simp [execOp, ho, resolve, invoke, builtin, Builtin.delete_, hV, hkv, run_underlying q1, MapKept.run_getObj_map h1, checkKey_simple q2 (keyFits_simple hf), MapKept.run_findKey q2 hfk, MapKept.run_setObj_map _ h1]
      · rw [hd]; exact entH_turn hw h2 (fun h => hnd.1 h) hbR0
    | true =>
      obtain ⟨e0, y', k1, k2, k3, k4, k5⟩ := g2 hh
      have hlt := (List.getElem?_eq_some_iff.1 k2).1
      obtain ⟨es1, e1, es2, F1, F2, F3, R1, R2, R3, hes, rfl, rfl, l1, d1, d2, d3, d4⟩ := entH_at h2 k2
      have hd : delK (keyB key) l y = l.take (posK (keyB key) l y) ++ l.drop (posK (keyB key) l y + 1) := by
        unfold delK; rw [List.eraseIdx_eq_take_drop_succ]
      have hnd1 := List.nodup_append.1 hnd.2
      have hnd2 := List.nodup_append.1 hnd1.2.1
      have her : es.eraseIdxIfInBounds (posK (keyB key) l y) = (es1 ++ es2).toArray := by
        apply Array.toList_inj.1
        rw [Array.toList_eraseIdxIfInBounds, hes, List.eraseIdx_append_of_length_le (by omega), l1, Nat.sub_self]
        rfl
      refine fin ((es1 ++ es2).toArray) (F1 ++ F3) (R1 ++ R3) ?_ (fun w' hw => ?_) (fun k hk => ?_) (fun k hk => ?_) ?_
      · rw [Nat.zero_add] at k3
        simp [execOp, ho, resolve, invoke, builtin, Builtin.delete_, hV, hkv, run_underlying q1, MapKept.run_getObj_map h1, checkKey_simple q2 (keyFits_simple hf), MapKept.run_findKey q2 k3, MapKept.run_setObj_map _ h1, her]
      · rw [hd]
        exact entH_append (entH_turn hw d1 (fun h => hnd.1 (by simp [h])) (fun h => hbR0 (by simp [h]))) (entH_turn hw d4 (fun h => hnd.1 (by simp [h])) (fun h => hbR0 (by simp [h])))
      · rcases List.mem_append.1 hk with hk | hk <;> simp [hk]
      · rcases List.mem_append.1 hk with hk | hk <;> simp [hk]
      · rw [List.nodup_append]
        exact ⟨hnd1.1, hnd2.2.1, fun c hc d hd => hnd1.2.2 c hc d (by simp [hd])⟩
theorem delete_ok {ty : TypeId} {m k : Operand} {as : Array Operand} {ts : Array TypeId} {tr : List TypeId} {t : Operand → AV} (G : Gam W0 S E hp w) (ho : o.op = .call ⟨.builtin .delete, as, ts⟩) (has : as = #[m, k]) (hts : ts = (ty :: tr).toArray)
    (hm : conc E (t m) = some (a.eval m)) (hk : conc E (t k) = some (a.eval k)) (h : (effDelete C.P ty (t m) (t k) hp).get = some e) : OpOk C.P o a w W0 S E hp fr e := by
  unfold effDelete at h
  split at h
  · rename_i n hmn
    split at h
    · rename_i key row l hb
      exact delO_ok G ho has hts hm hk hmn hb h
    · exact delete0_ok G ho has hts hm hk h
  · exact delete0_ok G ho has hts hm hk h
theorem lookup_ok {ty : TypeId} {m k : Operand} {ok : Bool} {t : Operand → AV} (G : Gam W0 S E hp w) (ho : o.op = .lookup ty m k ok) (hm : conc E (t m) = some (a.eval m)) (hk : conc E (t k) = some (a.eval k))
    (hfr : ∀ n, fr ≤ n → n < fr + e.nn → E n = none) (h : (effLookup C.P ty (t m) (t k) ok hp fr).get = some e) : OpOk C.P o a w W0 S E hp fr e := by
  unfold effLookup at h
  split at h
  · rename_i n hmn
    split at h
    · rename_i own key row l hb
      exact lookO_ok G ho hm hk hmn hb hfr h
    · rename_i own key row l i v hb
      exact lookH_ok G ho hm hk hmn hb h
    · exact lookup0_ok G ho hm hk h
  · exact lookup0_ok G ho hm hk h
end
/-! ### Rows overwritten -/
/-- Cells stored into a row of one's own. -/
theorem cells_put {P : Program} {w W0 : World} {S : Reg} {E : Env} {hp : Nat → Option AB} {F R : Nat → List Nat} {n r of : Nat} {pn : Pl} {z z' : M} {us : List Value} (G : Gf W0 S E hp w F R) (hpn : E n = some pn) (hb : hp n = some (.own z)) (hones : ∀ u ∈ us, u.oneCell' = true)
    (hz : ∀ vs F0 R0, z.reads E w false vs F0 R0 → vs.length = z.len * z.size → z'.e = z.e ∧ z'.size = z.size ∧ z'.len = z.len ∧ (∀ E' p, z.links E' p → z'.links E' p) ∧ (us = [] ∨ r * z.size + of + us.length ≤ vs.length) ∧ z'.reads E w false (vs.take (r * z.size + of) ++ us ++ vs.drop (r * z.size + of + us.length)) F0 R0) :
    ∃ w' F1 R1, (us ≠ [] → pn.nil = false) ∧ (storeCells (pn.addr r of) us 0).run P w = .ok () w' ∧ (us = [] → w' = w) ∧ ∀ lo (e : Eff), e.upd = [(n, some (.own z'))] → e.news = [] → Post E hp w F R lo e E w' (fun _ => F1) (fun _ => R1) := by
  obtain ⟨p, hp1, hh⟩ := G.holds n _ hb
  have hnd := G.nodup n _ hb
  obtain ⟨hlk, vs, F0, R0, hr, hbox⟩ := hh
  obtain ⟨c1, c2, c3, c4, c5⟩ := boxH_cells hbox
  rw [hpn] at hp1
  cases hp1
  obtain ⟨m1, m2, m3, m4, m5, m6⟩ := hz vs F0 R0 hr c3
  obtain ⟨hrow, hF, hR⟩ := hbox
  have kept_ : ∀ {w' : World} {vs' : List Value}, Fr (fun i => i = pn.block) w w' → pn.nil = false → z'.reads E w false vs' F0 R0 → z'.reads E w' false vs' F0 R0 := by
    intro w' vs' q3 hnil h
    have lt := M.reads_lt h
    refine M.reads_kept E.le_refl h (fun k hk => q3.block k (lt.1 k hk) ?_) (fun k hk => q3.block k (lt.2 k hk) ?_)
    · intro e0
      rw [hF, List.nodup_append] at hnd
      exact hnd.2.2 k (by rw [e0]; simp [blkO, hnil]) k hk rfl
    · intro e0
      have hkF : k ∈ F n := by rw [hF, e0]; simp [blkO, hnil]
      have hkR : k ∈ R n := by rw [hR]; exact hk
      rcases G.feet n _ k hb hkF with h5 | h5
      · exact (G.old n _ k hb hkR).2 h5
      · have := (G.old n _ k hb hkR).1; omega
  by_cases hz0 : us = []
  · subst hz0
    have e1 : vs.take (r * z.size + of) ++ ([] : List Value) ++ vs.drop (r * z.size + of + 0) = vs := by simp
    simp only [List.length_nil] at m6
    rw [e1] at m6
    exact ⟨w, _, _, fun h => (h rfl).elim, by simp [storeCells], fun _ => rfl, fun lo e hu hn => Post.turn hb hpn hu hn ⟨rfl, rfl, rfl, Nat.le_refl _, fun _ _ _ => rfl⟩ ⟨m4 _ _ hlk, vs, F0, R0, m6, by rw [m1, m2, m3]; exact ⟨hrow, hF, hR⟩⟩ (fun k hk => hk) (fun k hk => hk) hnd⟩
  · have hle : r * z.size + of + us.length ≤ vs.length := m5.resolve_left hz0
    have hnil : pn.nil = false := by
      cases hn : pn.nil with
      | false => rfl
      | true =>
        have := c4 hn
        rw [this, Nat.zero_mul] at c3
        have : 0 < us.length := List.length_pos_iff.2 hz0
        omega
    obtain ⟨w', q1, q2, q3⟩ := store_row (P := P) (off := r * z.size + of) hrow hnil (by rw [← c3]; exact hle) hones
    have haddr : pn.addr r of = ⟨pn.block, pn.base + (r * z.size + of), none⟩ := by simp [Pl.addr, c1, Nat.add_assoc]
    exact ⟨w', _, _, fun _ => hnil, by rw [haddr]; exact q1, fun h => (hz0 h).elim, fun lo e hu hn => Post.turn hb hpn hu hn (q3.mono (fun k hk => by rw [hF, hk]; simp [blkO, hnil])) ⟨m4 _ _ hlk, _, F0, R0, kept_ q3 hnil m6, by rw [m1, m2, m3]; exact ⟨q2, hF, hR⟩⟩ (fun k hk => hk) (fun k hk => hk) hnd⟩
theorem over_ok {E : Env} {hp : Nat → Option AB} {w : World} {F R : Nat → List Nat} (G : Gc E hp w F R) {y z y' : M} {r o : Nat} {us : List Value} {Fz Rz : List Nat} (hz : z.reads E w false us Fz Rz) (h : (y.over hp r o z).get = some y') :
    (∀ u ∈ us, u.oneCell' = true) ∧ ∀ vs F0 R0, y.reads E w false vs F0 R0 → vs.length = y.len * y.size → y'.e = y.e ∧ y'.size = y.size ∧ y'.len = y.len ∧ (∀ E' p, y.links E' p → y'.links E' p) ∧ (us = [] ∨ r * y.size + o + us.length ≤ vs.length) ∧ y'.reads E w false (vs.take (r * y.size + o) ++ us ++ vs.drop (r * y.size + o + us.length)) F0 R0 := by
  unfold M.over at h
  split at h
  · rename_i e s cs e' s' ds
    cases ha : allOne ds with
    | false => rw [ha] at h; exact get_none h
    | true =>
      rw [ha] at h
      obtain ⟨hc, rfl, rfl⟩ := hz
      exact ⟨ones_conc hc ha, fun vs F0 R0 hy hvl => M.put_ok hy hc hvl h⟩
  · rename_i e sh l
    cases hb : (sh.flat && sh.mem && Nat.beq o 0 && z.canMove) with
    | false => rw [hb] at h; exact get_none h
    | true =>
      rw [hb] at h
      simp only [cond_true] at h
      simp only [Bool.and_eq_true] at hb
      obtain ⟨⟨⟨hfl, hmem⟩, ho⟩, hmv⟩ := hb
      have ho := Nat.eq_of_beq_eq_true ho
      subst ho
      obtain ⟨p, hp1, h⟩ := T.get_bindO h
      obtain ⟨hd, h⟩ := T.get_when h
      have hd : r + p.1.length ≤ l.length := by simpa using hd
      simp only [T.get, Option.some.injEq] at h
      subst h
      obtain ⟨j1, j2⟩ := gat_ok G false sh
      obtain ⟨a1, a2, _, Fp, Rp, gp⟩ := gatM_ok G (.inl rfl) j1 j2 hz hp1
      have hdata := gp.data
      obtain ⟨rfl, rfl, _⟩ := rowsH_flat hfl hdata
      refine ⟨rowsH_ones (fun d ys F R h => hold_ones false sh d ys F R hmem h) hdata, fun vs F0 R0 hy hvl => ?_⟩
      have hus := rowsH_length (s := sh.size) (fun d ys F R h => hold_length false sh d ys F R h) hdata
      have hy : rowsH (hold w false sh) l vs F0 R0 := hy
      obtain ⟨rfl, rfl, _⟩ := rowsH_flat hfl hy
      have hvl : vs.length = l.length * sh.size := hvl
      have hle : (r + p.1.length) * sh.size ≤ l.length * sh.size := Nat.mul_le_mul_right _ hd
      rw [Nat.add_mul] at hle
      refine ⟨rfl, rfl, by simp [M.len]; omega, fun _ _ _ => trivial, .inr ?_, ?_⟩
      · simp only [M.size]; omega
      · show rowsH _ (l.take r ++ p.1 ++ l.drop (r + p.1.length)) _ _ _
        have hl : l = l.take r ++ ((l.drop r).take p.1.length ++ l.drop (r + p.1.length)) := by
          rw [← List.drop_drop, List.take_append_drop, List.take_append_drop]
        rw [hl] at hy
        obtain ⟨v1, v23, F1, F2, R1, R2, rfl, hF, hR, g1, g2⟩ := rowsH_append.1 hy
        obtain ⟨v2, v3, F3, F4, R3, R4, rfl, hF', hR', g3, g4⟩ := rowsH_append.1 g2
        have l1 := rowsH_length (s := sh.size) (fun d ys F R h => hold_length false sh d ys F R h) g1
        have l3 := rowsH_length (s := sh.size) (fun d ys F R h => hold_length false sh d ys F R h) g3
        rw [List.length_take, Nat.min_eq_left (by omega)] at l1
        rw [List.length_take, List.length_drop, Nat.min_eq_left (by omega)] at l3
        obtain ⟨rfl, rfl, _⟩ := rowsH_flat hfl g1
        obtain ⟨rfl, rfl, _⟩ := rowsH_flat hfl g4
        have e1 : (v1 ++ (v2 ++ v3)).take (r * sh.size + 0) = v1 := by rw [Nat.add_zero, ← l1, List.take_left]
        have e2 : (v1 ++ (v2 ++ v3)).drop (r * sh.size + 0 + us.length) = v3 := by
          rw [Nat.add_zero, ← l1, List.drop_length_add_append, hus, ← l3, List.drop_left]
        simp only [M.size]
        rw [e1, e2]
        exact rowsH_append.2 ⟨v1 ++ us, v3, [], [], [], [], rfl, rfl, rfl, rowsH_append.2 ⟨v1, us, [], [], [], [], rfl, rfl, rfl, g1, hdata⟩, g4⟩
  · exact get_none h
theorem zerosM_ok {E : Env} {w : World} {y zs : M} {ie : TypeInfo} {z : Value} {n : Nat} (hzs : z.cells.size = ie.size) (h : zerosM y ie z n = some zs) : zs.reads E w false ((Array.range (n * z.cells.size)).map (z.cells[· % z.cells.size]!)).toList [] [] := by
  unfold zerosM at h
  split at h
  · rename_i e sh l
    unfold madeRows at h
    cases hc : (sh.flat && Nat.beq sh.size ie.size && sh.mem) with
    | false => rw [hc] at h; cases h
    | true =>
      rw [hc] at h
      simp only [cond_true] at h
      split at h
      case h_2 => cases h
      rename_i d hdec
      simp only [Option.some.injEq] at h
      subst h
      have h0 := decF_ok (w := w) (lx := false) (E := E) sh _ d _ hdec (concs_plain z.cells.toList)
      show rowsH _ (List.replicate n d) _ _ _
      rw [Array.toList_map, Array.toList_range]
      exact rowsH_replicate h0 n
  · cases h
    rw [← hzs]
    exact ⟨zerosOf_conc _ _, rfl, rfl⟩
  · cases h
section
variable {C : Cx} {o : Oper} {a : Act} {w W0 : World} {S : Reg} {E : Env} {hp : Nat → Option AB} {fr : Nat} {e : Eff}
theorem clear_ok {ty : TypeId} {x : Operand} {as : Array Operand} {ts : Array TypeId} {t : Operand → AV} (G : Gam W0 S E hp w) (ho : o.op = .call ⟨.builtin .clear, as, ts⟩) (has : as = #[x]) (hts : ts = #[ty])
    (hx : conc E (t x) = some (a.eval x)) (h : (effClear C.P ty (t x) hp).get = some e) : OpOk C.P o a w W0 S E hp fr e := by
  subst has hts
  unfold effClear at h
  split at h
  · rename_i el a0 c0 hu htx
    rw [htx] at hx
    simp only [conc, Option.some.injEq] at hx
    obtain rfl := get_one h
    refine OpOk.value G (V := .tuple #[]) ?_ rfl rfl rfl
    cases a0 <;> simp [execOp, ho, resolve, invoke, builtin, Builtin.clear_, ← hx, run_underlying hu]
  · rename_i el n r0 r hu htx
    rw [htx] at hx
    simp only [conc, Option.map_eq_some_iff] at hx
    obtain ⟨p, _, hx⟩ := hx
    generalize (if p.cap = r then p.ptr r0 0 else p.ptr r 0) = a0 at hx
    obtain rfl := get_one h
    refine OpOk.value G (V := .tuple #[]) ?_ rfl rfl rfl
    cases a0 <;> simp [execOp, ho, resolve, invoke, builtin, Builtin.clear_, ← hx, run_underlying hu]
  · rename_i el n r of len c hu htx
    rw [htx] at hx
    split at h
    case h_2 => exact get_no h
    rename_i ie hie
    split at h
    case h_2 => exact get_no h
    rename_i z hz
    cases hb : (Nat.blt 0 ie.size && Nat.beq z.cells.size ie.size) with
    | false => rw [hb] at h; exact get_no h
    | true =>
      rw [hb] at h
      simp only [cond_true] at h
      simp only [Bool.and_eq_true] at hb
      have hpos : 0 < ie.size := by simpa using hb.1
      have hzs := Nat.eq_of_beq_eq_true hb.2
      split at h
      case h_2 => exact get_no h
      rename_i y hy
      split at h
      case h_2 => exact get_no h
      rename_i zs hzz
      obtain ⟨y', hov, rfl⟩ := T.get_mapO h
      obtain ⟨F, R, Gx⟩ := G
      obtain ⟨p, hp1, _⟩ := Gx.holds n _ hy
      simp only [conc, hp1, Option.map_some, Option.some.injEq] at hx
      obtain ⟨h1, h2⟩ := over_ok Gx.toGc (zerosM_ok (E := E) (w := w) hzs hzz) hov
      obtain ⟨w', F1, R1, q0, q1, q2, q3⟩ := cells_put (P := C.P) Gx hp1 hy h1 h2
      refine OpOk.post Gx (V := .tuple #[]) ?_ (by simp [conc]) (q3 fr _ rfl rfl)
      by_cases hlen : len = 0
      · have hw := q2 (by rw [hlen]; simp)
        subst hw
        rw [hlen] at hx
        cases hA : p.ptr r of <;> simp [execOp, ho, resolve, invoke, builtin, Builtin.clear_, ← hx, hA, run_underlying hu]
      · have hne : ((Array.range (len * z.cells.size)).map (z.cells[· % z.cells.size]!)).toList ≠ [] := by
          intro h0
          have := congrArg List.length h0
          simp only [Array.toList_map, Array.toList_range, List.length_map, List.length_range, List.length_nil] at this
          rw [hzs] at this
          have := Nat.mul_pos (Nat.pos_of_ne_zero hlen) hpos
          omega
        have hptr : p.ptr r of = some (p.addr r of) := by simp [Pl.ptr, q0 hne]
        have hzc : Builtin.zeroCells z.cells len = (Array.range (len * z.cells.size)).map (z.cells[· % z.cells.size]!) := rfl
        rw [hptr] at hx
        rw [Array.toList_map, Array.toList_range] at q1
        simp only [execOp, ho, resolve, invoke, builtin, Builtin.clear_]
        simp [← hx, run_underlying hu, run_zero hie hz, hzc, q1, hlen]
  · exact get_no h
theorem firstCells_any {size k : Nat} {A : Option Addr} {l l' c c' : Nat} : Builtin.firstCells size k (.slice A l c) = Builtin.firstCells size k (.slice A l' c') := by cases A <;> rfl
theorem copy_ok {ty : TypeId} {tr : List TypeId} {d x : Operand} {as : Array Operand} {ts : Array TypeId} {t : Operand → AV} (G : Gam W0 S E hp w) (ho : o.op = .call ⟨.builtin .copy, as, ts⟩) (has : as = #[d, x]) (hts : ts = (ty :: tr).toArray)
    (hd : conc E (t d) = some (a.eval d)) (hx : conc E (t x) = some (a.eval x)) (h : (effCopy C.P ty (t d) (t x) hp).get = some e) : OpOk C.P o a w W0 S E hp fr e := by
  subst has hts
  unfold effCopy at h
  split at h
  case h_2 => exact get_no h
  rename_i el n r of len c hu htd
  rw [htd] at hd
  split at h
  case h_2 => exact get_no h
  rename_i ie hie
  cases hb : Nat.blt 0 ie.size with
  | false => rw [hb] at h; exact get_no h
  | true =>
  rw [hb] at h
  simp only [cond_true] at h
  have hpos : 0 < ie.size := by simpa using hb
  split at h
  case h_2 => exact get_no h
  rename_i y hy
  obtain ⟨F, R, Gx⟩ := id G
  obtain ⟨p, hp1, _⟩ := Gx.holds n _ hy
  simp only [conc, hp1, Option.map_some, Option.some.injEq] at hd
  -- so many rows are copied
  have go : ∀ {k sl : Nat} {z : M} {ns : List Nat} {us : List Value} {Fz Rz : List Nat} {y' : M}, (Builtin.lenOf (a.eval x)).run C.P w = .ok sl w → Nat.min sl len = k → z.reads E w false us Fz Rz → us.length = k * ie.size → (Builtin.firstCells ie.size k (a.eval x)).run C.P w = .ok us.toArray w →
      (y.over hp r of z).get = some y' → e = { val := .v (goInt k), reads := n :: ns, upd := [(n, some (.own y'))] } → OpOk C.P o a w W0 S E hp fr e := by
    intro k sl z ns us Fz Rz y' hlo hk hz hul hfirst hov he
    subst he
    obtain ⟨h1, h2⟩ := over_ok Gx.toGc hz hov
    obtain ⟨w', F1, R1, q0, q1, q2, q3⟩ := cells_put (P := C.P) Gx hp1 hy h1 h2
    refine OpOk.post Gx (V := goInt k) ?_ (by simp [conc]) (q3 fr _ rfl rfl)
    have hrun : (Builtin.copy_ (ty :: tr).toArray o.type #[a.eval d, a.eval x]).run C.P w = .ok (goInt k) w' := by
      by_cases hne : us = []
      · have hw := q2 hne
        subst hw
        subst hne
        cases hA : p.ptr r of with
        | none =>
          rw [hA] at hd
          simp [Builtin.copy_, ← hd, run_underlying hu, hlo, hk, run_sizeOf hie, hfirst]
        | some A =>
          rw [hA] at hd
          simp [Builtin.copy_, ← hd, run_underlying hu, hlo, hk, run_sizeOf hie, hfirst, storeCells]
      · have hptr : p.ptr r of = some (p.addr r of) := by simp [Pl.ptr, q0 hne]
        rw [hptr] at hd
        simp [Builtin.copy_, ← hd, run_underlying hu, hlo, hk, run_sizeOf hie, hfirst, q1]
    simp only [execOp, ho, resolve, invoke, builtin]
    simp [hrun]
  split at h
  · rename_i n' r' o' len' c' htx
    rw [htx] at hx
    obtain ⟨⟨z, ns, sp⟩, hro, h⟩ := T.get_bindO h
    simp only at h
    split at h
    case h_2 => exact get_no h
    obtain ⟨y', hov, he⟩ := T.get_mapO h
    obtain ⟨q, hq, hx⟩ : ∃ q, E n' = some q ∧ (Value.slice (q.ptr r' o') len' (c'.getD (q.cap - r'))) = a.eval x := by
      simp only [conc, Option.map_eq_some_iff] at hx; exact hx
    have hx2 : conc E (.sl n' r' o' (Nat.min len' len) c') = some (.slice (q.ptr r' o') (Nat.min len' len) (c'.getD (q.cap - r'))) := by simp [conc, hq]
    obtain ⟨us, Fy, Ry, hk⟩ := rows_ok (P := C.P) hpos hx2 Gx hro
    have hzl : z.len = Nat.min len' len := by
      have := hk.lenOf w
      simpa [Builtin.lenOf] using this.symm
    refine go (sl := len') (k := Nat.min len' len) (by rw [← hx]; rfl) rfl hk.reads (by rw [← hzl]; exact hk.hlen) ?_ hov he.symm
    rw [← hx, ← hzl, firstCells_any (l' := Nat.min len' len) (c' := c'.getD (q.cap - r'))]
    exact hk.first w rfl
  · rename_i A len' c' htx
    rw [htx] at hx
    simp only [conc, Option.some.injEq] at hx
    obtain ⟨⟨z, ns, sp⟩, hro, h⟩ := T.get_bindO h
    simp only at h
    split at h
    case h_2 => exact get_no h
    obtain ⟨y', hov, he⟩ := T.get_mapO h
    obtain ⟨us, Fy, Ry, hk⟩ := rows_ok (P := C.P) (E := E) hpos (show conc E (.v (.slice A (Nat.min len' len) c')) = some (.slice A (Nat.min len' len) c') from rfl) Gx hro
    have hzl : z.len = Nat.min len' len := by
      have := hk.lenOf w
      simpa [Builtin.lenOf] using this.symm
    refine go (sl := len') (k := Nat.min len' len) (by rw [← hx]; rfl) rfl hk.reads (by rw [← hzl]; exact hk.hlen) ?_ hov he.symm
    rw [← hx, ← hzl, firstCells_any (l' := Nat.min len' len) (c' := c')]
    exact hk.first w rfl
  · rename_i n' r0 r1 htx
    rw [htx] at hx
    obtain rfl := get_one h
    simp only [conc, Option.map_eq_some_iff] at hx
    obtain ⟨q, _, hx⟩ := hx
    generalize (if q.cap = r1 then q.ptr r0 0 else q.ptr r1 0) = A at hx
    refine OpOk.value G (V := goInt 0) ?_ rfl rfl rfl
    have hrun : (Builtin.copy_ (ty :: tr).toArray o.type #[a.eval d, a.eval x]).run C.P w = .ok (goInt 0) w := by
      cases A <;> cases hA : p.ptr r of <;> rw [hA] at hd <;> simp [Builtin.copy_, ← hd, ← hx, run_underlying hu, run_sizeOf hie, Builtin.lenOf, Builtin.firstCells, loadCells, loadCellsFrom, storeCells]
    simp only [execOp, ho, resolve, invoke, builtin]
    simp [hrun]
  · rename_i b htx
    rw [htx] at hx
    simp only [conc, Option.some.injEq] at hx
    obtain ⟨hle, h⟩ := T.get_when h
    have hle : b.size ≤ len := by simpa using hle
    obtain ⟨⟨z, ns, sp⟩, hro, h⟩ := T.get_bindO h
    simp only at h
    split at h
    case h_2 => exact get_no h
    obtain ⟨y', hov, he⟩ := T.get_mapO h
    obtain ⟨us, Fy, Ry, hk⟩ := rows_ok (P := C.P) (E := E) hpos (show conc E (.v (.string b)) = some (.string b) from rfl) Gx hro
    have hzl : z.len = b.size := by
      have := hk.lenOf w
      simpa [Builtin.lenOf] using this.symm
    refine go (sl := b.size) (k := b.size) (by rw [← hx]; rfl) (Nat.min_eq_left hle) hk.reads (by rw [← hzl]; exact hk.hlen) ?_ hov he.symm
    rw [← hx, ← hzl]
    exact hk.first w rfl
  · exact get_no h
end
end Go.Proofs.YtpfbpcaehmhefaaDoorB.Sx
