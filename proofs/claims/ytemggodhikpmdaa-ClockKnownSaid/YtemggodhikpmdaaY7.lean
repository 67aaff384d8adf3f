/- The engine, part 7: every effect is sound, and looks at nothing but the names that it lists. -/
import Derived.Test.YtemggodhikpmdaaY6
namespace Go.Proofs.Ytemggodhikpmdaa.Sx
open Go.RowKit
set_option linter.unusedSimpArgs false
set_option linter.unusedVariables false

/-- A callee's summary is sound. -/
structure SpecOk (P : Program) (f : FuncId) (s : Spec) : Prop where
  fn : ∃ fn, P.funcs[f]? = some fn ∧ (fn.name == "runtime.NumGoroutine") = false ∧ fn.body.isNone = false
  loc : ∀ args lk lk' fr e, (s args lk fr).get = some e → (∀ n ∈ e.reads, lk' n = lk n) → (s args lk' fr).get = some e
  run : ∀ W0 S E hp w args vs fr e, Gam W0 S E hp w → (s args hp fr).get = some e → concs E args = some vs → (∀ n, fr ≤ n → n < fr + e.nn → E n = none) →
    Calls P f vs.toArray w fun x w' => ∃ V E', x = .returned V ∧ conc E' e.val = some V ∧ Post E hp w fr e E' w'
def KOk (C : Cx) : Prop := ∀ f s, C.K f = some s → SpecOk C.P f s

theorem pure_ok {C : Cx} {o : Oper} {a : Act} {w : World} {E : Env} {hp : Nat → Option AB} {lo : Nat} {e : Eff} {t : Operand → AV} (hv : ∀ x ∈ o.op.operands, conc E (t x) = some (a.eval x)) (h : effPure C.P o t = some e) : OpOk C.P o a w E hp lo e := by
  unfold effPure at h
  cases hb : (noSel o.op && allPlain t o.op.operands.toList) with
  | false => rw [hb] at h; cases h
  | true =>
    rw [hb] at h
    simp only [cond_true] at h
    split at h
    case h_2 => cases h
    rename_i V hrun
    cases h
    simp only [Bool.and_eq_true] at hb
    have hpl : ∀ (l : List Operand), allPlain t l = true → ∀ x ∈ l, (plain (t x)).isSome = true := by
      intro l
      induction l with
      | nil => intro _ x hx; simp at hx
      | cons y l ih =>
        intro hl x hx
        simp only [allPlain, Bool.and_eq_true] at hl
        rcases List.mem_cons.1 hx with rfl | hx
        · exact hl.1
        · exact ih hl.2 x hx
    have hsame : ∀ x ∈ o.op.operands, a.eval x = (plain (t x)).getD undef := by
      intro x hx
      obtain ⟨y, hy⟩ := Option.isSome_iff_exists.1 (hpl _ hb.2 x (by simpa using hx))
      have h1 := plain_conc hy E
      rw [hv x hx] at h1
      simp only [Option.some.injEq] at h1
      rw [hy, h1]
      rfl
    have hcong := execOp_congr (ρ := a.eval) (ρ' := fun x => (plain (t x)).getD undef) o (by
      intro cs b he
      have := hb.1
      rw [he] at this
      simp [noSel] at this) hsame
    refine OpOk.value (V := V) ?_ rfl rfl rfl
    rw [hcong]
    exact prun_run hrun w


theorem pick_ok {C : Cx} {c x y : Operand} {o : Oper} {a : Act} {w : World} {E : Env} {hp : Nat → Option AB} {lo : Nat} {e : Eff} {cv av bv : AV} (ho : o.op = .pick c x y) (hc : conc E cv = some (a.eval c)) (hx : conc E av = some (a.eval x)) (hy : conc E bv = some (a.eval y))
    (h : (effPick cv av bv).get = some e) : OpOk C.P o a w E hp lo e := by
  unfold effPick at h
  split at h
  case h_2 => exact get_no h
  rename_i t
  simp only [conc, Option.some.injEq] at hc
  have hrun : (execOp a.eval o).run C.P w = .ok (.value (if t then a.eval x else a.eval y)) w := by
    simp [execOp, ho, ← hc, asBool]
  split at h
  · rename_i p q
    obtain rfl := get_one h
    simp only [conc, Option.some.injEq] at hx hy
    refine OpOk.value hrun ?_ rfl rfl
    rw [← hx, ← hy]
    cases t <;> rfl
  · rename_i k p k' q
    split at h
    case isFalse => exact get_no h
    rename_i hk
    subst hk
    obtain rfl := get_one h
    simp only [conc, Option.some.injEq] at hx hy
    refine OpOk.value hrun ?_ rfl rfl
    rw [← hx, ← hy]
    cases t <;> rfl
  · cases t with
    | true => simp only [T.get] at h; obtain rfl := get_one h; exact OpOk.value hrun hx rfl rfl
    | false => simp only [T.get] at h; obtain rfl := get_one h; exact OpOk.value hrun hy rfl rfl

theorem concs_map {E : Env} {t : Operand → AV} {ρ : Operand → Value} : ∀ {l : List Operand}, (∀ x ∈ l, conc E (t x) = some (ρ x)) → concs E (l.map t) = some (l.map ρ)
  | [], _ => rfl
  | x :: l, h => concs_cons.2 ⟨_, _, h x (by simp), concs_map (fun y hy => h y (by simp [hy])), rfl⟩

theorem min_ok {C : Cx} {as : Array Operand} {ts : Array TypeId} {o : Oper} {a : Act} {w : World} {E : Env} {hp : Nat → Option AB} {lo : Nat} {e : Eff} {t : Operand → AV} (ho : o.op = .call ⟨.builtin .min, as, ts⟩) (hv : ∀ x ∈ as, conc E (t x) = some (a.eval x))
    (h : (effMin (as.toList.map t)).get = some e) : OpOk C.P o a w E hp lo e := by
  have hm := concs_map (l := as.toList) (fun x hx => hv x (by simpa using hx))
  unfold effMin at h
  split at h
  case h_2 => exact get_no h
  rename_i k x k' y heq
  obtain rfl := get_one h
  rw [heq] at hm
  simp only [concs, conc, Option.bind_some, Option.map_some, Option.some.injEq] at hm
  have harr : as.map a.eval = #[.int k x, .int k' y] := by
    apply Array.toList_inj.1
    rw [Array.toList_map, ← hm]
  refine OpOk.value (V := .int k (if y < x then y else x)) ?_ rfl rfl rfl
  simp [execOp, ho, resolve, invoke, builtin, harr, run_min_int2]
theorem max_ok {C : Cx} {as : Array Operand} {ts : Array TypeId} {o : Oper} {a : Act} {w : World} {E : Env} {hp : Nat → Option AB} {lo : Nat} {e : Eff} {t : Operand → AV} (ho : o.op = .call ⟨.builtin .max, as, ts⟩) (hv : ∀ x ∈ as, conc E (t x) = some (a.eval x))
    (h : (effMax (as.toList.map t)).get = some e) : OpOk C.P o a w E hp lo e := by
  have hm := concs_map (l := as.toList) (fun x hx => hv x (by simpa using hx))
  unfold effMax at h
  split at h
  case h_2 => exact get_no h
  rename_i k x k' y heq
  obtain rfl := get_one h
  rw [heq] at hm
  simp only [concs, conc, Option.bind_some, Option.map_some, Option.some.injEq] at hm
  have harr : as.map a.eval = #[.int k x, .int k' y] := by
    apply Array.toList_inj.1
    rw [Array.toList_map, ← hm]
  refine OpOk.value (V := .int k (if y > x then y else x)) ?_ rfl rfl rfl
  simp [execOp, ho, resolve, invoke, builtin, harr, run_max_int2]

theorem nil_ok {C : Cx} {x : Operand} {o : Oper} {a : Act} {w : World} {E : Env} {hp : Nat → Option AB} {lo : Nat} {e : Eff} {av : AV} (ho : o.op = .nilCheck x) (hv : conc E av = some (a.eval x)) (h : (effNil av).get = some e) : OpOk C.P o a w E hp lo e := by
  unfold effNil at h
  split at h
  case h_2 => exact get_no h
  rename_i n r of
  obtain rfl := get_one h
  have h2 := hv
  simp only [conc, Option.map_eq_some_iff] at h2
  obtain ⟨p, _, h2⟩ := h2
  refine OpOk.value (V := .pointer (some (p.addr r of))) ?_ (by rw [hv, h2]) rfl rfl
  simp [execOp, ho, ← h2]
theorem extract_ok {C : Cx} {x : Operand} {i : Nat} {o : Oper} {a : Act} {w : World} {E : Env} {hp : Nat → Option AB} {lo : Nat} {e : Eff} {av : AV} (ho : o.op = .extract x i) (hv : conc E av = some (a.eval x)) (h : (effExtract av i).get = some e) : OpOk C.P o a w E hp lo e := by
  unfold effExtract at h
  split at h
  case h_2 => exact get_no h
  rename_i vs
  split at h
  case h_2 => exact get_no h
  rename_i v hvi
  obtain rfl := get_one h
  simp only [conc, Option.map_eq_some_iff] at hv
  obtain ⟨xs, hxs, hv⟩ := hv
  obtain ⟨V, h1, h2⟩ := concs_get hxs hvi
  refine OpOk.value (V := V) ?_ h2 rfl rfl
  simp [execOp, ho, ← hv, Instr.extract, h1]
theorem makeFunc_ok {C : Cx} {f : Fn} {first caps : Array Operand} {o : Oper} {a : Act} {w : World} {E : Env} {hp : Nat → Option AB} {lo : Nat} {e : Eff} {t : Operand → AV} (ho : o.op = .makeFunc f first caps) (h1 : ∀ x ∈ first, conc E (t x) = some (a.eval x)) (h2 : ∀ x ∈ caps, conc E (t x) = some (a.eval x))
    (h : (one { val := .func f (first.toList.map t) (caps.toList.map t) } : Te).get = some e) : OpOk C.P o a w E hp lo e := by
  obtain rfl := get_one h
  have g1 := concs_map (l := first.toList) (fun x hx => h1 x (by simpa using hx))
  have g2 := concs_map (l := caps.toList) (fun x hx => h2 x (by simpa using hx))
  refine OpOk.value (V := .func f (first.map a.eval) (caps.map a.eval)) ?_ ?_ rfl rfl
  · simp [execOp, ho, Instr.makeFunc]
  · simp only [conc, g1, g2, Option.bind_some, Option.map_some, Option.some.injEq, Value.func.injEq, true_and]
    exact ⟨by apply Array.toList_inj.1; simp, by apply Array.toList_inj.1; simp⟩

theorem fnOf_conc {E : Env} {f : AV} {V : Value} {g : FuncId} {first caps : List AV} (hf : fnOf f = some (g, first, caps)) (hc : conc E f = some V) : ∃ fs cs, V = .func (.func g) fs cs ∧ concs E first = some fs.toList ∧ concs E caps = some cs.toList := by
  unfold fnOf at hf
  split at hf
  · cases hf
    simp only [conc, Option.some.injEq] at hc
    subst hc
    exact ⟨_, _, rfl, concs_plain _, concs_plain _⟩
  · cases hf
    simp only [conc, Option.bind_eq_some_iff, Option.map_eq_some_iff] at hc
    obtain ⟨fs, h1, cs, h2, rfl⟩ := hc
    exact ⟨_, _, rfl, by simpa using h1, by simpa using h2⟩
  · cases hf

theorem call_ok {C : Cx} (hK : KOk C) {f : Operand} {as : Array Operand} {ts : Array TypeId} {o : Oper} {a : Act} {w : World} {E : Env} {hp : Nat → Option AB} {e : Eff} {t : Operand → AV} {fr : Nat} {W0 : World} {S : Nat → Prop} (ho : o.op = .call ⟨.value f, as, ts⟩) (hv : ∀ x ∈ o.op.operands, conc E (t x) = some (a.eval x))
    (G : Gam W0 S E hp w) (hfr : ∀ n, fr ≤ n → n < fr + e.nn → E n = none) (h : (effCall C.K (t f :: as.toList.map t) hp fr).get = some e) : OpOk C.P o a w E hp fr e := by
  simp only [effCall] at h
  split at h
  case h_2 => exact get_no h
  rename_i g first caps hfn
  split at h
  case h_2 => exact get_no h
  rename_i s hs
  have hsp := hK g s hs
  have hf1 := hv f (by simp [ho, Op.operands, Call.operands])
  obtain ⟨fs, cs, hF, h1, h2⟩ := fnOf_conc hfn hf1
  have hm := concs_map (l := as.toList) (fun x hx => hv x (by simp [ho, Op.operands, Call.operands, Array.mem_toList_iff.1 hx]))
  have hargs : concs E (first ++ as.toList.map t ++ caps) = some (fs.toList ++ as.toList.map a.eval ++ cs.toList) :=
    concs_append.2 ⟨_, _, concs_append.2 ⟨_, _, h1, hm, rfl⟩, h2, rfl⟩
  have hcall := hsp.run W0 S E hp w _ _ fr e G h hargs hfr
  obtain ⟨fn, hfn1, hname, hbody⟩ := hsp.fn
  have harr : (fs.toList ++ as.toList.map a.eval ++ cs.toList).toArray = fs ++ as.map a.eval ++ cs := by
    apply Array.toList_inj.1
    simp
  rw [harr] at hcall
  have hn' : ¬ fn.name = "runtime.NumGoroutine" := by simpa using hname
  have hb' : ¬ fn.body = none := by intro e0; rw [e0] at hbody; cases hbody
  have hrun : (execOp a.eval o).run C.P w = .ok (.enter g (fs ++ as.map a.eval ++ cs)) w := by
    simp [execOp, ho, resolve, hF, Deferred.ofValue, invoke, callFunc, hfn1, hn', hb']
  intro next Q hnext
  unfold Oper.wp
  rw [hrun]
  refine Calls.mono hcall fun x w' ⟨V, E', hx, hV, hpost⟩ => ?_
  subst hx
  exact hnext V w' E' hV hpost

/-- Every rule is sound. -/
theorem effOp_ok {C : Cx} (hK : KOk C) {o : Oper} {a : Act} {w : World} {E : Env} {hp : Nat → Option AB} {e : Eff} {t : Operand → AV} {fr : Nat} {W0 : World} {S : Nat → Prop} (hv : ∀ x ∈ o.op.operands, conc E (t x) = some (a.eval x))
    (G : Gam W0 S E hp w) (hfr : ∀ n, fr ≤ n → n < fr + e.nn → E n = none) (h : (effOp C o t hp fr).get = some e) : OpOk C.P o a w E hp fr e := by
  unfold effOp at h
  split at h
  · rename_i x ho; obtain rfl := get_one h; exact OpOk.value (V := a.eval x) (by simp [execOp, ho]) (hv x (by simp [ho, Op.operands])) rfl rfl
  · rename_i x ho; obtain rfl := get_one h; exact OpOk.value (V := a.eval x) (by simp [execOp, ho]) (hv x (by simp [ho, Op.operands])) rfl rfl
  · rename_i c x y ho; exact pick_ok ho (hv c (by simp [ho, Op.operands])) (hv x (by simp [ho, Op.operands])) (hv y (by simp [ho, Op.operands])) h
  · rename_i el x ho; exact box_ok ho (hv x (by simp [ho, Op.operands])) hfr h
  · rename_i el ho; exact alloc_ok ho hfr h
  · rename_i ty parts ho; exact build_ok ho (fun p hp => hv p.2 (by rw [ho]; simp only [Op.operands]; exact List.mem_toArray.2 (List.mem_map.2 ⟨p, hp, rfl⟩))) h
  · rename_i ty len parts ho; exact buildSlice_ok ho (fun p hp => hv p.2 (by rw [ho]; simp only [Op.operands]; exact List.mem_toArray.2 (List.mem_map.2 ⟨p, hp, rfl⟩))) hfr h
  · rename_i ty l c ho; exact makeSlice_ok ho (hv l (by simp [ho, Op.operands])) (hv c (by simp [ho, Op.operands])) hfr h
  · rename_i ty x ho; exact load_ok ho (hv x (by simp [ho, Op.operands])) G.holds h
  · rename_i ty x y ho; exact store_ok ho (hv x (by simp [ho, Op.operands])) (hv y (by simp [ho, Op.operands])) G.holds h
  · rename_i x ho; exact nil_ok ho (hv x (by simp [ho, Op.operands])) h
  · rename_i s x f ho; exact field_ok ho (hv x (by simp [ho, Op.operands])) h
  · rename_i ty x y ho; exact index_ok ho (hv x (by simp [ho, Op.operands])) (hv y (by simp [ho, Op.operands])) G.holds h
  · rename_i ty x f ho; exact part_ok ho (hv x (by simp [ho, Op.operands])) h
  · rename_i ty x y ho; exact elem_ok ho (hv x (by simp [ho, Op.operands])) (hv y (by simp [ho, Op.operands])) h
  · rename_i ty x l hh m ho
    exact slice_ok ho (hv x (by simp [ho, Op.operands])) (fun y hy => hv y (by simp [ho, Op.operands, hy])) (fun y hy => hv y (by simp [ho, Op.operands, hy])) (fun y hy => hv y (by simp [ho, Op.operands, hy])) G.holds hfr h
  · rename_i op ty x y ty' ho; exact eq_ok ho (hv x (by simp [ho, Op.operands])) (hv y (by simp [ho, Op.operands])) h
  · rename_i x i ho; exact extract_ok ho (hv x (by simp [ho, Op.operands])) h
  · rename_i f first caps ho; exact makeFunc_ok ho (fun x hx => hv x (by simp [ho, Op.operands, hx])) (fun x hx => hv x (by simp [ho, Op.operands, hx])) h
  · rename_i f as ts ho; exact call_ok hK ho hv G hfr h
  · rename_i as ts ho; exact min_ok ho (fun x hx => hv x (by simp [ho, Op.operands, Call.operands, hx])) h
  · rename_i as ts ho; exact max_ok ho (fun x hx => hv x (by simp [ho, Op.operands, Call.operands, hx])) h
  · rename_i as ts ho
    split at h
    case h_2 => exact get_no h
    rename_i x ty h1 h2
    exact len_ok ho (by apply Array.toList_inj.1; rw [h1]) (by apply Array.toList_inj.1; rw [h2]) (hv x (by simp [ho, Op.operands, Call.operands, ← Array.mem_toList_iff, h1])) G.holds h
  · rename_i as ts ho
    split at h
    case h_2 => exact get_no h
    rename_i x ty h1 h2
    exact cap_ok ho (by apply Array.toList_inj.1; rw [h1]) (by apply Array.toList_inj.1; rw [h2]) (hv x (by simp [ho, Op.operands, Call.operands, ← Array.mem_toList_iff, h1])) h
  · rename_i as ts ho
    split at h
    case h_2 => exact get_no h
    rename_i s x h1
    exact append_ok ho (by apply Array.toList_inj.1; rw [h1]) (hv s (by simp [ho, Op.operands, Call.operands, ← Array.mem_toList_iff, h1])) (hv x (by simp [ho, Op.operands, Call.operands, ← Array.mem_toList_iff, h1])) G hfr h
  · exact get_no h

/-- Every effect is sound. -/
theorem eff_ok {C : Cx} (hK : KOk C) {o : Oper} {a : Act} {w : World} {E : Env} {hp : Nat → Option AB} {e : Eff} {t : Operand → AV} {fr : Nat} {W0 : World} {S : Nat → Prop} (hv : ∀ x ∈ o.op.operands, conc E (t x) = some (a.eval x))
    (G : Gam W0 S E hp w) (hfr : ∀ n, fr ≤ n → n < fr + e.nn → E n = none) (h : (eff C o t hp fr).get = some e) : OpOk C.P o a w E hp fr e := by
  unfold eff at h
  cases hr : hasRule o.op with
  | true => rw [hr] at h; exact effOp_ok hK hv G hfr h
  | false =>
    rw [hr] at h
    simp only [cond_false] at h
    cases hp' : (noSel o.op && allPlain t o.op.operands.toList) with
    | false => rw [hp'] at h; exact effOp_ok hK hv G hfr h
    | true =>
      rw [hp'] at h
      simp only [cond_true] at h
      split at h
      · rename_i e' he
        obtain rfl := get_one h
        exact pure_ok hv he
      · exact effOp_ok hK hv G hfr h

/-! ### Locality -/
theorem load_loc {P : Program} {ty : TypeId} {a : AV} {lk lk' : Nat → Option AB} {e : Eff} (h : (effLoad P ty a lk).get = some e) (hl : ∀ n ∈ e.reads, lk' n = lk n) : (effLoad P ty a lk').get = some e := by
  have hr : ∀ n r o, a = .ptr n r o → n ∈ e.reads := by
    intro n r o ha
    subst ha
    simp only [effLoad] at h
    split at h
    case h_2 => exact get_no h
    rename_i x d i _ _ _
    cases hag : isAggD d with
    | true => rw [hag] at h; obtain ⟨l, _, rfl⟩ := T.get_mapO h; simp
    | false =>
      rw [hag] at h
      obtain ⟨l, _, h⟩ := T.get_bindO h
      split at h
      · obtain rfl := get_one h; simp
      · exact get_no h
  unfold effLoad at h ⊢
  split at h
  case h_2 => exact get_no h
  rename_i n r o
  rw [hl n (hr n r o rfl)]
  exact h
theorem store_loc {P : Program} {ty : TypeId} {a x : AV} {lk lk' : Nat → Option AB} {e : Eff} (h : (effStore P ty a x lk).get = some e) (hl : ∀ n ∈ e.reads, lk' n = lk n) : (effStore P ty a x lk').get = some e := by
  have hr : ∀ n r o, a = .ptr n r o → n ∈ e.reads := by
    intro n r o ha
    subst ha
    simp only [effStore] at h
    split at h
    case h_2 => exact get_no h
    rename_i y i _ _
    cases hb : (noJ x && Nat.beq (acells x).length i.size && allOne (acells x)) with
    | true => rw [hb] at h; obtain ⟨l, _, rfl⟩ := T.get_mapO h; simp
    | false => rw [hb] at h; exact get_no h
  unfold effStore at h ⊢
  split at h
  case h_2 => exact get_no h
  rename_i n r o
  rw [hl n (hr n r o rfl)]
  exact h
theorem index_loc {P : Program} {ty : TypeId} {x i : AV} {lk lk' : Nat → Option AB} {e : Eff} (h : (effIndex P ty x i lk).get = some e) (hl : ∀ n ∈ e.reads, lk' n = lk n) : (effIndex P ty x i lk').get = some e := by
  unfold effIndex at h ⊢
  split at h
  case h_2 => exact get_no h
  rename_i k j
  split at h
  · exact h
  · split at h
    case h_2 => exact get_no h
    rename_i ie hie
    split at h
    case h_2 => exact get_no h
    rename_i n r o len c
    have hn : n ∈ e.reads := by
      split at h
      case h_2 => exact get_no h
      obtain ⟨_, h⟩ := T.get_when h
      obtain rfl := get_one h
      simp
    try simp only
    rw [hl n hn]
    exact h
  · exact get_no h
theorem cut_reads {n r o len : Nat} {c : Option Nat} {y : M} {size : Nat} {l h m : Option Int} {fr : Nat} {e : Eff} (he : (effCut n r o len c y size l h m fr).get = some e) : n ∈ e.reads := by
  have hk : ∀ k L H, (effCutK n r o k y size L H).get = some e → n ∈ e.reads := by
    intro k L H hk
    unfold effCutK at hk
    cases hd : decide ((k : Int) = L) <;> rw [hd] at hk <;> simp only [T.get] at hk <;> obtain rfl := get_one hk <;> simp
  unfold effCut at he
  split at he
  · cases hs : h.isSome <;> rw [hs] at he
    · exact get_no he
    · obtain ⟨_, he⟩ := T.get_when he; exact hk _ _ _ he
  · cases hs : h.isSome <;> rw [hs] at he
    · exact get_no he
    · obtain ⟨_, he⟩ := T.get_when he; exact hk _ _ _ he
  · obtain ⟨_, he⟩ := T.get_when he; exact hk _ _ _ he
  · cases hs : (Nat.beq y.size size && Nat.beq o 0) <;> rw [hs] at he
    · exact get_no he
    · obtain ⟨_, he⟩ := T.get_when he
      cases hd : decide (l.getD 0 = (len : Int)) <;> rw [hd] at he <;> simp only [T.get] at he <;> obtain rfl := get_one he <;> simp
theorem slice_loc {P : Program} {ty : TypeId} {x : AV} {l h m : Option AV} {lk lk' : Nat → Option AB} {fr : Nat} {e : Eff} (he : (effSlice P ty x l h m lk fr).get = some e) (hl : ∀ n ∈ e.reads, lk' n = lk n) : (effSlice P ty x l h m lk' fr).get = some e := by
  unfold effSlice at he ⊢
  split at he
  · try simp only
    split at he
    case h_2 => exact get_no he
    rename_i n r o len c ie _
    have hn : n ∈ e.reads := by
      split at he
      · exact cut_reads he
      · split at he
        · exact cut_reads he
        · exact get_no he
      · exact get_no he
    try simp only
    rw [hl n hn]
    exact he
  · try simp only
    split at he
    case h_2 => exact get_no he
    rename_i n r o ie _
    have hn : n ∈ e.reads := by
      split at he
      case h_2 => exact get_no he
      rename_i y _
      cases hb : Nat.blt 0 y.len <;> rw [hb] at he
      · exact get_no he
      · exact cut_reads he
    try simp only
    rw [hl n hn]
    exact he
  · exact get_no he
theorem len_loc {P : Program} {ty : TypeId} {x : AV} {lk lk' : Nat → Option AB} {e : Eff} (h : (effLen P ty x lk).get = some e) (hl : ∀ n ∈ e.reads, lk' n = lk n) : (effLen P ty x lk').get = some e := by
  unfold effLen at h ⊢
  split at h
  · exact h
  · exact h
  · rename_i k el n _
    have hn : n ∈ e.reads := by
      split at h
      · obtain rfl := get_one h; simp
      · exact get_no h
    try simp only
    rw [hl n hn]
    exact h
  · exact get_no h
theorem rows_loc {x : AV} {size : Nat} {lk lk' : Nat → Option AB} {y : M} {ns : List Nat} (h : (rowsOf x size lk).get = some (y, ns)) (hl : ∀ n ∈ ns, lk' n = lk n) : rowsOf x size lk' = rowsOf x size lk := by
  unfold rowsOf at h ⊢
  split at h
  · rename_i n r o len c
    have hn : n ∈ ns := by
      split at h
      case h_2 => simp [T.get] at h
      rename_i z _
      cases hb : (Nat.beq z.size size && Nat.beq o 0) <;> rw [hb] at h
      · obtain ⟨l, _, he⟩ := T.get_mapO h; simp at he; simp [← he.2]
      · obtain ⟨l, _, he⟩ := T.get_mapO h; simp at he; simp [← he.2]
    try simp only
    rw [hl n hn]
  · rfl
  · rfl
  · rfl
theorem append_loc {P : Program} {ts : Array TypeId} {s x : AV} {lk lk' : Nat → Option AB} {fr : Nat} {e : Eff} (h : (effAppend P ts s x lk fr).get = some e) (hl : ∀ n ∈ e.reads, lk' n = lk n) : (effAppend P ts s x lk' fr).get = some e := by
  unfold effAppend at h ⊢
  split at h
  case h_2 => exact get_no h
  split at h
  case h_2 => exact get_no h
  try simp only
  split at h
  case h_2 => exact get_no h
  try simp only
  split at h
  case h_2 => exact get_no h
  rename_i t t' _ _ el _ _ i _ _ z _
  try simp only
  cases hb : (Nat.beq z.cells.size i.size && Nat.blt 0 i.size && Nat.ble i.bytes 65536 && (Nat.beq t t' || isStr P t')) with
  | false => rw [hb] at h; exact get_no h
  | true =>
    rw [hb] at h
    simp only [cond_true] at h ⊢
    obtain ⟨⟨y, ns⟩, hrows, h2⟩ := T.get_bindO h
    have key : (∀ n ∈ ns, n ∈ e.reads) ∧ (∀ n r o len c, s = .sl n r o len c → n ∈ e.reads) := by
      simp only at h2
      cases hone : allOneM y with
      | false => rw [hone] at h2; exact get_no h2
      | true =>
        rw [hone] at h2
        simp only [cond_true] at h2
        split at h2
        · refine ⟨?_, fun n r o len c hs => by cases hs⟩
          cases hm : decide (y.len = 0) with
          | true => rw [hm] at h2; simp only [T.get] at h2; obtain rfl := get_one h2; exact fun n hn => hn
          | false =>
            rw [hm] at h2
            simp only [T.get] at h2
            obtain ⟨_, h2⟩ := T.get_when h2
            split at h2
            · obtain rfl := get_one h2; exact fun n hn => hn
            · exact get_no h2
        · split at h2
          case h_2 => exact get_no h2
          rename_i n r o len c _ b _
          cases hq : (Nat.beq o 0 && Nat.beq b.e el && Nat.beq b.size i.size && Nat.beq r 0) with
          | false => rw [hq] at h2; exact get_no h2
          | true =>
            rw [hq] at h2
            simp only [cond_true] at h2
            have fin : e.reads = n :: ns → (∀ m ∈ ns, m ∈ e.reads) ∧ (∀ n' r' o' len' c', AV.sl n r o len c = .sl n' r' o' len' c' → n' ∈ e.reads) := by
              intro he
              rw [he]
              refine ⟨fun m hm => by simp [hm], fun n' r' o' len' c' hs => ?_⟩
              simp only [AV.sl.injEq] at hs
              simp [hs.1]
            split at h2
            · obtain ⟨_, h2⟩ := T.get_when h2
              split at h2
              · obtain rfl := get_one h2; exact fin rfl
              · exact get_no h2
            · obtain ⟨_, h2⟩ := T.get_when h2
              obtain ⟨b', _, h2⟩ := T.get_bindO h2
              split at h2
              · obtain rfl := get_one h2; exact fin rfl
              · exact get_no h2
        · exact get_no h2
    rw [rows_loc hrows (fun n hn => hl n (key.1 n hn))]
    unfold T.bindO at h ⊢
    rw [T.get_bind] at h ⊢
    rw [hrows] at h ⊢
    simp only at h ⊢
    cases hone : allOneM y with
    | false => rw [hone] at h; exact get_no h
    | true =>
      rw [hone] at h
      simp only [cond_true] at h ⊢
      split at h
      · exact h
      · rename_i n r o len c
        try simp only
        rw [hl n (key.2 n r o len c rfl)]
        exact h
      · exact get_no h
theorem call_loc {C : Cx} (hK : KOk C) {vals : List AV} {lk lk' : Nat → Option AB} {fr : Nat} {e : Eff} (h : (effCall C.K vals lk fr).get = some e) (hl : ∀ n ∈ e.reads, lk' n = lk n) : (effCall C.K vals lk' fr).get = some e := by
  unfold effCall at h
  split at h
  case h_2 => exact get_no h
  rename_i f args
  split at h
  case h_2 => exact get_no h
  rename_i g first caps hf
  split at h
  case h_2 => exact get_no h
  rename_i s hs
  simp only [effCall, hf, hs]
  exact (hK g s hs).loc _ _ _ _ _ h hl

theorem effOp_loc {C : Cx} (hK : KOk C) {o : Oper} {t : Operand → AV} {lk lk' : Nat → Option AB} {fr : Nat} {e : Eff} (h : (effOp C o t lk fr).get = some e) (hl : ∀ n ∈ e.reads, lk' n = lk n) : (effOp C o t lk' fr).get = some e := by
  unfold effOp at h ⊢
  split at h <;> try simp only
  all_goals first
    | exact load_loc h hl
    | exact store_loc h hl
    | exact index_loc h hl
    | exact slice_loc h hl
    | exact call_loc hK h hl
    | exact h
    | (split at h
       · first | exact len_loc h hl | exact append_loc h hl | exact h
       · exact get_no h)
    | exact get_no h
theorem eff_loc {C : Cx} (hK : KOk C) {o : Oper} {t : Operand → AV} {lk lk' : Nat → Option AB} {fr : Nat} {e : Eff} (h : (eff C o t lk fr).get = some e) (hl : ∀ n ∈ e.reads, lk' n = lk n) : (eff C o t lk' fr).get = some e := by
  unfold eff at h ⊢
  cases hr : hasRule o.op with
  | true => rw [hr] at h; exact effOp_loc hK h hl
  | false =>
    rw [hr] at h
    simp only [cond_false] at h ⊢
    cases hp' : (noSel o.op && allPlain t o.op.operands.toList) with
    | false => rw [hp'] at h; exact effOp_loc hK h hl
    | true =>
      rw [hp'] at h
      simp only [cond_true] at h ⊢
      split at h
      · exact h
      · exact effOp_loc hK h hl

/-- An effect hangs on its operands' values alone. -/
theorem effOp_congr {C : Cx} {o : Oper} {t t' : Operand → AV} {lk : Nat → Option AB} {fr : Nat} (h : ∀ x ∈ o.op.operands, t x = t' x) : effOp C o t lk fr = effOp C o t' lk fr := by
  have hmap : ∀ (l : List Operand), (∀ x ∈ l, x ∈ o.op.operands) → l.map t = l.map t' := fun l hl => List.map_congr_left fun x hx => h x (hl x hx)
  unfold effOp
  split
  · rename_i x ho; rw [h x (by simp [ho, Op.operands])]
  · rename_i x ho; rw [h x (by simp [ho, Op.operands])]
  · rename_i c x y ho; rw [h c (by simp [ho, Op.operands]), h x (by simp [ho, Op.operands]), h y (by simp [ho, Op.operands])]
  · rename_i el x ho; rw [h x (by simp [ho, Op.operands])]
  · rfl
  · rename_i ty parts ho
    have : (parts.toList.map fun p => (p.1, t p.2)) = (parts.toList.map fun p => (p.1, t' p.2)) := List.map_congr_left fun p hp => by
      rw [h p.2 (by rw [ho]; simp only [Op.operands]; exact List.mem_toArray.2 (List.mem_map.2 ⟨p, hp, rfl⟩))]
    rw [this]
  · rename_i ty len parts ho
    have : (parts.toList.map fun p => (p.1, t p.2)) = (parts.toList.map fun p => (p.1, t' p.2)) := List.map_congr_left fun p hp => by
      rw [h p.2 (by rw [ho]; simp only [Op.operands]; exact List.mem_toArray.2 (List.mem_map.2 ⟨p, hp, rfl⟩))]
    rw [this]
  · rename_i ty l c ho; rw [h l (by simp [ho, Op.operands]), h c (by simp [ho, Op.operands])]
  · rename_i ty x ho; rw [h x (by simp [ho, Op.operands])]
  · rename_i ty x y ho; rw [h x (by simp [ho, Op.operands]), h y (by simp [ho, Op.operands])]
  · rename_i x ho; rw [h x (by simp [ho, Op.operands])]
  · rename_i s x f ho; rw [h x (by simp [ho, Op.operands])]
  · rename_i ty x y ho; rw [h x (by simp [ho, Op.operands]), h y (by simp [ho, Op.operands])]
  · rename_i ty x f ho; rw [h x (by simp [ho, Op.operands])]
  · rename_i ty x y ho; rw [h x (by simp [ho, Op.operands]), h y (by simp [ho, Op.operands])]
  · rename_i ty x l hh m ho
    have ho' : ∀ z : Option Operand, (∀ y, z = some y → y ∈ o.op.operands) → z.map t = z.map t' := by
      intro z hz
      cases z with
      | none => rfl
      | some y => simp [h y (hz y rfl)]
    rw [h x (by simp [ho, Op.operands]), ho' l (fun y hy => by simp [ho, Op.operands, hy]), ho' hh (fun y hy => by simp [ho, Op.operands, hy]), ho' m (fun y hy => by simp [ho, Op.operands, hy])]
  · rename_i op ty x y ty' ho; rw [h x (by simp [ho, Op.operands]), h y (by simp [ho, Op.operands])]
  · rename_i x i ho; rw [h x (by simp [ho, Op.operands])]
  · rename_i f first caps ho
    rw [hmap first.toList (fun x hx => by simp [ho, Op.operands, Array.mem_toList_iff.1 hx]), hmap caps.toList (fun x hx => by simp [ho, Op.operands, Array.mem_toList_iff.1 hx])]
  · rename_i f as ts ho
    rw [h f (by simp [ho, Op.operands, Call.operands]), hmap as.toList (fun x hx => by simp [ho, Op.operands, Call.operands, Array.mem_toList_iff.1 hx])]
  · rename_i as ts ho; rw [hmap as.toList (fun x hx => by simp [ho, Op.operands, Call.operands, Array.mem_toList_iff.1 hx])]
  · rename_i as ts ho; rw [hmap as.toList (fun x hx => by simp [ho, Op.operands, Call.operands, Array.mem_toList_iff.1 hx])]
  · rename_i as ts ho
    split
    · rename_i x ty h1 h2; rw [h x (by simp [ho, Op.operands, Call.operands, ← Array.mem_toList_iff, h1])]
    · rfl
  · rename_i as ts ho
    split
    · rename_i x ty h1 h2; rw [h x (by simp [ho, Op.operands, Call.operands, ← Array.mem_toList_iff, h1])]
    · rfl
  · rename_i as ts ho
    split
    · rename_i s x h1; rw [h s (by simp [ho, Op.operands, Call.operands, ← Array.mem_toList_iff, h1]), h x (by simp [ho, Op.operands, Call.operands, ← Array.mem_toList_iff, h1])]
    · rfl
  · rfl
theorem eff_congr {C : Cx} {o : Oper} {t t' : Operand → AV} {lk : Nat → Option AB} {fr : Nat} (h : ∀ x ∈ o.op.operands, t x = t' x) : eff C o t lk fr = eff C o t' lk fr := by
  unfold eff
  rw [effOp_congr h]
  have hall : allPlain t o.op.operands.toList = allPlain t' o.op.operands.toList := by
    have : ∀ l : List Operand, (∀ x ∈ l, t x = t' x) → allPlain t l = allPlain t' l := by
      intro l
      induction l with
      | nil => intro _; rfl
      | cons x l ih =>
        intro hl
        simp only [allPlain]
        rw [hl x (by simp), ih (fun y hy => hl y (by simp [hy]))]
    exact this _ (fun x hx => h x (by simpa using hx))
  have hp : effPure C.P o t = effPure C.P o t' := by
    unfold effPure
    rw [hall]
    cases hb : noSel o.op with
    | false => rfl
    | true =>
      have := execOp_congr (ρ := fun x => (plain (t x)).getD undef) (ρ' := fun x => (plain (t' x)).getD undef) o (by
        intro cs b he
        rw [he] at hb
        simp [noSel] at hb) (fun x hx => by simp only [h x hx])
      rw [this]
  rw [hp, hall]
end Go.Proofs.Ytemggodhikpmdaa.Sx
