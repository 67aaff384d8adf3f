/- The engine, part 9: every effect is sound. -/
import Derived.Test.YtpfbpcaehmhefaaDoorBZX
namespace Go.Proofs.YtpfbpcaehmhefaaDoorB.Sx
open Go.RowKit
set_option linter.unusedSimpArgs false
set_option linter.unusedVariables false

/-- The names of the package's variables. -/
def GlOk (gl : Nat → Option Nat) (E : Env) : Prop := ∀ g n, gl g = some n → ∃ p, E n = some p ∧ p.addr 0 0 = ⟨g, 0, none⟩
theorem GlOk.mono {gl : Nat → Option Nat} {E E' : Env} (h : GlOk gl E) (hE : E.le E') : GlOk gl E' := fun g n hg => by
  obtain ⟨p, h1, h2⟩ := h g n hg
  exact ⟨p, hE n p h1, h2⟩
/-- A callee's summary is sound. -/
structure SpecOk (P : Program) (gl : Nat → Option Nat) (f : FuncId) (s : Spec) : Prop where
  fn : ∃ fn, P.funcs[f]? = some fn ∧ (fn.name == "runtime.NumGoroutine") = false ∧ fn.body.isNone = false
  loc : ∀ args lk lk' fr e, (s args lk fr).get = some e → (∀ n ∈ e.reads, lk' n = lk n) → (s args lk' fr).get = some e
  run : ∀ W0 S E hp w args vs fr e, Gam W0 S E hp w → GlOk gl E → (s args hp fr).get = some e → concs E args = some vs → (∀ n, fr ≤ n → n < fr + e.nn → E n = none) →
    Calls P f vs.toArray w fun x w' => ∃ V E', x = .returned V ∧ conc E' e.val = some V ∧ E.le E' ∧ (∀ n, E n = none → E' n ≠ none → fr ≤ n ∧ n < fr + e.nn) ∧ Gam W0 S E' (after hp e) w'
def KOk (C : Cx) : Prop := ∀ f s, C.K f = some s → SpecOk C.P C.gl f s

theorem pure_ok {C : Cx} {o : Oper} {a : Act} {w W0 : World} {S : Reg} {E : Env} {hp : Nat → Option AB} {lo : Nat} {e : Eff} (G : Gam W0 S E hp w) {t : Operand → AV} (hv : ∀ x ∈ o.op.operands, conc E (t x) = some (a.eval x)) (h : effPure C.P o t = some e) : OpOk C.P o a w W0 S E hp lo e := by
  unfold effPure at h
  cases hb : (noSel o.op && allPlain t o.op.operands.toList) with
  | false => rw [hb] at h; cases h
  | true =>
    rw [hb] at h
    simp only [cond_true] at h
    split at h
    case h_2 => cases h
    rename_i V hrun
    cases h
    simp only [Bool.and_eq_true] at hb
    have hpl : ∀ (l : List Operand), allPlain t l = true → ∀ x ∈ l, (plain (t x)).isSome = true := by
      intro l
      induction l with
      | nil => intro _ x hx; simp at hx
      | cons y l ih =>
        intro hl x hx
        simp only [allPlain, Bool.and_eq_true] at hl
        rcases List.mem_cons.1 hx with rfl | hx
        · exact hl.1
        · exact ih hl.2 x hx
    have hsame : ∀ x ∈ o.op.operands, a.eval x = (plain (t x)).getD undef := by
      intro x hx
      obtain ⟨y, hy⟩ := Option.isSome_iff_exists.1 (hpl _ hb.2 x (by simpa using hx))
      have h1 := plain_conc hy E
      rw [hv x hx] at h1
      simp only [Option.some.injEq] at h1
      rw [hy, h1]
      rfl
    have hcong := execOp_congr (ρ := a.eval) (ρ' := fun x => (plain (t x)).getD undef) o (by
      intro cs b he
      have := hb.1
      rw [he] at this
      simp [noSel] at this) hsame
    refine OpOk.value G (V := V) ?_ rfl rfl rfl
    rw [hcong]
    exact prun_run hrun w


theorem pick_ok {C : Cx} {c x y : Operand} {o : Oper} {a : Act} {w W0 : World} {S : Reg} {E : Env} {hp : Nat → Option AB} {lo : Nat} {e : Eff} (G : Gam W0 S E hp w) {cv av bv : AV} (ho : o.op = .pick c x y) (hc : conc E cv = some (a.eval c)) (hx : conc E av = some (a.eval x)) (hy : conc E bv = some (a.eval y))
    (h : (effPick cv av bv).get = some e) : OpOk C.P o a w W0 S E hp lo e := by
  unfold effPick at h
  split at h
  case h_2 => exact get_no h
  rename_i t
  simp only [conc, Option.some.injEq] at hc
  have hrun : (execOp a.eval o).run C.P w = .ok (.value (if t then a.eval x else a.eval y)) w := by
    simp [execOp, ho, ← hc, asBool]
  split at h
  · rename_i p q
    obtain rfl := get_one h
    simp only [conc, Option.some.injEq] at hx hy
    refine OpOk.value G hrun ?_ rfl rfl
    rw [← hx, ← hy]
    cases t <;> rfl
  · rename_i k p k' q
    split at h
    case isFalse => exact get_no h
    rename_i hk
    subst hk
    obtain rfl := get_one h
    simp only [conc, Option.some.injEq] at hx hy
    refine OpOk.value G hrun ?_ rfl rfl
    rw [← hx, ← hy]
    cases t <;> rfl
  · cases t with
    | true => simp only [T.get] at h; obtain rfl := get_one h; exact OpOk.value G hrun hx rfl rfl
    | false => simp only [T.get] at h; obtain rfl := get_one h; exact OpOk.value G hrun hy rfl rfl

theorem concs_map {E : Env} {t : Operand → AV} {ρ : Operand → Value} : ∀ {l : List Operand}, (∀ x ∈ l, conc E (t x) = some (ρ x)) → concs E (l.map t) = some (l.map ρ)
  | [], _ => rfl
  | x :: l, h => concs_cons.2 ⟨_, _, h x (by simp), concs_map (fun y hy => h y (by simp [hy])), rfl⟩

theorem min_ok {C : Cx} {as : Array Operand} {ts : Array TypeId} {o : Oper} {a : Act} {w W0 : World} {S : Reg} {E : Env} {hp : Nat → Option AB} {lo : Nat} {e : Eff} (G : Gam W0 S E hp w) {t : Operand → AV} (ho : o.op = .call ⟨.builtin .min, as, ts⟩) (hv : ∀ x ∈ as, conc E (t x) = some (a.eval x))
    (h : (effMin (as.toList.map t)).get = some e) : OpOk C.P o a w W0 S E hp lo e := by
  have hm := concs_map (l := as.toList) (fun x hx => hv x (by simpa using hx))
  unfold effMin at h
  split at h
  case h_3 => exact get_no h
  case h_2 =>
    rename_i k x k' y heq
    split at h
    case isFalse => exact get_no h
    rename_i hk
    subst hk
    obtain ⟨h1, h2⟩ := T.get_when h
    obtain rfl := get_one h2
    rw [heq] at hm
    simp only [concs, conc, Option.bind_some, Option.map_some, Option.some.injEq] at hm
    have harr : as.map a.eval = #[.float k x, .float k y] := by
      apply Array.toList_inj.1
      rw [Array.toList_map, ← hm]
    refine OpOk.value G (V := .float k (fMin k x y)) ?_ rfl rfl rfl
    simp [execOp, ho, resolve, invoke, builtin, harr, run_min_flt _ _ _ _ _ h1]
  rename_i k x k' y heq
  obtain rfl := get_one h
  rw [heq] at hm
  simp only [concs, conc, Option.bind_some, Option.map_some, Option.some.injEq] at hm
  have harr : as.map a.eval = #[.int k x, .int k' y] := by
    apply Array.toList_inj.1
    rw [Array.toList_map, ← hm]
  refine OpOk.value G (V := .int k (if y < x then y else x)) ?_ rfl rfl rfl
  simp [execOp, ho, resolve, invoke, builtin, harr, run_min_int2]
theorem max_ok {C : Cx} {as : Array Operand} {ts : Array TypeId} {o : Oper} {a : Act} {w W0 : World} {S : Reg} {E : Env} {hp : Nat → Option AB} {lo : Nat} {e : Eff} (G : Gam W0 S E hp w) {t : Operand → AV} (ho : o.op = .call ⟨.builtin .max, as, ts⟩) (hv : ∀ x ∈ as, conc E (t x) = some (a.eval x))
    (h : (effMax (as.toList.map t)).get = some e) : OpOk C.P o a w W0 S E hp lo e := by
  have hm := concs_map (l := as.toList) (fun x hx => hv x (by simpa using hx))
  unfold effMax at h
  split at h
  case h_3 => exact get_no h
  case h_2 =>
    rename_i k x k' y heq
    split at h
    case isFalse => exact get_no h
    rename_i hk
    subst hk
    obtain ⟨h1, h2⟩ := T.get_when h
    obtain rfl := get_one h2
    rw [heq] at hm
    simp only [concs, conc, Option.bind_some, Option.map_some, Option.some.injEq] at hm
    have harr : as.map a.eval = #[.float k x, .float k y] := by
      apply Array.toList_inj.1
      rw [Array.toList_map, ← hm]
    refine OpOk.value G (V := .float k (fMax k x y)) ?_ rfl rfl rfl
    simp [execOp, ho, resolve, invoke, builtin, harr, run_max_flt _ _ _ _ _ h1]
  rename_i k x k' y heq
  obtain rfl := get_one h
  rw [heq] at hm
  simp only [concs, conc, Option.bind_some, Option.map_some, Option.some.injEq] at hm
  have harr : as.map a.eval = #[.int k x, .int k' y] := by
    apply Array.toList_inj.1
    rw [Array.toList_map, ← hm]
  refine OpOk.value G (V := .int k (if y > x then y else x)) ?_ rfl rfl rfl
  simp [execOp, ho, resolve, invoke, builtin, harr, run_max_int2]

theorem nil_ok {C : Cx} {x : Operand} {o : Oper} {a : Act} {w W0 : World} {S : Reg} {E : Env} {hp : Nat → Option AB} {lo : Nat} {e : Eff} (G : Gam W0 S E hp w) {av : AV} (ho : o.op = .nilCheck x) (hv : conc E av = some (a.eval x)) (h : (effNil av).get = some e) : OpOk C.P o a w W0 S E hp lo e := by
  unfold effNil at h
  split at h
  case h_2 => exact get_no h
  rename_i n r of
  obtain rfl := get_one h
  have h2 := hv
  simp only [conc, Option.map_eq_some_iff] at h2
  obtain ⟨p, _, h2⟩ := h2
  refine OpOk.value G (V := .pointer (some (p.addr r of))) ?_ (by rw [hv, h2]) rfl rfl
  simp [execOp, ho, ← h2]
theorem extract_ok {C : Cx} {x : Operand} {i : Nat} {o : Oper} {a : Act} {w W0 : World} {S : Reg} {E : Env} {hp : Nat → Option AB} {lo : Nat} {e : Eff} (G : Gam W0 S E hp w) {av : AV} (ho : o.op = .extract x i) (hv : conc E av = some (a.eval x)) (h : (effExtract av i).get = some e) : OpOk C.P o a w W0 S E hp lo e := by
  unfold effExtract at h
  split at h
  case h_2 => exact get_no h
  rename_i vs
  split at h
  case h_2 => exact get_no h
  rename_i v hvi
  obtain rfl := get_one h
  simp only [conc, Option.map_eq_some_iff] at hv
  obtain ⟨xs, hxs, hv⟩ := hv
  obtain ⟨V, h1, h2⟩ := concs_get hxs hvi
  refine OpOk.value G (V := V) ?_ h2 rfl rfl
  simp [execOp, ho, ← hv, Instr.extract, h1]
theorem makeFunc_ok {C : Cx} {f : Fn} {first caps : Array Operand} {o : Oper} {a : Act} {w W0 : World} {S : Reg} {E : Env} {hp : Nat → Option AB} {lo : Nat} {e : Eff} (G : Gam W0 S E hp w) {t : Operand → AV} (ho : o.op = .makeFunc f first caps) (h1 : ∀ x ∈ first, conc E (t x) = some (a.eval x)) (h2 : ∀ x ∈ caps, conc E (t x) = some (a.eval x))
    (h : (one { val := .func f (first.toList.map t) (caps.toList.map t) } : Te).get = some e) : OpOk C.P o a w W0 S E hp lo e := by
  obtain rfl := get_one h
  have g1 := concs_map (l := first.toList) (fun x hx => h1 x (by simpa using hx))
  have g2 := concs_map (l := caps.toList) (fun x hx => h2 x (by simpa using hx))
  refine OpOk.value G (V := .func f (first.map a.eval) (caps.map a.eval)) ?_ ?_ rfl rfl
  · simp [execOp, ho, Instr.makeFunc]
  · simp only [conc, g1, g2, Option.bind_some, Option.map_some, Option.some.injEq, Value.func.injEq, true_and]
    exact ⟨by apply Array.toList_inj.1; simp, by apply Array.toList_inj.1; simp⟩

theorem fnOf_conc {E : Env} {f : AV} {V : Value} {g : FuncId} {first caps : List AV} (hf : fnOf f = some (g, first, caps)) (hc : conc E f = some V) : ∃ fs cs, V = .func (.func g) fs cs ∧ concs E first = some fs.toList ∧ concs E caps = some cs.toList := by
  unfold fnOf at hf
  split at hf
  · cases hf
    simp only [conc, Option.some.injEq] at hc
    subst hc
    exact ⟨_, _, rfl, concs_plain _, concs_plain _⟩
  · cases hf
    simp only [conc, Option.bind_eq_some_iff, Option.map_eq_some_iff] at hc
    obtain ⟨fs, h1, cs, h2, rfl⟩ := hc
    exact ⟨_, _, rfl, by simpa using h1, by simpa using h2⟩
  · cases hf

theorem call_ok {C : Cx} (hK : KOk C) {f : Operand} {as : Array Operand} {ts : Array TypeId} {o : Oper} {a : Act} {w : World} {E : Env} {hp : Nat → Option AB} {e : Eff} {t : Operand → AV} {fr : Nat} {W0 : World} {S : Reg} (ho : o.op = .call ⟨.value f, as, ts⟩) (hv : ∀ x ∈ o.op.operands, conc E (t x) = some (a.eval x))
    (G : Gam W0 S E hp w) (hgl : GlOk C.gl E) (hfr : ∀ n, fr ≤ n → n < fr + e.nn → E n = none) (h : (effCall C.K (t f :: as.toList.map t) hp fr).get = some e) : OpOk C.P o a w W0 S E hp fr e := by
  simp only [effCall] at h
  split at h
  case h_2 => exact get_no h
  rename_i g first caps hfn
  split at h
  case h_2 => exact get_no h
  rename_i s hs
  have hsp := hK g s hs
  have hf1 := hv f (by simp [ho, Op.operands, Call.operands])
  obtain ⟨fs, cs, hF, h1, h2⟩ := fnOf_conc hfn hf1
  have hm := concs_map (l := as.toList) (fun x hx => hv x (by simp [ho, Op.operands, Call.operands, Array.mem_toList_iff.1 hx]))
  have hargs : concs E (first ++ as.toList.map t ++ caps) = some (fs.toList ++ as.toList.map a.eval ++ cs.toList) :=
    concs_append.2 ⟨_, _, concs_append.2 ⟨_, _, h1, hm, rfl⟩, h2, rfl⟩
  have hcall := hsp.run W0 S E hp w _ _ fr e G hgl h hargs hfr
  obtain ⟨fn, hfn1, hname, hbody⟩ := hsp.fn
  have harr : (fs.toList ++ as.toList.map a.eval ++ cs.toList).toArray = fs ++ as.map a.eval ++ cs := by
    apply Array.toList_inj.1
    simp
  rw [harr] at hcall
  have hn' : ¬ fn.name = "runtime.NumGoroutine" := by simpa using hname
  have hb' : ¬ fn.body = none := by intro e0; rw [e0] at hbody; cases hbody
  have hrun : (execOp a.eval o).run C.P w = .ok (.enter g (fs ++ as.map a.eval ++ cs)) w := by
    simp [execOp, ho, resolve, hF, Deferred.ofValue, invoke, callFunc, hfn1, hn', hb']
  intro next Q hnext
  unfold Oper.wp
  rw [hrun]
  refine Calls.mono hcall fun x w' ⟨V, E', hx, hV, h1, h2, h3⟩ => ?_
  subst hx
  exact hnext V w' E' hV h1 h2 h3

/-! NaNs. -/
theorem nan_order {a b : Nat} (h : (FloatKind.f64.decode a).isNaN = true ∨ (FloatKind.f64.decode b).isNaN = true) : FloatKind.f64.format.order a b = none := by
  show (Ieee.Datum.order (FloatKind.f64.decode a) (FloatKind.f64.decode b)) = none
  generalize FloatKind.f64.decode a = x at h
  generalize FloatKind.f64.decode b = y at h
  cases x <;> cases y <;> first | rfl | (rcases h with h | h <;> cases h)
theorem nan_cut (t : Nat) (x y : Nat) : (FloatKind.f64.decode ((Question.nanBits .f64 x y).cut t)).isNaN = true := by
  have hs : Ieee.double.signWeight = 9223372036854775808 := by decide
  have hb : Ieee.double.binade = 4503599627370496 := by decide
  have hi : Ieee.double.infRung = 9218868437227405312 := by decide
  show (Ieee.double.read ((t % 2) * 2 ^ 63 + 0x7ff0000000000000 + 1 + (t / 2) % (2 ^ 52 - 1))).isNaN = true
  unfold Ieee.Format.read
  simp only [hs, hb, hi]
  have h1 : (t / 2) % (2 ^ 52 - 1) < 4503599627370495 := Nat.mod_lt _ (by decide)
  have h2 : t % 2 < 2 := Nat.mod_lt _ (by decide)
  generalize (t / 2) % (2 ^ 52 - 1) = u at *
  generalize t % 2 = v at *
  have e : (v * 2 ^ 63 + 0x7ff0000000000000 + 1 + u) % 9223372036854775808 = 9218868437227405312 + 1 + u := by omega
  rw [e, if_neg (by omega), if_neg (by omega), if_neg (by omega)]
  rfl
theorem nan_run {P : Program} {w : World} {op : BinOp} {ty : TypeId} {x y : Nat} (ho : arithB op = true) (h : fOk op .f64 x y = false) :
    (binOp op ty (.float .f64 x) (.float .f64 y)).run P w = .ok (.float .f64 ((Question.nanBits .f64 x y).cut (w.tape w.drawn (.nanBits .f64 x y)))) w.drew := by
  unfold fOk floatBits at h
  cases op <;> first | (cases ho; done) | skip
  all_goals
    simp only at h
    rw [Option.isSome_eq_false_iff, Option.isNone_iff_eq_none] at h
    simp only [binOp, Op.floatArith]
    rw [show FloatKind.f64.format = Ieee.double from rfl] at h ⊢
    simp only [h]
    rfl
theorem nanCmp_run {P : Program} {w W0 : World} {S : Reg} {E : Env} {hp : Nat → Option AB} {op : BinOp} {ty : TypeId} {n : Nat} {e : Eff} {X Y : Value} (G : Gam W0 S E hp w) (h : (nanCmp op n hp).get = some e)
    (hX : (conc E (.fl n) = some X ∧ ∃ b, Y = .float .f64 b) ∨ (conc E (.fl n) = some Y ∧ ∃ a, X = .float .f64 a)) : ∃ V, e.val = .v V ∧ (∀ u v, (eqGuard op ty u v X Y).run P w = .ok () w) ∧ (binOp op ty X Y).run P w = .ok V w ∧ e.upd = [] ∧ e.news = [] := by
  obtain ⟨F, R, G⟩ := G
  unfold nanCmp at h
  split at h
  case h_2 => exact get_no h
  rename_i hn
  obtain ⟨p, hp1, _, _, hnan⟩ := G.holds n _ hn
  have key : ∃ a b, X = .float .f64 a ∧ Y = .float .f64 b ∧ ((FloatKind.f64.decode a).isNaN = true ∨ (FloatKind.f64.decode b).isNaN = true) := by
    rcases hX with ⟨h1, b, rfl⟩ | ⟨h1, a, rfl⟩
    · simp only [conc, hp1, Option.map_some, Option.some.injEq] at h1
      exact ⟨_, _, h1.symm, rfl, .inl hnan⟩
    · simp only [conc, hp1, Option.map_some, Option.some.injEq] at h1
      exact ⟨_, _, rfl, h1.symm, .inr hnan⟩
  obtain ⟨a, b, rfl, rfl, hab⟩ := key
  have ho := nan_order hab
  have hg : ∀ u v, (eqGuard op ty u v (.float .f64 a) (.float .f64 b)).run P w = .ok () w := fun u v => by cases op <;> simp [eqGuard]
  cases op <;> dsimp only at h <;> first
    | exact get_no h
    | (obtain rfl := get_one h; exact ⟨_, rfl, hg, by simp [binOp, Op.floatCmp, ho], rfl, rfl⟩)
theorem nan_ok {C : Cx} {op : BinOp} {ty : TypeId} {x y : Operand} {ty' : TypeId} {o : Oper} {a : Act} {w W0 : World} {S : Reg} {E : Env} {hp : Nat → Option AB} {fr : Nat} {e : Eff} {av bv : AV} (ho : o.op = .binOp op ty x y ty') (hx : conc E av = some (a.eval x)) (hy : conc E bv = some (a.eval y)) (G : Gam W0 S E hp w)
    (hfr : ∀ n, fr ≤ n → n < fr + e.nn → E n = none) (h : (effNan op av bv hp fr).get = some e) : OpOk C.P o a w W0 S E hp fr e := by
  have viaCmp : ∀ n, (nanCmp op n hp).get = some e → ((conc E (.fl n) = some (a.eval x) ∧ ∃ b, a.eval y = .float .f64 b) ∨ (conc E (.fl n) = some (a.eval y) ∧ ∃ b, a.eval x = .float .f64 b)) → OpOk C.P o a w W0 S E hp fr e := by
    intro n hn hX
    obtain ⟨V, hV, hg, h1, hu, hnw⟩ := nanCmp_run (P := C.P) (ty := ty) G hn hX
    refine OpOk.value G (V := V) ?_ (by rw [hV]; rfl) hu hnw
    simp only [execOp, ho, Sem.run_bind, hg, Result.andThen_ok, h1, Sem.run_pure]
  unfold effNan at h
  split at h
  · rename_i x' y'
    cases hb : arithB op with
    | false => rw [hb] at h; exact get_no h
    | true =>
      rw [hb] at h
      simp only [cond_true] at h
      simp only [conc, Option.some.injEq] at hx hy
      have hg : ∀ u v (w : World), (eqGuard op ty u v (.float .f64 x') (.float .f64 y')).run C.P w = .ok () w := fun u v w => by cases op <;> simp [eqGuard]
      cases hok : fOk op .f64 x' y' with
      | true =>
        rw [hok] at h
        obtain rfl := get_one h
        have h1 := run_float_arith (P := C.P) w op ty .f64 x' y' _ (fBits hok)
        refine OpOk.value G (V := .float .f64 (fVal op .f64 x' y')) ?_ rfl rfl rfl
        simp only [execOp, ho, ← hx, ← hy, Sem.run_bind, hg, Result.andThen_ok, h1, Sem.run_pure]
      | false =>
        rw [hok] at h
        obtain rfl := get_one h
        obtain ⟨F, R, G⟩ := G
        have hE : E fr = none := hfr fr (Nat.le_refl _) (Nat.lt_succ_self _)
        have hrun : (execOp a.eval o).run C.P w = .ok (.value (.float .f64 ((Question.nanBits .f64 x' y').cut (w.tape w.drawn (.nanBits .f64 x' y'))))) w.drew := by
          simp only [execOp, ho, ← hx, ← hy, Sem.run_bind, hg, Result.andThen_ok, nan_run hb hok, Sem.run_pure]
        exact OpOk.post G hrun (by simp only [conc, Env.set_self, Option.map_some]) (Post.one (p := { block := (Question.nanBits .f64 x' y').cut (w.tape w.drawn (.nanBits .f64 x' y')) }) hE rfl rfl (fun n z hz => by cases hz) (Fr.drew _ _)
          (b := .nan) (F1 := []) (R1 := []) ⟨rfl, rfl, nan_cut _ x' y'⟩ List.nodup_nil (fun k hk => by cases hk) (fun k hk => by cases hk))
  · simp only [conc, Option.some.injEq] at hy
    exact viaCmp _ h (.inl ⟨hx, _, hy.symm⟩)
  · simp only [conc, Option.some.injEq] at hx
    exact viaCmp _ h (.inr ⟨hy, _, hx.symm⟩)
  · rename_i n m
    have hy' := hy
    simp only [conc] at hy'
    cases hm : E m with
    | none => rw [hm] at hy'; cases hy'
    | some p =>
      rw [hm] at hy'
      simp only [Option.map_some, Option.some.injEq] at hy'
      exact viaCmp _ h (.inl ⟨hx, _, hy'.symm⟩)
  · exact get_no h
theorem f64_conc {E : Env} {v : AV} {V : Value} (hf : isF64 v = true) (h : conc E v = some V) : ∃ b, V = .float .f64 b := by
  unfold isF64 at hf
  split at hf
  · simp only [conc, Option.some.injEq] at h; exact ⟨_, h.symm⟩
  · rename_i n
    simp only [conc] at h
    cases hm : E n with
    | none => rw [hm] at h; cases h
    | some p => rw [hm] at h; simp only [Option.map_some, Option.some.injEq] at h; exact ⟨_, h.symm⟩
  · cases hf
theorem run_cx {P : Program} {w : World} (ts : Array TypeId) (ty : TypeId) (p q : Nat) : (Builtin.complex_ ts ty #[.float .f64 p, .float .f64 q]).run P w = .ok (.complex .f64 p q) w := rfl
theorem run_re {P : Program} {w : World} (ts : Array TypeId) (ty : TypeId) (k : FloatKind) (p q : Nat) : (Builtin.real_ ts ty #[.complex k p q]).run P w = .ok (.float k p) w := rfl
theorem run_im {P : Program} {w : World} (ts : Array TypeId) (ty : TypeId) (k : FloatKind) (p q : Nat) : (Builtin.imag_ ts ty #[.complex k p q]).run P w = .ok (.float k q) w := rfl
theorem cx_ok {C : Cx} {as : Array Operand} {ts : Array TypeId} {x y : Operand} {o : Oper} {a : Act} {w W0 : World} {S : Reg} {E : Env} {hp : Nat → Option AB} {lo : Nat} {e : Eff} {av bv : AV} (ho : o.op = .call ⟨.builtin .complex, as, ts⟩) (has : as = #[x, y]) (hx : conc E av = some (a.eval x)) (hy : conc E bv = some (a.eval y)) (G : Gam W0 S E hp w)
    (h : (effCx av bv).get = some e) : OpOk C.P o a w W0 S E hp lo e := by
  unfold effCx at h
  cases hb : (isF64 av && isF64 bv) with
  | false => rw [hb] at h; exact get_no h
  | true =>
    rw [hb] at h
    obtain rfl := get_one h
    rw [Bool.and_eq_true] at hb
    obtain ⟨p, hp1⟩ := f64_conc hb.1 hx
    obtain ⟨q, hq1⟩ := f64_conc hb.2 hy
    refine OpOk.value G (V := .complex .f64 p q) ?_ (by simp only [conc, hx, hy, hp1, hq1, Option.bind_some, cxOf, if_true]) rfl rfl
    simp [execOp, ho, has, resolve, invoke, builtin, hp1, hq1, run_cx]
theorem cx_parts {E : Env} {p q : AV} {V : Value} (h : conc E (.cx p q) = some V) : ∃ k x y, V = .complex k x y ∧ conc E p = some (.float k x) ∧ conc E q = some (.float k y) := by
  simp only [conc] at h
  cases hp : conc E p with
  | none => rw [hp] at h; cases h
  | some X =>
    rw [hp] at h
    simp only [Option.bind_some] at h
    cases hq : conc E q with
    | none => rw [hq] at h; cases h
    | some Y =>
      rw [hq] at h
      simp only [Option.bind_some] at h
      obtain ⟨k, x, y, rfl, rfl, rfl⟩ := cxOf_some h
      exact ⟨k, x, y, rfl, rfl, rfl⟩
theorem re_ok {C : Cx} {as : Array Operand} {ts : Array TypeId} {x : Operand} {o : Oper} {a : Act} {w W0 : World} {S : Reg} {E : Env} {hp : Nat → Option AB} {lo : Nat} {e : Eff} {av : AV} (ho : o.op = .call ⟨.builtin .real, as, ts⟩) (has : as = #[x]) (hx : conc E av = some (a.eval x)) (G : Gam W0 S E hp w)
    (h : (effRe av).get = some e) : OpOk C.P o a w W0 S E hp lo e := by
  unfold effRe at h
  split at h
  case h_2 => exact get_no h
  obtain rfl := get_one h
  obtain ⟨k, u, v, hV, h1, h2⟩ := cx_parts hx
  refine OpOk.value G (V := .float k u) ?_ h1 rfl rfl
  simp [execOp, ho, has, resolve, invoke, builtin, hV, run_re]
theorem im_ok {C : Cx} {as : Array Operand} {ts : Array TypeId} {x : Operand} {o : Oper} {a : Act} {w W0 : World} {S : Reg} {E : Env} {hp : Nat → Option AB} {lo : Nat} {e : Eff} {av : AV} (ho : o.op = .call ⟨.builtin .imag, as, ts⟩) (has : as = #[x]) (hx : conc E av = some (a.eval x)) (G : Gam W0 S E hp w)
    (h : (effIm av).get = some e) : OpOk C.P o a w W0 S E hp lo e := by
  unfold effIm at h
  split at h
  case h_2 => exact get_no h
  obtain rfl := get_one h
  obtain ⟨k, u, v, hV, h1, h2⟩ := cx_parts hx
  refine OpOk.value G (V := .float k v) ?_ h2 rfl rfl
  simp [execOp, ho, has, resolve, invoke, builtin, hV, run_im]
/-- Every rule is sound. -/
theorem effOp_ok {C : Cx} (hK : KOk C) {o : Oper} {a : Act} {w : World} {E : Env} {hp : Nat → Option AB} {e : Eff} {t : Operand → AV} {fr : Nat} {W0 : World} {S : Reg} (hv : ∀ x ∈ o.op.operands, conc E (t x) = some (a.eval x))
    (G : Gam W0 S E hp w) (hgl : GlOk C.gl E) (hfr : ∀ n, fr ≤ n → n < fr + e.nn → E n = none) (h : (effOp C o t hp fr).get = some e) : OpOk C.P o a w W0 S E hp fr e := by
  unfold effOp at h
  split at h
  · rename_i x ho; obtain rfl := get_one h; exact OpOk.value G (V := a.eval x) (by simp [execOp, ho]) (hv x (by simp [ho, Op.operands])) rfl rfl
  · rename_i x ho; obtain rfl := get_one h; exact OpOk.value G (V := a.eval x) (by simp [execOp, ho]) (hv x (by simp [ho, Op.operands])) rfl rfl
  · rename_i c x y ho; exact pick_ok G ho (hv c (by simp [ho, Op.operands])) (hv x (by simp [ho, Op.operands])) (hv y (by simp [ho, Op.operands])) h
  · rename_i el x ho; exact box_ok G ho (hv x (by simp [ho, Op.operands])) hfr h
  · rename_i el ho; exact alloc_ok G ho hfr h
  · rename_i ty parts ho; exact build_ok G ho (fun p hp => hv p.2 (by rw [ho]; simp only [Op.operands]; exact List.mem_toArray.2 (List.mem_map.2 ⟨p, hp, rfl⟩))) h
  · rename_i ty len parts ho; exact buildSlice_ok G ho (fun p hp => hv p.2 (by rw [ho]; simp only [Op.operands]; exact List.mem_toArray.2 (List.mem_map.2 ⟨p, hp, rfl⟩))) hfr h
  · rename_i ty l c ho; exact makeSlice_ok G ho (hv l (by simp [ho, Op.operands])) (hv c (by simp [ho, Op.operands])) hfr h
  · rename_i ty x ho; exact load_ok ho (hv x (by simp [ho, Op.operands])) G hfr h
  · rename_i ty x y ho; exact store_ok ho (hv x (by simp [ho, Op.operands])) (hv y (by simp [ho, Op.operands])) G hfr h
  · rename_i x ho; exact nil_ok G ho (hv x (by simp [ho, Op.operands])) h
  · rename_i s x f ho; exact field_ok ho (hv x (by simp [ho, Op.operands])) G h
  · rename_i ty x y ho; exact index_ok ho (hv x (by simp [ho, Op.operands])) (hv y (by simp [ho, Op.operands])) G hfr h
  · rename_i ty x f ho; exact part_ok ho (hv x (by simp [ho, Op.operands])) G h
  · rename_i ty x y ho; exact elem_ok ho (hv x (by simp [ho, Op.operands])) (hv y (by simp [ho, Op.operands])) G h
  · rename_i ty x l hh m ho
    exact slice_ok ho (hv x (by simp [ho, Op.operands])) (fun y hy => hv y (by simp [ho, Op.operands, hy])) (fun y hy => hv y (by simp [ho, Op.operands, hy])) (fun y hy => hv y (by simp [ho, Op.operands, hy])) G hfr h
  · rename_i op ty x y ty' ho
    cases hn : (C.nan && nanCase op (t x) (t y)) with
    | true => rw [hn] at h; exact nan_ok ho (hv x (by simp [ho, Op.operands])) (hv y (by simp [ho, Op.operands])) G hfr h
    | false => rw [hn] at h; exact cmp_ok ho (hv x (by simp [ho, Op.operands])) (hv y (by simp [ho, Op.operands])) G h
  · rename_i src dst x ho; exact convert_ok ho (hv x (by simp [ho, Op.operands])) G h
  · rename_i x i ho; exact extract_ok G ho (hv x (by simp [ho, Op.operands])) h
  · rename_i f first caps ho; exact makeFunc_ok G ho (fun x hx => hv x (by simp [ho, Op.operands, hx])) (fun x hx => hv x (by simp [ho, Op.operands, hx])) h
  · rename_i f as ts ho; exact call_ok hK ho hv G hgl hfr h
  · rename_i as ts ho; exact min_ok G ho (fun x hx => hv x (by simp [ho, Op.operands, Call.operands, hx])) h
  · rename_i as ts ho; exact max_ok G ho (fun x hx => hv x (by simp [ho, Op.operands, Call.operands, hx])) h
  · rename_i as ts ho
    split at h
    case h_2 => exact get_no h
    rename_i x y h1
    exact cx_ok ho (by apply Array.toList_inj.1; rw [h1]) (hv x (by simp [ho, Op.operands, Call.operands, ← Array.mem_toList_iff, h1])) (hv y (by simp [ho, Op.operands, Call.operands, ← Array.mem_toList_iff, h1])) G h
  · rename_i as ts ho
    split at h
    case h_2 => exact get_no h
    rename_i x h1
    exact re_ok ho (by apply Array.toList_inj.1; rw [h1]) (hv x (by simp [ho, Op.operands, Call.operands, ← Array.mem_toList_iff, h1])) G h
  · rename_i as ts ho
    split at h
    case h_2 => exact get_no h
    rename_i x h1
    exact im_ok ho (by apply Array.toList_inj.1; rw [h1]) (hv x (by simp [ho, Op.operands, Call.operands, ← Array.mem_toList_iff, h1])) G h
  · rename_i as ts ho
    split at h
    case h_2 => exact get_no h
    rename_i x ty h1 h2
    exact len_ok ho (by apply Array.toList_inj.1; rw [h1]) (by apply Array.toList_inj.1; rw [h2]) (hv x (by simp [ho, Op.operands, Call.operands, ← Array.mem_toList_iff, h1])) G h
  · rename_i as ts ho
    split at h
    case h_2 => exact get_no h
    rename_i x ty h1 h2
    exact cap_ok ho (by apply Array.toList_inj.1; rw [h1]) (by apply Array.toList_inj.1; rw [h2]) (hv x (by simp [ho, Op.operands, Call.operands, ← Array.mem_toList_iff, h1])) G h
  · rename_i as ts ho
    split at h
    case h_2 => exact get_no h
    rename_i s x h1
    exact append_ok ho (by apply Array.toList_inj.1; rw [h1]) (hv s (by simp [ho, Op.operands, Call.operands, ← Array.mem_toList_iff, h1])) (hv x (by simp [ho, Op.operands, Call.operands, ← Array.mem_toList_iff, h1])) G hfr h
  · rename_i ty r ho; exact makeMap_ok G ho (fun y hy => hv y (by simp [ho, Op.operands, hy])) hfr h
  · rename_i ty m k ok ho; exact lookup_ok G ho (hv m (by simp [ho, Op.operands])) (hv k (by simp [ho, Op.operands])) hfr h
  · rename_i ty m k x ho; exact update_ok G (.inl ho) (hv m (by simp [ho, Op.operands])) (hv k (by simp [ho, Op.operands])) (hv x (by simp [ho, Op.operands])) h
  · rename_i ty m k x ho; exact update_ok G (.inr ho) (hv m (by simp [ho, Op.operands])) (hv k (by simp [ho, Op.operands])) (hv x (by simp [ho, Op.operands])) h
  · rename_i ty m k ho; exact mapEntry_ok G ho (hv m (by simp [ho, Op.operands])) (hv k (by simp [ho, Op.operands])) h
  · rename_i ty m x y ho; exact entryStore_ok G ho (hv m (by simp [ho, Op.operands])) (hv x (by simp [ho, Op.operands])) (hv y (by simp [ho, Op.operands])) h
  · rename_i as ts ho
    split at h
    case h_2 => exact get_no h
    rename_i x ty h1 h2
    exact clear_ok G ho (by apply Array.toList_inj.1; rw [h1]) (by apply Array.toList_inj.1; rw [h2]) (hv x (by simp [ho, Op.operands, Call.operands, ← Array.mem_toList_iff, h1])) h
  · rename_i as ts ho
    split at h
    case h_2 => exact get_no h
    rename_i d x ty tr h1 h2
    exact copy_ok G ho (by apply Array.toList_inj.1; rw [h1]) (by apply Array.toList_inj.1; rw [h2]) (hv d (by simp [ho, Op.operands, Call.operands, ← Array.mem_toList_iff, h1])) (hv x (by simp [ho, Op.operands, Call.operands, ← Array.mem_toList_iff, h1])) h
  · rename_i as ts ho
    split at h
    case h_2 => exact get_no h
    rename_i m k ty tr h1 h2
    exact delete_ok G ho (by apply Array.toList_inj.1; rw [h1]) (by apply Array.toList_inj.1; rw [h2]) (hv m (by simp [ho, Op.operands, Call.operands, ← Array.mem_toList_iff, h1])) (hv k (by simp [ho, Op.operands, Call.operands, ← Array.mem_toList_iff, h1])) h
  · exact get_no h

theorem allKnown_ok {t : Operand → AV} : ∀ {l : List Operand}, allKnown t l = true → ∀ x ∈ l, isAny (t x) = false
  | [], _, x, h => by simp at h
  | y :: l, hk, x, h => by
    simp only [allKnown, Bool.and_eq_true, Bool.not_eq_true'] at hk
    rcases List.mem_cons.1 h with rfl | h
    · exact hk.1
    · exact allKnown_ok hk.2 x h
/-- Every effect is sound. -/
theorem eff_ok {C : Cx} (hK : KOk C) {o : Oper} {a : Act} {w : World} {E : Env} {hp : Nat → Option AB} {e : Eff} {t : Operand → AV} {fr : Nat} {W0 : World} {S : Reg} (hv : ∀ x ∈ o.op.operands, isAny (t x) = false → conc E (t x) = some (a.eval x))
    (G : Gam W0 S E hp w) (hgl : GlOk C.gl E) (hfr : ∀ n, fr ≤ n → n < fr + e.nn → E n = none) (h : (eff C o t hp fr).get = some e) : OpOk C.P o a w W0 S E hp fr e := by
  unfold eff at h
  cases hk : allKnown t o.op.operands.toList with
  | false => rw [hk] at h; exact get_no h
  | true =>
  rw [hk] at h
  simp only [Bool.not_true, cond_false] at h
  have hv : ∀ x ∈ o.op.operands, conc E (t x) = some (a.eval x) := fun x hx => hv x hx (allKnown_ok hk x (by simpa using hx))
  cases hr : hasRule o.op with
  | true => rw [hr] at h; exact effOp_ok hK hv G hgl hfr h
  | false =>
    rw [hr] at h
    simp only [cond_false] at h
    cases hp' : (noSel o.op && allPlain t o.op.operands.toList && !aggEq C.P t o.op) with
    | false => rw [hp'] at h; exact effOp_ok hK hv G hgl hfr h
    | true =>
      rw [hp'] at h
      simp only [cond_true] at h
      split at h
      · rename_i e' he
        obtain rfl := get_one h
        exact pure_ok G hv he
      · exact effOp_ok hK hv G hgl hfr h


/-! ### Locality -/
section
variable {lk lk' : Nat → Option AB}
theorem bindO_mk {α β : Type} {t : T (Option α)} {f : α → T (Option β)} {a : α} {b : β} (h1 : t.get = some a) (h2 : (f a).get = some b) : (t.bindO f).get = some b := by
  unfold T.bindO
  rw [T.get_bind, h1]
  exact h2
theorem mapO_mk {α β : Type} {t : T (Option α)} {f : α → β} {a : α} (h1 : t.get = some a) : (t.mapO f).get = some (f a) := by
  unfold T.mapO
  rw [T.get_map, h1]
  rfl
theorem when_mk {α : Type} {b : Bool} {t : T (Option α)} {a : α} (h1 : b = true) (h2 : t.get = some a) : (T.when b t).get = some a := by
  subst h1
  exact h2
/-- What is gathered hangs on the names that are gathered. -/
def GLoc {α : Type} (lk lk' : Nat → Option AB) (t t' : Gt α) : Prop := ∀ a, t.get = some a → (∀ m ∈ a.2.1 ++ a.2.2, lk' m = lk m) → t'.get = some a
theorem gatRows_loc {α : Type} {g g' : List AV → Gt α} (hg : ∀ cs, GLoc lk lk' (g cs) (g' cs)) {s : Nat} : ∀ (n : Nat) (cs : List AV), GLoc lk lk' (gatRows g s n cs) (gatRows g' s n cs)
  | 0, cs => fun a h _ => by
    simp only [gatRows] at h ⊢
    exact h
  | n + 1, cs => fun a h hl => by
    simp only [gatRows] at h ⊢
    obtain ⟨a1, h1, h⟩ := T.get_bindO h
    obtain ⟨a2, h2, rfl⟩ := T.get_mapO h
    have i1 := hg _ a1 h1 (fun m hm => hl m (by simp only [List.mem_append] at hm ⊢; rcases hm with h | h <;> simp [h]))
    have i2 := gatRows_loc hg n _ a2 h2 (fun m hm => hl m (by simp only [List.mem_append] at hm ⊢; rcases hm with h | h <;> simp [h]))
    exact bindO_mk i1 (mapO_mk i2)
theorem gatM_loc {row : Sh} {g g' : List AV → Gt (Den row)} (hg : ∀ cs, GLoc lk lk' (g cs) (g' cs)) (y : M) : GLoc lk lk' (gatM row g y) (gatM row g' y) := by
  intro a h hl
  cases y with
  | raw e s cs =>
    simp only [gatM] at h ⊢
    cases hb : (Nat.beq s row.size && Nat.blt 0 s) with
    | false => rw [hb] at h; exact get_noG h
    | true => rw [hb] at h; exact gatRows_loc hg _ _ a h hl
  | rows e sh l => exact h
  | hol e sh l i q cs =>
    simp only [gatM] at h ⊢
    split at h
    · rename_i he
      obtain ⟨b, hb, rfl⟩ := T.get_mapO h
      simp only [dif_pos he]
      exact mapO_mk (hg _ b hb hl)
    · exact get_noG h
theorem gatB_loc {own : Bool} {e : TypeId} {row : Sh} {g g' : List AV → Gt (Den row)} (hg : ∀ cs, GLoc lk lk' (g cs) (g' cs)) (n : Nat) : GLoc lk lk' (gatB lk own e row g n) (gatB lk' own e row g' n) := by
  intro a h hl
  unfold gatB at h ⊢
  cases own with
  | true =>
    simp only at h ⊢
    split at h
    case h_2 => exact get_noG h
    rename_i y hy
    cases hb : Nat.beq y.e e with
    | false => rw [hb] at h; exact get_noG h
    | true =>
      rw [hb] at h
      simp only [cond_true] at h
      obtain ⟨b, hb1, rfl⟩ := T.get_mapO h
      rw [hl n (by simp), hy]
      simp only [hb, cond_true]
      exact mapO_mk (gatM_loc hg y b hb1 (fun m hm => hl m (by simp only [List.cons_append, List.mem_cons]; exact .inr hm)))
  | false =>
    simp only at h ⊢
    split at h
    case h_2 => exact get_noG h
    rename_i y hy
    obtain ⟨b, hb1, rfl⟩ := T.get_mapO h
    rw [hl n (by simp), hy]
    exact mapO_mk (gatM_loc hg y b hb1 (fun m hm => hl m (by simp only [List.nil_append, List.mem_cons]; exact .inr hm)))
theorem gatCr_loc {row : Sh} {g g' : List AV → Gt (Den row)} (hg : ∀ cs, GLoc lk lk' (g cs) (g' cs)) {n r o len : Nat} {c : Option Nat} : GLoc lk lk' (gatCr lk row g n r o len c) (gatCr lk' row g' n r o len c) := by
  intro a h hl
  unfold gatCr at h ⊢
  split at h
  case h_2 => exact get_noG h
  rename_i e' s cs k hy
  cases hb : (Nat.ble (r * s + o + len * row.size) cs.length && Nat.ble len k && Nat.blt 0 row.size) with
  | false => rw [hb] at h; exact get_noG h
  | true =>
    rw [hb] at h
    obtain ⟨b, hg1, rfl⟩ := T.get_mapO h
    rw [hl n (by simp), hy]
    simp only [hb, cond_true]
    exact mapO_mk (gatRows_loc hg _ _ b hg1 (fun m hm => hl m (by simp only [List.nil_append, List.mem_cons]; exact .inr hm)))
/-- What is gathered of a slice's block is read of it. -/
theorem crossB_loc {own : Bool} {n size : Nat} (h : lk' n = lk n) : crossB lk' own n size = crossB lk own n size := by
  unfold crossB; rw [h]
theorem gatCr_mem {row : Sh} {g : List AV → Gt (Den row)} {n r o len : Nat} {c : Option Nat} {a : List (Den row) × List Nat × List Nat} (h : (gatCr lk row g n r o len c).get = some a) : n ∈ a.2.1 ++ a.2.2 := by
  unfold gatCr at h
  split at h
  case h_2 => exact get_noG h
  rename_i e' s cs k hy
  cases hb : (Nat.ble (r * s + o + len * row.size) cs.length && Nat.ble len k && Nat.blt 0 row.size) with
  | false => rw [hb] at h; exact get_noG h
  | true =>
    rw [hb] at h
    obtain ⟨b, hg1, rfl⟩ := T.get_mapO h
    simp
theorem gatB_mem {own : Bool} {e : TypeId} {row : Sh} {g : List AV → Gt (Den row)} {n : Nat} {a : List (Den row) × List Nat × List Nat} (h : (gatB lk own e row g n).get = some a) : n ∈ a.2.1 ++ a.2.2 := by
  unfold gatB at h
  cases own with
  | true =>
    simp only at h
    split at h
    case h_2 => exact get_noG h
    rename_i y hy
    cases hb : Nat.beq y.e e with
    | false => rw [hb] at h; exact get_noG h
    | true =>
      rw [hb] at h
      obtain ⟨b, hb, rfl⟩ := T.get_mapO h
      simp
  | false =>
    simp only at h
    split at h
    case h_2 => exact get_noG h
    obtain ⟨b, hb, rfl⟩ := T.get_mapO h
    simp
theorem gatS_loc {own : Bool} {e : TypeId} {row : Sh} {g g' : List AV → Gt (Den row)} (hg : ∀ cs, GLoc lk lk' (g cs) (g' cs)) (v : AV) : GLoc lk lk' (gatS lk own e row g v) (gatS lk' own e row g' v) := by
  intro a h hl
  unfold gatS at h ⊢
  split at h
  · exact h
  · rename_i n r o len c
    cases hcr : crossB lk own n row.size with
    | true =>
      rw [hcr] at h
      simp only [cond_true] at h
      rw [crossB_loc (hl n (gatCr_mem h)), hcr]
      exact gatCr_loc hg a h hl
    | false =>
    rw [hcr] at h
    simp only [cond_false] at h
    cases hb : Nat.beq o 0 with
    | false => rw [hb] at h; exact get_noG h
    | true =>
      rw [hb] at h
      simp only [cond_true, hb] at h ⊢
      · obtain ⟨b, hb1, h⟩ := T.get_bindO h
        obtain ⟨h1, rfl⟩ := whenG_get h
        have hnm := gatB_mem hb1
        rw [crossB_loc (hl n hnm), hcr]
        exact bindO_mk (gatB_loc hg n b hb1 hl) h
  · rename_i n r0 r
    obtain ⟨b, hb1, h⟩ := T.get_bindO h
    obtain ⟨h1, rfl⟩ := whenG_get h
    exact bindO_mk (gatB_loc hg n b hb1 hl) h
  · exact get_noG h
theorem gatP_loc {own : Bool} {e : TypeId} {row : Sh} {g g' : List AV → Gt (Den row)} (hg : ∀ cs, GLoc lk lk' (g cs) (g' cs)) (v : AV) : GLoc lk lk' (gatP lk own e row g v) (gatP lk' own e row g' v) := by
  intro a h hl
  unfold gatP at h ⊢
  split at h
  case h_2 => exact get_noG h
  rename_i n r o
  cases hb : (Nat.beq o 0 && Nat.beq r 0) with
  | false => rw [hb] at h; exact get_noG h
  | true =>
    rw [hb] at h
    simp only [cond_true, hb] at h ⊢
    obtain ⟨b, hb1, h⟩ := T.get_bindO h
    split at h
    case h_2 => exact get_noG h
    rename_i d hd
    simp only [T.get, Option.some.injEq] at h
    subst h
    refine bindO_mk (gatB_loc hg n b hb1 hl) ?_
    rw [hd]
    rfl
theorem gatE_loc {α : Type} {key : Sh} {g g' : List AV → Gt α} (hg : ∀ cs, GLoc lk lk' (g cs) (g' cs)) : ∀ (es : List (AV × AV × Nat)), GLoc lk lk' (gatE key g es) (gatE key g' es)
  | [] => fun a h _ => h
  | (k, v, b) :: es => fun a h hl => by
    simp only [gatE] at h ⊢
    split at h
    case h_2 => exact get_noG h
    rename_i x hx
    obtain ⟨a1, h1, h⟩ := T.get_bindO h
    obtain ⟨a2, h2, rfl⟩ := T.get_mapO h
    try simp only [hx]
    exact bindO_mk (hg _ a1 h1 (fun m hm => hl m (by simp only [List.mem_append] at hm ⊢; rcases hm with h | h <;> simp [h])))
      (mapO_mk (gatE_loc hg es a2 h2 (fun m hm => hl m (by simp only [List.mem_append] at hm ⊢; rcases hm with h | h <;> simp [h]))))
theorem nmO_self {own : Bool} {n : Nat} {as bs : List Nat} : n ∈ (nmO own n as bs).1 ++ (nmO own n as bs).2 := by cases own <;> simp [nmO]
theorem nmO_sub {own : Bool} {n : Nat} {as bs : List Nat} {m : Nat} (h : m ∈ as ++ bs) : m ∈ (nmO own n as bs).1 ++ (nmO own n as bs).2 := by
  cases own <;> simp [nmO] at h ⊢ <;> exact .inr h
theorem gatO_loc {own : Bool} {key row : Sh} {g g' : List AV → Gt (Den row)} (hg : ∀ cs, GLoc lk lk' (g cs) (g' cs)) {k : Obk} {v : AV} : GLoc lk lk' (gatO lk own key row g k v) (gatO lk' own key row g' k v) := by
  intro a h hl
  cases k with
  | map =>
    simp only [gatO] at h ⊢
    split at h
    case h_2 => exact get_noG h
    rename_i n
    try simp only
    split at h
    · rename_i o key' row' l hb
      split at h
      case isFalse => exact get_noG h
      rename_i e1
      split at h
      case isFalse => exact get_noG h
      rename_i e2
      cases ho : (o || !own) with
      | false => rw [ho] at h; exact get_noG h
      | true =>
        have hn : lk' n = lk n := by
          rw [ho] at h
          simp only [cond_true, T.get, Option.some.injEq] at h
          subst h
          exact hl n nmO_self
        rw [hn, hb]
        simp only [e1, e2, dif_pos]
        exact h
    · rename_i o key' row' l i x hb
      split at h
      case isFalse => exact get_noG h
      rename_i e1
      split at h
      case isFalse => exact get_noG h
      rename_i e2
      cases ho : (o || !own) with
      | false => rw [ho] at h; exact get_noG h
      | true =>
        rw [ho] at h
        obtain ⟨a1, h1, rfl⟩ := T.get_mapO h
        rw [hl n nmO_self, hb]
        simp only [e1, e2, dif_pos, ho, cond_true]
        exact mapO_mk (hg _ a1 h1 (fun m hm => hl m (nmO_sub hm)))
    · rename_i es c hb
      obtain ⟨a1, h1, rfl⟩ := T.get_mapO h
      rw [hl n nmO_self, hb]
      exact mapO_mk (gatE_loc hg es a1 h1 (fun m hm => hl m (nmO_sub hm)))
    · exact get_noG h
  | ob j =>
    simp only [gatO] at h ⊢
    split at h
    case h_2 => exact get_noG h
    rename_i n
    try simp only
    split at h
    case h_2 => exact get_noG h
    rename_i o j' key' row' d hb
    split at h
    case isFalse => exact get_noG h
    rename_i e1
    cases ho : (o || !own) with
    | false => rw [ho] at h; exact get_noG h
    | true =>
      have hn : lk' n = lk n := by
        rw [ho] at h
        simp only [cond_true, T.get, Option.some.injEq] at h
        subst h
        exact hl n nmO_self
      rw [hn, hb]
      simp only [e1, dif_pos]
      exact h
theorem gat_loc : ∀ (lx : Bool) (sh : Sh) (cs : List AV), GLoc lk lk' (gat lk lx sh cs) (gat lk' lx sh cs)
  | lx, .nil, cs => fun a h _ => h
  | lx, .sc c r, cs => fun a h hl => by
    simp only [gat] at h ⊢
    split at h
    case h_2 => exact get_noG h
    try simp only
    split at h
    case h_2 => exact get_noG h
    rename_i x hx
    obtain ⟨b, hb, rfl⟩ := T.get_mapO h
    try simp only [hx]
    exact mapO_mk (gat_loc lx r _ b hb hl)
  | lx, .sl own e row r, cs => fun a h hl => by
    simp only [gat] at h ⊢
    split at h
    case h_2 => exact get_noG h
    try simp only
    obtain ⟨b1, h1, h⟩ := T.get_bindO h
    obtain ⟨b2, h2, rfl⟩ := T.get_mapO h
    exact bindO_mk (gatS_loc (gat_loc _ row) _ b1 h1 (fun m hm => hl m (by simp only [List.mem_append] at hm ⊢; rcases hm with h | h <;> simp [h])))
      (mapO_mk (gat_loc lx r _ b2 h2 (fun m hm => hl m (by simp only [List.mem_append] at hm ⊢; rcases hm with h | h <;> simp [h]))))
  | lx, .pt own e row r, cs => fun a h hl => by
    simp only [gat] at h ⊢
    split at h
    case h_2 => exact get_noG h
    try simp only
    obtain ⟨b1, h1, h⟩ := T.get_bindO h
    obtain ⟨b2, h2, rfl⟩ := T.get_mapO h
    exact bindO_mk (gatP_loc (gat_loc _ row) _ b1 h1 (fun m hm => hl m (by simp only [List.mem_append] at hm ⊢; rcases hm with h | h <;> simp [h])))
      (mapO_mk (gat_loc lx r _ b2 h2 (fun m hm => hl m (by simp only [List.mem_append] at hm ⊢; rcases hm with h | h <;> simp [h]))))
  | lx, .po own e row r, cs => fun a h hl => by
    simp only [gat] at h ⊢
    split at h
    · try simp only
      obtain ⟨b2, h2, rfl⟩ := T.get_mapO h
      exact mapO_mk (gat_loc lx r _ b2 h2 hl)
    · obtain ⟨b1, h1, h⟩ := T.get_bindO h
      obtain ⟨b2, h2, rfl⟩ := T.get_mapO h
      exact bindO_mk (gatP_loc (gat_loc _ row) _ b1 h1 (fun m hm => hl m (by simp only [List.mem_append] at hm ⊢; rcases hm with h | h <;> simp [h])))
        (mapO_mk (gat_loc lx r _ b2 h2 (fun m hm => hl m (by simp only [List.mem_append] at hm ⊢; rcases hm with h | h <;> simp [h]))))
    · exact get_noG h
  | lx, .mp k key row r, cs => fun a h hl => by
    simp only [gat] at h ⊢
    split at h
    case h_2 => exact get_noG h
    try simp only
    obtain ⟨b1, h1, h⟩ := T.get_bindO h
    obtain ⟨b2, h2, rfl⟩ := T.get_mapO h
    exact bindO_mk (gatO_loc (gat_loc _ row) b1 h1 (fun m hm => hl m (by simp only [List.mem_append] at hm ⊢; rcases hm with h | h <;> simp [h])))
      (mapO_mk (gat_loc lx r _ b2 h2 (fun m hm => hl m (by simp only [List.mem_append] at hm ⊢; rcases hm with h | h <;> simp [h]))))
  | lx, .ag tg row r, cs => fun a h hl => by
    simp only [gat] at h ⊢
    split at h
    case h_2 => exact get_noG h
    try simp only
    split at h
    case h_2 => exact get_noG h
    rename_i us hus
    try simp only [hus]
    obtain ⟨b1, h1, h⟩ := T.get_bindO h
    obtain ⟨b2, h2, rfl⟩ := T.get_mapO h
    exact bindO_mk (gat_loc lx row _ b1 h1 (fun m hm => hl m (by simp only [List.mem_append] at hm ⊢; rcases hm with h | h <;> simp [h])))
      (mapO_mk (gat_loc lx r _ b2 h2 (fun m hm => hl m (by simp only [List.mem_append] at hm ⊢; rcases hm with h | h <;> simp [h]))))
theorem allRo_loc : ∀ {ms : List Nat}, (∀ m ∈ ms, lk' m = lk m) → allRo lk' ms = allRo lk ms
  | [], _ => rfl
  | m :: ms, h => by simp only [allRo]; rw [h m (by simp), allRo_loc (fun n hn => h n (by simp [hn]))]

theorem load_loc {P : Program} {ty : TypeId} {a : AV} {fr : Nat} {e : Eff} (h : (effLoad P ty a lk fr).get = some e) (hl : ∀ n ∈ e.reads, lk' n = lk n) : (effLoad P ty a lk' fr).get = some e := by
  unfold effLoad at h ⊢
  split at h
  case h_3 => exact get_no h
  case h_2 => exact h
  rename_i n r o
  split at h
  case h_2 => exact get_no h
  rename_i d i hd hi
  try simp only at h ⊢
  split at h
  · rename_i m hb
    split at h
    case h_2 => exact get_no h
    rename_i el sh l j q cs hm
    cases hc : (Nat.beq q n && Nat.beq r 0 && Nat.ble (o + (bif isAggD d then i.size else 1)) cs.length) with
    | false => rw [hc] at h; exact get_no h
    | true =>
      rw [hc] at h
      simp only [cond_true] at h
      have hr := (loaded_parts h).2.2.2
      rw [hl n (by rw [hr]; simp), hb]
      try simp only
      rw [hl m (by rw [hr]; simp), hm]
      simp only [hc, cond_true]
      exact h
  all_goals first
    | exact get_no h
    | (have hn : n ∈ e.reads := by
         first
         | (split at h
            · obtain ⟨x, _, h'⟩ := T.get_bindO h
              rw [(loaded_parts h').2.2.2]; simp
            · exact get_no h)
         | (rename_i el sh l _
            cases hp : sh.plainAt o (bif isAggD d then i.size else 1) with
            | true =>
              rw [hp] at h
              obtain ⟨x, _, h'⟩ := T.get_bindO h
              rw [(loaded_parts h').2.2.2]; simp
            | false =>
              rw [hp] at h
              simp only [cond_false] at h
              cases hc : Nat.ble (o + (bif isAggD d then i.size else 1)) sh.size with
              | false => rw [hc] at h; exact get_no h
              | true =>
                rw [hc] at h
                simp only [cond_true] at h
                obtain ⟨_, h'⟩ := T.get_when h
                rw [T.get_bind] at h'
                rw [(loaded_parts h').2.2.2]; simp)
       rw [hl n hn]
       simp only [*]
       try exact h)
theorem store_loc {P : Program} {ty : TypeId} {a x : AV} {fr : Nat} {e : Eff} (h : (effStore P ty a x lk fr).get = some e) (hl : ∀ n ∈ e.reads, lk' n = lk n) : (effStore P ty a x lk' fr).get = some e := by
  unfold effStore at h ⊢
  split at h
  case h_2 => exact get_no h
  rename_i n r o
  split at h
  case h_2 => exact get_no h
  rename_i i hi
  try simp only at h ⊢
  cases hb : (Nat.beq (acells x).length i.size && allOne (acells x)) with
  | false => rw [hb] at h; exact get_no h
  | true =>
    rw [hb] at h
    simp only [cond_true, hi] at h ⊢
    split at h
    · rename_i m hbn
      split at h
      case h_2 => exact get_no h
      rename_i el sh l j q cs hm
      cases hc : (Nat.beq q n && Nat.beq r 0 && Nat.ble (o + (acells x).length) cs.length) with
      | false => rw [hc] at h; exact get_no h
      | true =>
        rw [hc] at h
        have hr : e.reads = [n, m] := by rw [← get_one h]
        rw [hl n (by rw [hr]; simp), hbn]
        try simp only
        rw [hl m (by rw [hr]; simp), hm]
        simp only [hc]
        exact h
    · rename_i el sh l hbn
      have hn : n ∈ e.reads := by
        cases hf : sh.flat with
        | true => rw [hf] at h; obtain ⟨z, hz, rfl⟩ := T.get_mapO h; simp
        | false =>
          rw [hf] at h
          simp only [cond_false] at h
          cases hq : Nat.ble (o + (acells x).length) sh.size with
          | false => rw [hq] at h; exact get_no h
          | true =>
            rw [hq] at h
            simp only [cond_true] at h
            obtain ⟨_, h⟩ := T.get_when h
            rw [T.get_bind] at h
            rw [← get_one h]; simp
      rw [hl n hn, hbn]
      exact h
    · rename_i y hb0 hbn
      have h' := h
      obtain ⟨z, hz, rfl⟩ := T.get_mapO h'
      rw [hl n (by simp), hbn]
      cases y <;> first | (exfalso; exact hb0 _ _ _ rfl) | exact h
    · exact get_no h
theorem focus_reads {n : Nat} {el : TypeId} {sh : Sh} {l : List (Den sh)} {idx fr : Nat} {rd : List Nat} {up : Hp} {e : Eff} (h : (focus n el sh l idx fr rd up).get = some e) : e.reads = rd := by
  unfold focus at h
  obtain ⟨_, h⟩ := T.get_when h
  rw [T.get_bind] at h
  rw [← get_one h]
theorem index_loc {P : Program} {ty : TypeId} {x i : AV} {fr : Nat} {e : Eff} (h : (effIndex P ty x i lk fr).get = some e) (hl : ∀ n ∈ e.reads, lk' n = lk n) : (effIndex P ty x i lk' fr).get = some e := by
  unfold effIndex at h ⊢
  split at h
  case h_2 => exact get_no h
  rename_i k j
  try simp only at h ⊢
  split at h
  · exact h
  · split at h
    case h_2 => exact get_no h
    rename_i ie hie
    try simp only [hie] at h ⊢
    split at h
    case h_2 => exact get_no h
    rename_i n r o len c
    try simp only at h ⊢
    split at h
    · rename_i el sh l hb
      have hn : n ∈ e.reads := by
        obtain ⟨_, h⟩ := T.get_when h
        cases hf : sh.flat with
        | true => rw [hf] at h; rw [← get_one h]; simp
        | false =>
          rw [hf] at h
          simp only [cond_false] at h
          cases hq : (Nat.beq sh.size ie.size && Nat.beq o 0) with
          | false => rw [hq] at h; exact get_no h
          | true => rw [hq] at h; rw [focus_reads h]; simp
      rw [hl n hn, hb]
      exact h
    · rename_i el sh l i q cs hb
      obtain ⟨h0, h⟩ := T.get_when h
      cases hq : (Nat.beq sh.size ie.size && Nat.beq o 0) with
      | false => rw [hq] at h; exact get_no h
      | true =>
        rw [hq] at h
        simp only [cond_true] at h
        rw [T.get_ite] at h
        split at h
        · rename_i hd
          have hn : n ∈ e.reads := by rw [← get_one h]; simp
          rw [hl n hn, hb]
          refine when_mk h0 ?_
          simp only [hq, cond_true]
          rw [T.get_ite, if_pos hd]
          exact h
        · rename_i hd
          obtain ⟨b, hg, h⟩ := T.get_bindO h
          cases hz : (nodupB b.2.1 && allRo lk b.2.2 && !b.2.1.contains n) with
          | false => rw [hz] at h; exact get_no h
          | true =>
            rw [hz] at h
            simp only [cond_true] at h
            have hr := focus_reads h
            rw [hl n (by rw [hr]; simp), hb]
            refine when_mk h0 ?_
            simp only [hq, cond_true]
            rw [T.get_ite, if_neg hd]
            refine bindO_mk (gat_loc false sh cs b hg (fun m hm => hl m (by rw [hr]; simp only [List.mem_cons]; exact .inr hm))) ?_
            rw [allRo_loc (fun m hm => hl m (by rw [hr]; simp [hm])), hz]
            exact h
    · rename_i b hb1 hb2 hb
      split at h
      case h_2 => exact get_no h
      rename_i y hy
      have hn : n ∈ e.reads := by
        obtain ⟨_, h⟩ := T.get_when h
        rw [← get_one h]; simp
      rw [hl n hn, hb]
      cases b with
      | own z => cases z <;> first | (exfalso; exact hb1 _ _ _ rfl) | (exfalso; exact hb2 _ _ _ _ _ _ rfl) | (simp only [AB.cont, Option.some.injEq] at hy; subst hy; exact h)
      | ro z => simp only [AB.cont, Option.some.injEq] at hy; subst hy; exact h
      | _ => simp [AB.cont] at hy
    · exact get_no h
  · exact get_no h
theorem cut_reads {n r o len : Nat} {c : Option Nat} {own : Bool} {y : M} {size : Nat} {l h m : Option Int} {fr : Nat} {e : Eff} (he : (effCut n r o len c own y size l h m fr).get = some e) : n ∈ e.reads := by
  have hk : ∀ k L H, (effCutK n r o k y size L H).get = some e → n ∈ e.reads := by
    intro k L H hk
    unfold effCutK at hk
    rw [T.get_ite] at hk
    split at hk <;> rw [← get_one hk] <;> simp
  unfold effCut at he
  split at he
  · cases hs : (h.isSome && own) <;> rw [hs] at he
    · exact get_no he
    · obtain ⟨_, he⟩ := T.get_when he; exact hk _ _ _ he
  · cases hs : (h.isSome && own) <;> rw [hs] at he
    · exact get_no he
    · obtain ⟨_, he⟩ := T.get_when he; exact hk _ _ _ he
  · cases hs : own <;> rw [hs] at he
    · exact get_no he
    · obtain ⟨_, he⟩ := T.get_when he; exact hk _ _ _ he
  · cases hs : (Nat.beq y.size size && Nat.beq o 0) <;> rw [hs] at he
    · exact get_no he
    · simp only [cond_true] at he
      split at he
      · obtain ⟨_, he⟩ := T.get_when he
        rw [← get_one he]; simp
      · obtain ⟨_, he⟩ := T.get_when he
        cases own with
        | true =>
          simp only [cond_true] at he
          rw [T.get_ite] at he
          split at he
          · rw [← get_one he]; simp
          · rw [← get_one he]; simp
        | false =>
          simp only [cond_false] at he
          cases hn : y.noHol <;> rw [hn] at he
          · exact get_no he
          · simp only [Bool.not_true, cond_false] at he
            obtain ⟨z, _, he⟩ := T.get_bindO he
            rw [← get_one he]; simp
theorem slice_loc {P : Program} {ty : TypeId} {x : AV} {l h m : Option AV} {fr : Nat} {e : Eff} (he : (effSlice P ty x l h m lk fr).get = some e) (hl : ∀ n ∈ e.reads, lk' n = lk n) : (effSlice P ty x l h m lk' fr).get = some e := by
  unfold effSlice at he ⊢
  split at he
  · try simp only
    split at he
    · rename_i n r o len c ie _
      have hn : n ∈ e.reads := by
        split at he
        · exact cut_reads he
        · exact cut_reads he
        · exact get_no he
      try simp only
      rw [hl n hn]
      exact he
    · exact he
    · exact get_no he
  · try simp only
    split at he
    case h_3 => exact get_no he
    case h_2 => exact he
    rename_i n r o ie _
    split at he
    · rename_i y hb
      have hn : n ∈ e.reads := by
        cases hb : Nat.blt 0 y.len <;> rw [hb] at he
        · exact get_no he
        · exact cut_reads he
      try simp only
      rw [hl n hn, hb]
      exact he
    · split at he <;> exact get_no he
    · exact get_no he
  · exact get_no he
theorem len_loc {P : Program} {ty : TypeId} {x : AV} {e : Eff} (h : (effLen P ty x lk).get = some e) (hl : ∀ n ∈ e.reads, lk' n = lk n) : (effLen P ty x lk').get = some e := by
  unfold effLen at h ⊢
  split at h
  · exact h
  · exact h
  · exact h
  · rename_i k el n _
    have hn : n ∈ e.reads := by
      split at h
      · obtain rfl := get_one h; simp
      · obtain rfl := get_one h; simp
      · obtain rfl := get_one h; simp
      · exact get_no h
    try simp only
    rw [hl n hn]
    exact h
  · exact get_no h
theorem rows_loc {x : AV} {size : Nat} {y : M} {ns sp : List Nat} (h : (rowsOf x size lk).get = some (y, ns, sp)) (hl : ∀ n ∈ ns, lk' n = lk n) : (rowsOf x size lk').get = some (y, ns, sp) := by
  unfold rowsOf at h ⊢
  split at h
  · rename_i n r o len c
    have hn : n ∈ ns := by
      split at h
      · rename_i z hz
        cases hb : (Nat.beq z.size size && Nat.beq o 0) <;> rw [hb] at h
        · obtain ⟨l, _, he⟩ := T.get_mapO h
          simp only [Prod.mk.injEq] at he
          simp [← he.2.1]
        · simp only [cond_true] at h
          cases hm : z.canMove <;> rw [hm] at h
          · simp only [cond_false] at h
            split at h
            · cases hr : (Nat.beq r 0 && c.isNone) <;> rw [hr] at h
              · exact get_none h
              · obtain ⟨_, h⟩ := T.get_when h
                simp only [T.get, Option.some.injEq, Prod.mk.injEq] at h
                simp [← h.2.1]
            · exact get_none h
          · obtain ⟨l, _, he⟩ := T.get_mapO h
            simp only [Prod.mk.injEq] at he
            simp [← he.2.1]
      · rename_i z hz
        cases hb : (Nat.beq z.size size && Nat.beq o 0) <;> rw [hb] at h
        · obtain ⟨l, _, he⟩ := T.get_mapO h
          simp only [Prod.mk.injEq] at he
          simp [← he.2.1]
        · simp only [cond_true] at h
          cases hm : z.canMove <;> rw [hm] at h
          · exact get_none h
          · obtain ⟨l, _, he⟩ := T.get_mapO h
            simp only [Prod.mk.injEq] at he
            simp [← he.2.1]
      · exact get_none h
    try simp only
    rw [hl n hn]
    exact h
  · exact h
  · exact h
  · exact h
  · exact h
  · exact h
theorem join_loc {el : TypeId} {x y z : M} {us ms : List Nat} (h : (joinM lk el x y).get = some (z, us, ms)) (hl : ∀ n ∈ us ++ ms, lk' n = lk n) : (joinM lk' el x y).get = some (z, us, ms) := by
  have typed : ∀ {sh : Sh}, ((gatM sh (gat lk false sh) x).bindO fun p => (gatM sh (gat lk false sh) y).bindO fun q =>
      bif sh.mem && nodupB (p.2.1 ++ q.2.1) && allRo lk (p.2.2 ++ q.2.2) then T.leaf (some (M.rows el sh (p.1 ++ q.1), p.2.1 ++ q.2.1, p.2.2 ++ q.2.2)) else T.leaf none).get = some (z, us, ms) →
      ((gatM sh (gat lk' false sh) x).bindO fun p => (gatM sh (gat lk' false sh) y).bindO fun q =>
      bif sh.mem && nodupB (p.2.1 ++ q.2.1) && allRo lk' (p.2.2 ++ q.2.2) then T.leaf (some (M.rows el sh (p.1 ++ q.1), p.2.1 ++ q.2.1, p.2.2 ++ q.2.2)) else T.leaf none).get = some (z, us, ms) := by
    intro sh h
    obtain ⟨p, h1, h⟩ := T.get_bindO h
    obtain ⟨q, h2, h⟩ := T.get_bindO h
    have key : us = p.2.1 ++ q.2.1 ∧ ms = p.2.2 ++ q.2.2 := by
      cases hb : (sh.mem && nodupB (p.2.1 ++ q.2.1) && allRo lk (p.2.2 ++ q.2.2)) with
      | false => rw [hb] at h; exact get_none h
      | true =>
        rw [hb] at h
        simp only [cond_true, T.get, Option.some.injEq, Prod.mk.injEq] at h
        exact ⟨h.2.1.symm, h.2.2.symm⟩
    obtain ⟨rfl, rfl⟩ := key
    refine bindO_mk (gatM_loc (gat_loc false sh) x p h1 (fun m hm => hl m (by simp only [List.mem_append] at hm ⊢; rcases hm with h | h <;> simp [h]))) (bindO_mk (gatM_loc (gat_loc false sh) y q h2 (fun m hm => hl m (by simp only [List.mem_append] at hm ⊢; rcases hm with h | h <;> simp [h]))) ?_)
    rw [allRo_loc (fun m hm => hl m (by simp only [List.mem_append] at hm ⊢; rcases hm with h | h <;> simp [h]))]
    exact h
  unfold joinM at h ⊢
  split at h
  · exact h
  · split at h
    · rename_i sh hsh
      try simp only [hsh]
      exact typed h
    · exact get_none h
theorem append_loc {P : Program} {ts : Array TypeId} {s x : AV} {fr : Nat} {e : Eff} (h : (effAppend P ts s x lk fr).get = some e) (hl : ∀ n ∈ e.reads, lk' n = lk n) : (effAppend P ts s x lk' fr).get = some e := by
  unfold effAppend at h ⊢
  split at h
  case h_2 => exact get_no h
  rename_i t t' hts
  split at h
  case h_2 => exact get_no h
  rename_i el hu
  try simp only
  split at h
  case h_2 => exact get_no h
  rename_i i hi
  try simp only
  split at h
  case h_2 => exact get_no h
  rename_i z hz
  simp only [hu, hi, hz] at h ⊢
  cases hb : (Nat.beq z.cells.size i.size && Nat.blt 0 i.size && Nat.ble i.bytes 65536 && (Nat.beq t t' || isStr P t')) with
  | false => rw [hb] at h; exact get_no h
  | true =>
    rw [hb] at h
    simp only [cond_true] at h ⊢
    obtain ⟨⟨y, ns, sp⟩, hrows, h⟩ := T.get_bindO h
    try simp only at h
    split at h
    · rw [T.get_ite] at h
      split at h
      · rename_i hd
        have hr : e.reads = ns := by rw [← get_one h]
        refine bindO_mk (rows_loc hrows (fun n hn => hl n (by rw [hr]; exact hn))) ?_
        try simp only
        rw [T.get_ite, if_pos hd]
        exact h
      · rename_i hd
        obtain ⟨h0, h⟩ := T.get_when h
        obtain ⟨⟨zz, us, ms⟩, hj, h⟩ := T.get_bindO h
        try simp only at h
        have hr : e.reads = ns ++ us ++ ms := by
          cases hn : nodupB (sp ++ us) <;> rw [hn] at h
          · exact get_no h
          · rw [← get_one h]
        refine bindO_mk (rows_loc hrows (fun n hn => hl n (by rw [hr]; simp [hn]))) ?_
        try simp only
        rw [T.get_ite, if_neg hd]
        exact when_mk h0 (bindO_mk (join_loc hj (fun n hn => hl n (by rw [hr]; simp only [List.mem_append] at hn ⊢; rcases hn with h | h <;> simp [h]))) h)
    · rename_i n r o len c _
      split at h
      case h_2 => exact get_no h
      rename_i b hbn
      cases hq : (Nat.beq o 0 && Nat.beq b.e _ && Nat.beq b.size i.size) with
      | false => rw [hq] at h; exact get_no h
      | true =>
        rw [hq] at h
        simp only [cond_true] at h
        split at h
        · obtain ⟨h0, h⟩ := T.get_when h
          obtain ⟨b', hsub, h⟩ := T.get_bindO h
          obtain ⟨⟨zz, us, ms⟩, hj, h⟩ := T.get_bindO h
          try simp only at h
          have hr : e.reads = n :: (ns ++ us ++ ms) := by
            cases hn : nodupB (n :: (sp ++ us)) <;> rw [hn] at h
            · exact get_no h
            · rw [← get_one h]
          refine bindO_mk (rows_loc hrows (fun n hn => hl n (by rw [hr]; simp [hn]))) ?_
          try simp only
          rw [hl n (by rw [hr]; simp), hbn]
          simp only [hq, cond_true]
          exact when_mk h0 (bindO_mk hsub (bindO_mk (join_loc hj (fun m hn => hl m (by rw [hr]; simp only [List.mem_append] at hn; rcases hn with h | h <;> simp [h]))) h))
        · cases hmv : b.canMove with
          | false => rw [hmv] at h; exact get_no h
          | true =>
            rw [hmv] at h
            simp only [cond_true] at h
            obtain ⟨h0, h⟩ := T.get_when h
            obtain ⟨b', hsub, h⟩ := T.get_bindO h
            obtain ⟨⟨zz, us, ms⟩, hj, h⟩ := T.get_bindO h
            try simp only at h
            have hr : e.reads = n :: (ns ++ us ++ ms) := by
              cases hn : nodupB (n :: (sp ++ us)) <;> rw [hn] at h
              · exact get_no h
              · rw [← get_one h]
            refine bindO_mk (rows_loc hrows (fun n hn => hl n (by rw [hr]; simp [hn]))) ?_
            try simp only
            rw [hl n (by rw [hr]; simp), hbn]
            simp only [hq, hmv, cond_true]
            exact when_mk h0 (bindO_mk hsub (bindO_mk (join_loc hj (fun m hn => hl m (by rw [hr]; simp only [List.mem_append] at hn; rcases hn with h | h <;> simp [h]))) h))
    · exact get_no h
theorem convert_loc {P : Program} {src dst : TypeId} {x : AV} {e : Eff} (h : (effConvert P src dst x lk).get = some e) (hl : ∀ n ∈ e.reads, lk' n = lk n) : (effConvert P src dst x lk').get = some e := by
  unfold effConvert at h ⊢
  split at h
  · rename_i e1 hs hd
    split at h
    · rename_i he
      cases hi : isSlice x with
      | false => rw [hi] at h; exact get_no h
      | true =>
      rw [hi] at h
      simp only [cond_true] at h ⊢
      obtain ⟨⟨y, ns, sp⟩, hr, h⟩ := T.get_bindO h
      simp only at h
      split at h
      · rename_i l hb
        obtain rfl := get_one h
        exact bindO_mk (rows_loc hr hl) (by simp only [hb]; rfl)
      · exact get_no h
    · exact get_no h
  · exact get_no h
theorem nilS_loc {P : Program} {op : BinOp} {ty : TypeId} {n : Nat} {e : Eff} (h : (effNilS P op ty n lk).get = some e) (hl : ∀ n ∈ e.reads, lk' n = lk n) : (effNilS P op ty n lk').get = some e := by
  unfold effNilS at h ⊢
  split at h
  · split at h
    · rename_i y hy
      obtain ⟨h1, h2⟩ := T.get_when h
      have hn : lk' n = lk n := by
        split at h2
        · obtain rfl := get_one h2; exact hl n (by simp)
        · obtain rfl := get_one h2; exact hl n (by simp)
        · exact get_no h2
      rw [hn, hy]
      exact h
    · exact get_no h
  · exact get_no h
theorem cmp_loc {P : Program} {op : BinOp} {ty : TypeId} {x y : AV} {e : Eff} (h : (effCmp P op ty x y lk).get = some e) (hl : ∀ n ∈ e.reads, lk' n = lk n) : (effCmp P op ty x y lk').get = some e := by
  unfold effCmp at h ⊢
  split at h
  · exact nilS_loc h hl
  · exact nilS_loc h hl
  · exact h
  · exact h
  · exact h
  · exact h
theorem nanCmp_loc {op : BinOp} {n : Nat} {e : Eff} (h : (nanCmp op n lk).get = some e) (hl : ∀ n ∈ e.reads, lk' n = lk n) : (nanCmp op n lk').get = some e := by
  have hr : n ∈ e.reads := by
    unfold nanCmp at h
    split at h
    · split at h <;> first | exact get_no h | (obtain rfl := get_one h; simp)
    · exact get_no h
  unfold nanCmp at h ⊢
  rw [hl n hr]
  exact h
theorem nan_loc {op : BinOp} {x y : AV} {fr : Nat} {e : Eff} (h : (effNan op x y lk fr).get = some e) (hl : ∀ n ∈ e.reads, lk' n = lk n) : (effNan op x y lk' fr).get = some e := by
  unfold effNan at h ⊢
  split at h
  · exact h
  · exact nanCmp_loc h hl
  · exact nanCmp_loc h hl
  · exact nanCmp_loc h hl
  · exact get_no h
theorem bin_loc {b : Bool} {P : Program} {op : BinOp} {ty : TypeId} {x y : AV} {fr : Nat} {e : Eff} (h : (bif b then effNan op x y lk fr else effCmp P op ty x y lk).get = some e) (hl : ∀ n ∈ e.reads, lk' n = lk n) : (bif b then effNan op x y lk' fr else effCmp P op ty x y lk').get = some e := by
  cases b with
  | true => exact nan_loc h hl
  | false => exact cmp_loc h hl
theorem gat_flat : ∀ (lx : Bool) (sh : Sh), sh.plainAt 0 sh.size = true → gat lk lx sh = gat lk' lx sh
  | lx, .nil, _ => by funext cs; simp only [gat]
  | lx, .sc c r, h => by
    have h' : r.plainAt 0 r.size = true := by simpa [Sh.plainAt, Sh.size] using h
    funext cs
    simp only [gat, gat_flat lx r h']
  | lx, .sl own e row r, h => by simp [Sh.plainAt, Sh.size] at h
  | lx, .pt own e row r, h => by simp [Sh.plainAt, Sh.size] at h
  | lx, .po own e row r, h => by simp [Sh.plainAt, Sh.size] at h
  | lx, .ag tg row r, h => by simp [Sh.plainAt, Sh.size] at h
  | lx, .mp k key row r, h => by simp [Sh.plainAt, Sh.size] at h
theorem over_loc {y z : M} {r o : Nat} : y.over lk r o z = y.over lk' r o z := by
  unfold M.over
  split
  · rfl
  · rename_i e sh l
    cases hf : sh.flat with
    | false => simp
    | true => rw [gat_flat (lk := lk) (lk' := lk') false sh hf]
  · rfl
theorem clear_loc {P : Program} {t : TypeId} {x : AV} {e : Eff} (h : (effClear P t x lk).get = some e) (hl : ∀ n ∈ e.reads, lk' n = lk n) : (effClear P t x lk').get = some e := by
  unfold effClear at h ⊢
  split at h
  · exact h
  · exact h
  · rename_i el n r o len c _
    split at h
    case h_2 => exact get_no h
    rename_i ie hie
    split at h
    case h_2 => exact get_no h
    rename_i z hz
    try simp only [hie, hz]
    cases hb : (Nat.blt 0 ie.size && Nat.beq z.cells.size ie.size) with
    | false => rw [hb] at h; exact get_no h
    | true =>
      rw [hb] at h
      simp only [cond_true] at h ⊢
      have hn : n ∈ e.reads := by
        split at h
        case h_2 => exact get_no h
        split at h
        case h_2 => exact get_no h
        obtain ⟨_, _, rfl⟩ := T.get_mapO h
        simp
      rw [hl n hn]
      split at h
      case h_2 => exact get_no h
      rename_i y hy
      try rw [hy]
      try simp only
      split at h
      case h_2 => exact get_no h
      rename_i zs hzs
      try rw [hzs]
      try simp only
      rw [over_loc (lk := lk') (lk' := lk)]
      exact h
  · exact get_no h
theorem copy_loc {P : Program} {t : TypeId} {d s : AV} {e : Eff} (h : (effCopy P t d s lk).get = some e) (hl : ∀ n ∈ e.reads, lk' n = lk n) : (effCopy P t d s lk').get = some e := by
  unfold effCopy at h ⊢
  split at h
  case h_2 => exact get_no h
  rename_i el n r o len c _
  split at h
  case h_2 => exact get_no h
  rename_i ie hie
  try simp only [hie]
  cases hb : Nat.blt 0 ie.size with
  | false => rw [hb] at h; exact get_no h
  | true =>
  rw [hb] at h
  simp only [cond_true] at h ⊢
  split at h
  case h_2 => exact get_no h
  rename_i y hy
  have rows : ∀ {x : AV} {k : Nat} {lc : Int} , ((rowsOf x k lk).bindO fun (z, ns, sp) => match sp with
      | [] => (y.over lk r o z).mapO fun y' => ({ val := .v (goInt lc), reads := n :: ns, upd := [(n, some (.own y'))] } : Eff)
      | _ => no).get = some e → lk' n = lk n ∧ ((rowsOf x k lk').bindO fun (z, ns, sp) => match sp with
      | [] => (y.over lk' r o z).mapO fun y' => ({ val := .v (goInt lc), reads := n :: ns, upd := [(n, some (.own y'))] } : Eff)
      | _ => no).get = some e := by
    intro x k lc h
    obtain ⟨⟨z, ns, sp⟩, hr, h⟩ := T.get_bindO h
    simp only at h
    split at h
    case h_2 => exact get_no h
    have h0 := h
    obtain ⟨y', hy', rfl⟩ := T.get_mapO h
    refine ⟨hl n (by simp), bindO_mk (rows_loc hr (fun m hm => hl m (by simp [hm]))) ?_⟩
    simp only
    rw [over_loc (lk := lk') (lk' := lk)]
    exact h0
  split at h
  · obtain ⟨h1, h2⟩ := rows h
    rw [h1, hy]
    exact h2
  · obtain ⟨h1, h2⟩ := rows h
    rw [h1, hy]
    exact h2
  · have : lk' n = lk n := hl n (by rw [← get_one h]; simp)
    rw [this, hy]
    exact h
  · obtain ⟨hc, h⟩ := T.get_when h
    obtain ⟨h1, h2⟩ := rows h
    rw [h1, hy]
    exact when_mk hc h2
  · exact get_no h
theorem tabT_get {ok : Bool} {n : Nat} {x : Int} {e : Eff} : ∀ {es : List (Int × Nat)}, (tabT ok n x es).get = some e → ∃ y ∈ es, x = y.1 ∧ (foundAt ok (.func (.func y.2) [] []) true [n]).get = some e
  | [], h => get_no h
  | y :: r, h => by
    simp only [tabT, T.get] at h
    by_cases hx : x = y.1
    · rw [decide_eq_true hx] at h
      exact ⟨y, by simp, hx, h⟩
    · rw [decide_eq_false hx] at h
      obtain ⟨z, h1, h2⟩ := tabT_get h
      exact ⟨z, by simp [h1], h2⟩
theorem lookup0_loc {P : Program} {t : TypeId} {m k : AV} {ok : Bool} {e : Eff} (h : (effLookup0 P t m k ok lk).get = some e) (hl : ∀ n ∈ e.reads, lk' n = lk n) : (effLookup0 P t m k ok lk').get = some e := by
  unfold effLookup0 at h ⊢
  split at h
  case h_2 => exact get_no h
  try simp only
  split at h
  · exact h
  · rename_i n
    have hn : n ∈ e.reads := by
      split at h
      case h_3 => exact get_no h
      case h_2 =>
        split at h
        case h_2 => exact get_no h
        generalize hc : (_ && oneB _) = c at h
        cases c with
        | false => exact get_no h
        | true =>
          rw [cond_true] at h
          obtain ⟨y, _, _, h⟩ := tabT_get h
          rw [← get_one h]; simp
      obtain ⟨r, _, h⟩ := T.get_bindO h
      cases r with
      | none => rw [← get_one h]; simp
      | some i =>
        simp only at h
        split at h
        · rw [← get_one h]; simp
        · exact get_no h
    try simp only
    rw [hl n hn]
    exact h
  · exact get_no h
theorem update0_loc {P : Program} {t : TypeId} {m k v : AV} {e : Eff} (h : (effUpdate0 P t m k v lk).get = some e) (hl : ∀ n ∈ e.reads, lk' n = lk n) : (effUpdate0 P t m k v lk').get = some e := by
  unfold effUpdate0 at h ⊢
  split at h
  case h_2 => exact get_no h
  rename_i n _ _
  have hn : n ∈ e.reads := by
    split at h
    case h_2 => exact get_no h
    obtain ⟨r, _, h⟩ := T.get_bindO h
    cases r with
    | none => rw [← get_one h]; simp
    | some i =>
      simp only at h
      split at h
      · rw [← get_one h]; simp
      · exact get_no h
  try simp only
  rw [hl n hn]
  exact h
theorem mapEntry_loc {P : Program} {t : TypeId} {m k : AV} {e : Eff} (h : (effMapEntry P t m k lk).get = some e) (hl : ∀ n ∈ e.reads, lk' n = lk n) : (effMapEntry P t m k lk').get = some e := by
  unfold effMapEntry at h ⊢
  split at h
  case h_2 => exact get_no h
  rename_i n _ _
  have hn : n ∈ e.reads := by
    split at h
    case h_2 => exact get_no h
    obtain ⟨r, _, h⟩ := T.get_bindO h
    cases r with
    | none => rw [← get_one h]; simp
    | some i =>
      simp only at h
      split at h
      · rw [← get_one h]; simp
      · exact get_no h
  try simp only
  rw [hl n hn]
  exact h
theorem entryStore_loc {m s v : AV} {e : Eff} (h : (effEntryStore m s v lk).get = some e) (hl : ∀ n ∈ e.reads, lk' n = lk n) : (effEntryStore m s v lk').get = some e := by
  unfold effEntryStore at h ⊢
  split at h
  case h_2 => exact get_no h
  rename_i n kd b
  have hn : n ∈ e.reads := by
    split at h
    case h_2 => exact get_no h
    split at h
    case h_2 => exact get_no h
    split at h
    case h_2 => exact get_no h
    rw [← get_one h]; simp
  try simp only
  rw [hl n hn]
  exact h
theorem delete0_loc {P : Program} {t : TypeId} {m k : AV} {e : Eff} (h : (effDelete0 P t m k lk).get = some e) (hl : ∀ n ∈ e.reads, lk' n = lk n) : (effDelete0 P t m k lk').get = some e := by
  unfold effDelete0 at h ⊢
  split at h
  case h_2 => exact get_no h
  rename_i n _ _
  have hn : n ∈ e.reads := by
    split at h
    case h_2 => exact get_no h
    obtain ⟨r, _, h⟩ := T.get_bindO h
    cases r with
    | none => rw [← get_one h]; simp
    | some i => rw [← get_one h]; simp
  try simp only
  rw [hl n hn]
  exact h
theorem lookup0_reads {P : Program} {t : TypeId} {k : AV} {n : Nat} {ok : Bool} {e : Eff} (h : (effLookup0 P t (.mapr n) k ok lk).get = some e) : n ∈ e.reads := by
  unfold effLookup0 at h
  split at h
  case h_2 => exact get_no h
  simp only at h
  split at h
  case h_3 => exact get_no h
  case h_2 =>
    split at h
    case h_2 => exact get_no h
    generalize hc : (_ && oneB _) = c at h
    cases c with
    | false => exact get_no h
    | true =>
      rw [cond_true] at h
      obtain ⟨y, _, _, h⟩ := tabT_get h
      rw [← get_one h]; simp
  obtain ⟨r, _, h⟩ := T.get_bindO h
  cases r with
  | none => rw [← get_one h]; simp
  | some i =>
    simp only at h
    split at h
    · rw [← get_one h]; simp
    · exact get_no h
theorem lookH_reads {P : Program} {t : TypeId} {n i : Nat} {k v : AV} {ok : Bool} {key row : Sh} {l : List (Den key × Den row)} {e : Eff} (h : (effLookH P t n k ok key row l i v).get = some e) : n ∈ e.reads := by
  unfold effLookH at h
  split at h
  case h_2 => exact get_no h
  generalize keyFits _ _ _ _ = c at h
  cases c with
  | false => exact get_no h
  | true => obtain ⟨_, h⟩ := T.get_when h; rw [← get_one h]; simp
theorem lookO_reads {P : Program} {t : TypeId} {n fr : Nat} {k : AV} {ok own : Bool} {key row : Sh} {l : List (Den key × Den row)} {e : Eff} (h : (effLookO P t n k ok own key row l fr).get = some e) : n ∈ e.reads := by
  unfold effLookO at h
  split at h
  case h_2 => exact get_no h
  generalize keyFits _ _ _ _ = c at h
  cases c with
  | false => exact get_no h
  | true =>
    rw [cond_true, T.get_ite] at h
    split at h
    · rw [T.get_bind] at h
      split at h
      · generalize (own && _) = c at h
        cases c <;> (rw [← get_one h]; simp)
      · exact get_no h
    · rw [← get_one h]; simp
theorem update0_reads {P : Program} {t : TypeId} {k v : AV} {n : Nat} {e : Eff} (h : (effUpdate0 P t (.mapr n) k v lk).get = some e) : n ∈ e.reads := by
  unfold effUpdate0 at h
  split at h
  case h_2 => exact get_no h
  rename_i hm
  cases hm
  split at h
  case h_2 => exact get_no h
  obtain ⟨r, _, h⟩ := T.get_bindO h
  cases r with
  | none => rw [← get_one h]; simp
  | some i =>
    simp only at h
    split at h
    · rw [← get_one h]; simp
    · exact get_no h
theorem updH_reads {P : Program} {t : TypeId} {n i : Nat} {k v : AV} {key row : Sh} {l : List (Den key × Den row)} {e : Eff} (h : (effUpdH P t n k v key row l i).get = some e) : n ∈ e.reads := by
  unfold effUpdH at h
  split at h
  case h_2 => exact get_no h
  generalize keyFits _ _ _ _ = c at h
  cases c with
  | false => exact get_no h
  | true => obtain ⟨_, h⟩ := T.get_when h; rw [← get_one h]; simp
theorem updO_loc {P : Program} {t : TypeId} {n : Nat} {k v : AV} {key row : Sh} {l : List (Den key × Den row)} {e : Eff} (h : (effUpdO P t n k v key row l lk).get = some e) (hl : ∀ n ∈ e.reads, lk' n = lk n) : n ∈ e.reads ∧ (effUpdO P t n k v key row l lk').get = some e := by
  unfold effUpdO at h ⊢
  split at h
  case h_2 => exact get_no h
  rename_i kt u z x h1 h2
  cases hf : keyFits P kt u key with
  | false => rw [hf] at h; exact get_no h
  | true =>
    rw [hf, cond_true] at h
    obtain ⟨ga, hg, h⟩ := T.get_bindO h
    cases hc : (nodupB (n :: ga.2.1) && allRo lk ga.2.2) with
    | false => rw [hc] at h; exact get_no h
    | true =>
      rw [hc, cond_true] at h
      have he := get_one h
      subst he
      simp only [List.mem_cons] at hl
      refine ⟨by simp, ?_⟩
      simp only [hf, cond_true]
      refine bindO_mk (gat_loc false row [v] ga hg (fun m hm => hl m (.inr hm))) ?_
      rw [allRo_loc (lk := lk) (lk' := lk') (fun m hm => hl m (.inr (by simp [hm]))), hc]
      rfl
theorem delete0_reads {P : Program} {t : TypeId} {k : AV} {n : Nat} {e : Eff} (h : (effDelete0 P t (.mapr n) k lk).get = some e) : n ∈ e.reads := by
  unfold effDelete0 at h
  split at h
  case h_2 => exact get_no h
  rename_i hm
  cases hm
  split at h
  case h_2 => exact get_no h
  obtain ⟨r, _, h⟩ := T.get_bindO h
  cases r with
  | none => rw [← get_one h]; simp
  | some i => rw [← get_one h]; simp
theorem delO_reads {P : Program} {t : TypeId} {n : Nat} {k : AV} {key row : Sh} {l : List (Den key × Den row)} {e : Eff} (h : (effDelO P t n k key row l).get = some e) : n ∈ e.reads := by
  unfold effDelO at h
  split at h
  case h_2 => exact get_no h
  generalize keyFits _ _ _ _ = c at h
  cases c with
  | false => exact get_no h
  | true => rw [← get_one h]; simp
theorem lookup_loc {P : Program} {t : TypeId} {m k : AV} {ok : Bool} {fr : Nat} {e : Eff} (h : (effLookup P t m k ok lk fr).get = some e) (hl : ∀ n ∈ e.reads, lk' n = lk n) : (effLookup P t m k ok lk' fr).get = some e := by
  unfold effLookup at h ⊢
  split at h
  · rename_i n
    try simp only
    split at h
    · rename_i own key row l hb; rw [hl n (lookO_reads h), hb]; exact h
    · rename_i own key row l i v hb; rw [hl n (lookH_reads h), hb]; exact h
    · rename_i h1 h2
      have hn := hl n (lookup0_reads h)
      split
      · rename_i hb; rw [hn] at hb; exact (h1 _ _ _ _ hb).elim
      · rename_i hb; rw [hn] at hb; exact (h2 _ _ _ _ _ _ hb).elim
      · exact lookup0_loc h hl
  · exact lookup0_loc h hl
theorem update_loc {P : Program} {t : TypeId} {m k v : AV} {e : Eff} (h : (effUpdate P t m k v lk).get = some e) (hl : ∀ n ∈ e.reads, lk' n = lk n) : (effUpdate P t m k v lk').get = some e := by
  unfold effUpdate at h ⊢
  split at h
  · rename_i n
    try simp only
    split at h
    · rename_i key row l hb
      obtain ⟨g1, g2⟩ := updO_loc h hl
      rw [hl n g1, hb]; exact g2
    · rename_i key row l i v' hb; rw [hl n (updH_reads h), hb]; exact h
    · rename_i h1 h2
      have hn := hl n (update0_reads h)
      split
      · rename_i hb; rw [hn] at hb; exact (h1 _ _ _ hb).elim
      · rename_i hb; rw [hn] at hb; exact (h2 _ _ _ _ _ hb).elim
      · exact update0_loc h hl
  · exact update0_loc h hl
theorem delete_loc {P : Program} {t : TypeId} {m k : AV} {e : Eff} (h : (effDelete P t m k lk).get = some e) (hl : ∀ n ∈ e.reads, lk' n = lk n) : (effDelete P t m k lk').get = some e := by
  unfold effDelete at h ⊢
  split at h
  · rename_i n
    try simp only
    split at h
    · rename_i key row l hb; rw [hl n (delO_reads h), hb]; exact h
    · rename_i h1
      have hn := hl n (delete0_reads h)
      split
      · rename_i hb; rw [hn] at hb; exact (h1 _ _ _ hb).elim
      · exact delete0_loc h hl
  · exact delete0_loc h hl
theorem len_loc' {P : Program} {as : List AV} {ts : List TypeId} {e : Eff} (h : ((match as, ts with | [x], [ty] => effLen P ty x lk | _, _ => no) : Te).get = some e) (hl : ∀ n ∈ e.reads, lk' n = lk n) : ((match as, ts with | [x], [ty] => effLen P ty x lk' | _, _ => no) : Te).get = some e := by
  split at h
  · exact len_loc h hl
  · exact get_no h
end
theorem call_loc {C : Cx} (hK : KOk C) {vals : List AV} {lk lk' : Nat → Option AB} {fr : Nat} {e : Eff} (h : (effCall C.K vals lk fr).get = some e) (hl : ∀ n ∈ e.reads, lk' n = lk n) : (effCall C.K vals lk' fr).get = some e := by
  unfold effCall at h
  split at h
  case h_2 => exact get_no h
  rename_i f args
  split at h
  case h_2 => exact get_no h
  rename_i g first caps hf
  split at h
  case h_2 => exact get_no h
  rename_i s hs
  simp only [effCall, hf, hs]
  exact (hK g s hs).loc _ _ _ _ _ h hl

theorem effOp_loc {C : Cx} (hK : KOk C) {o : Oper} {t : Operand → AV} {lk lk' : Nat → Option AB} {fr : Nat} {e : Eff} (h : (effOp C o t lk fr).get = some e) (hl : ∀ n ∈ e.reads, lk' n = lk n) : (effOp C o t lk' fr).get = some e := by
  unfold effOp at h ⊢
  split at h <;> try simp only
  all_goals first
    | exact load_loc h hl
    | exact store_loc h hl
    | exact index_loc h hl
    | exact slice_loc h hl
    | exact call_loc hK h hl
    | exact convert_loc h hl
    | exact cmp_loc h hl
    | exact bin_loc h hl
    | exact lookup_loc h hl
    | exact update_loc h hl
    | exact mapEntry_loc h hl
    | exact entryStore_loc h hl
    | exact h
    | (split at h
       · first | exact len_loc h hl | exact append_loc h hl | exact delete_loc h hl | exact clear_loc h hl | exact copy_loc h hl | exact h
       · exact get_no h)
    | exact get_no h
theorem eff_loc {C : Cx} (hK : KOk C) {o : Oper} {t : Operand → AV} {lk lk' : Nat → Option AB} {fr : Nat} {e : Eff} (h : (eff C o t lk fr).get = some e) (hl : ∀ n ∈ e.reads, lk' n = lk n) : (eff C o t lk' fr).get = some e := by
  unfold eff at h ⊢
  cases hk : allKnown t o.op.operands.toList with
  | false => rw [hk] at h; exact get_no h
  | true =>
  rw [hk] at h
  simp only [Bool.not_true, cond_false] at h ⊢
  cases hr : hasRule o.op with
  | true => rw [hr] at h; exact effOp_loc hK h hl
  | false =>
    rw [hr] at h
    simp only [cond_false] at h ⊢
    cases hp' : (noSel o.op && allPlain t o.op.operands.toList && !aggEq C.P t o.op) with
    | false => rw [hp'] at h; exact effOp_loc hK h hl
    | true =>
      rw [hp'] at h
      simp only [cond_true] at h ⊢
      split at h
      · exact h
      · exact effOp_loc hK h hl

/-- An effect hangs on its operands' values alone. -/
theorem effOp_congr {C : Cx} {o : Oper} {t t' : Operand → AV} {lk : Nat → Option AB} {fr : Nat} (h : ∀ x ∈ o.op.operands, t x = t' x) : effOp C o t lk fr = effOp C o t' lk fr := by
  have hmap : ∀ (l : List Operand), (∀ x ∈ l, x ∈ o.op.operands) → l.map t = l.map t' := fun l hl => List.map_congr_left fun x hx => h x (hl x hx)
  unfold effOp
  split
  · rename_i x ho; rw [h x (by simp [ho, Op.operands])]
  · rename_i x ho; rw [h x (by simp [ho, Op.operands])]
  · rename_i c x y ho; rw [h c (by simp [ho, Op.operands]), h x (by simp [ho, Op.operands]), h y (by simp [ho, Op.operands])]
  · rename_i el x ho; rw [h x (by simp [ho, Op.operands])]
  · rfl
  · rename_i ty parts ho
    have : (parts.toList.map fun p => (p.1, t p.2)) = (parts.toList.map fun p => (p.1, t' p.2)) := List.map_congr_left fun p hp => by
      rw [h p.2 (by rw [ho]; simp only [Op.operands]; exact List.mem_toArray.2 (List.mem_map.2 ⟨p, hp, rfl⟩))]
    rw [this]
  · rename_i ty len parts ho
    have : (parts.toList.map fun p => (p.1, t p.2)) = (parts.toList.map fun p => (p.1, t' p.2)) := List.map_congr_left fun p hp => by
      rw [h p.2 (by rw [ho]; simp only [Op.operands]; exact List.mem_toArray.2 (List.mem_map.2 ⟨p, hp, rfl⟩))]
    rw [this]
  · rename_i ty l c ho; rw [h l (by simp [ho, Op.operands]), h c (by simp [ho, Op.operands])]
  · rename_i ty x ho; rw [h x (by simp [ho, Op.operands])]
  · rename_i ty x y ho; rw [h x (by simp [ho, Op.operands]), h y (by simp [ho, Op.operands])]
  · rename_i x ho; rw [h x (by simp [ho, Op.operands])]
  · rename_i s x f ho; rw [h x (by simp [ho, Op.operands])]
  · rename_i ty x y ho; rw [h x (by simp [ho, Op.operands]), h y (by simp [ho, Op.operands])]
  · rename_i ty x f ho; rw [h x (by simp [ho, Op.operands])]
  · rename_i ty x y ho; rw [h x (by simp [ho, Op.operands]), h y (by simp [ho, Op.operands])]
  · rename_i ty x l hh m ho
    have ho' : ∀ z : Option Operand, (∀ y, z = some y → y ∈ o.op.operands) → z.map t = z.map t' := by
      intro z hz
      cases z with
      | none => rfl
      | some y => simp [h y (hz y rfl)]
    rw [h x (by simp [ho, Op.operands]), ho' l (fun y hy => by simp [ho, Op.operands, hy]), ho' hh (fun y hy => by simp [ho, Op.operands, hy]), ho' m (fun y hy => by simp [ho, Op.operands, hy])]
  · rename_i op ty x y ty' ho; rw [h x (by simp [ho, Op.operands]), h y (by simp [ho, Op.operands])]
  · rename_i src dst x ho; rw [h x (by simp [ho, Op.operands])]
  · rename_i x i ho; rw [h x (by simp [ho, Op.operands])]
  · rename_i f first caps ho
    rw [hmap first.toList (fun x hx => by simp [ho, Op.operands, Array.mem_toList_iff.1 hx]), hmap caps.toList (fun x hx => by simp [ho, Op.operands, Array.mem_toList_iff.1 hx])]
  · rename_i f as ts ho
    rw [h f (by simp [ho, Op.operands, Call.operands]), hmap as.toList (fun x hx => by simp [ho, Op.operands, Call.operands, Array.mem_toList_iff.1 hx])]
  · rename_i as ts ho; rw [hmap as.toList (fun x hx => by simp [ho, Op.operands, Call.operands, Array.mem_toList_iff.1 hx])]
  · rename_i as ts ho; rw [hmap as.toList (fun x hx => by simp [ho, Op.operands, Call.operands, Array.mem_toList_iff.1 hx])]
  · rename_i as ts ho
    split
    · rename_i x y h1; rw [h x (by simp [ho, Op.operands, Call.operands, ← Array.mem_toList_iff, h1]), h y (by simp [ho, Op.operands, Call.operands, ← Array.mem_toList_iff, h1])]
    · rfl
  · rename_i as ts ho
    split
    · rename_i x h1; rw [h x (by simp [ho, Op.operands, Call.operands, ← Array.mem_toList_iff, h1])]
    · rfl
  · rename_i as ts ho
    split
    · rename_i x h1; rw [h x (by simp [ho, Op.operands, Call.operands, ← Array.mem_toList_iff, h1])]
    · rfl
  · rename_i as ts ho
    split
    · rename_i x ty h1 h2; rw [h x (by simp [ho, Op.operands, Call.operands, ← Array.mem_toList_iff, h1])]
    · rfl
  · rename_i as ts ho
    split
    · rename_i x ty h1 h2; rw [h x (by simp [ho, Op.operands, Call.operands, ← Array.mem_toList_iff, h1])]
    · rfl
  · rename_i as ts ho
    split
    · rename_i s x h1; rw [h s (by simp [ho, Op.operands, Call.operands, ← Array.mem_toList_iff, h1]), h x (by simp [ho, Op.operands, Call.operands, ← Array.mem_toList_iff, h1])]
    · rfl
  · rename_i ty r ho
    cases r with
    | none => rfl
    | some y => simp only [Option.map_some]; rw [h y (by simp [ho, Op.operands])]
  · rename_i ty m k ok ho; rw [h m (by simp [ho, Op.operands]), h k (by simp [ho, Op.operands])]
  · rename_i ty m k x ho; rw [h m (by simp [ho, Op.operands]), h k (by simp [ho, Op.operands]), h x (by simp [ho, Op.operands])]
  · rename_i ty m k x ho; rw [h m (by simp [ho, Op.operands]), h k (by simp [ho, Op.operands]), h x (by simp [ho, Op.operands])]
  · rename_i ty m k ho; rw [h m (by simp [ho, Op.operands]), h k (by simp [ho, Op.operands])]
  · rename_i ty m x y ho; rw [h m (by simp [ho, Op.operands]), h x (by simp [ho, Op.operands]), h y (by simp [ho, Op.operands])]
  · rename_i as ts ho
    split
    · rename_i x ty h1 h2; rw [h x (by simp [ho, Op.operands, Call.operands, ← Array.mem_toList_iff, h1])]
    · rfl
  · rename_i as ts ho
    split
    · rename_i d x ty tr h1 h2; rw [h d (by simp [ho, Op.operands, Call.operands, ← Array.mem_toList_iff, h1]), h x (by simp [ho, Op.operands, Call.operands, ← Array.mem_toList_iff, h1])]
    · rfl
  · rename_i as ts ho
    split
    · rename_i m k ty tr h1 h2; rw [h m (by simp [ho, Op.operands, Call.operands, ← Array.mem_toList_iff, h1]), h k (by simp [ho, Op.operands, Call.operands, ← Array.mem_toList_iff, h1])]
    · rfl
  · rfl
theorem eff_congr {C : Cx} {o : Oper} {t t' : Operand → AV} {lk : Nat → Option AB} {fr : Nat} (h : ∀ x ∈ o.op.operands, t x = t' x) : eff C o t lk fr = eff C o t' lk fr := by
  unfold eff
  rw [effOp_congr h]
  have hall : allPlain t o.op.operands.toList = allPlain t' o.op.operands.toList := by
    have : ∀ l : List Operand, (∀ x ∈ l, t x = t' x) → allPlain t l = allPlain t' l := by
      intro l
      induction l with
      | nil => intro _; rfl
      | cons x l ih =>
        intro hl
        simp only [allPlain]
        rw [hl x (by simp), ih (fun y hy => hl y (by simp [hy]))]
    exact this _ (fun x hx => h x (by simpa using hx))
  have hp : effPure C.P o t = effPure C.P o t' := by
    unfold effPure
    rw [hall]
    cases hb : noSel o.op with
    | false => rfl
    | true =>
      have := execOp_congr (ρ := fun x => (plain (t x)).getD undef) (ρ' := fun x => (plain (t' x)).getD undef) o (by
        intro cs b he
        rw [he] at hb
        simp [noSel] at hb) (fun x hx => by simp only [h x hx])
      rw [this]
  have hk : allKnown t o.op.operands.toList = allKnown t' o.op.operands.toList := by
    have : ∀ l : List Operand, (∀ x ∈ l, t x = t' x) → allKnown t l = allKnown t' l := by
      intro l
      induction l with
      | nil => intro _; rfl
      | cons x l ih =>
        intro hl
        simp only [allKnown]
        rw [hl x (by simp), ih (fun y hy => hl y (by simp [hy]))]
    exact this _ (fun x hx => h x (by simpa using hx))
  have hq : aggEq C.P t o.op = aggEq C.P t' o.op := by
    have hl : ∀ as : Array Operand, (∀ x ∈ as, t x = t' x) → fltArgs t as.toList = fltArgs t' as.toList := by
      intro as ha
      unfold fltArgs
      split
      · rename_i x y he
        rw [ha x (by rw [← Array.mem_toList_iff, he]; simp), ha y (by rw [← Array.mem_toList_iff, he]; simp)]
      · rfl
    unfold aggEq
    split
    · rename_i b ty x y _ he
      rw [h x (by rw [he]; simp [Op.operands]), h y (by rw [he]; simp [Op.operands])]
    · rename_i as ts he
      exact hl as (fun x hx => h x (by rw [he]; simp [Op.operands, Call.operands, hx]))
    · rename_i as ts he
      exact hl as (fun x hx => h x (by rw [he]; simp [Op.operands, Call.operands, hx]))
    · rfl
  rw [hp, hall, hk, hq]
end Go.Proofs.YtpfbpcaehmhefaaDoorB.Sx
