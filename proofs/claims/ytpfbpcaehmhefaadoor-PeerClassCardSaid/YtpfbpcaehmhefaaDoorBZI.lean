/- The engine, part I: contracts over typed data: functions of data, proved of bodies and of pieces of code, and used at calls. -/
import Derived.Test.YtpfbpcaehmhefaaDoorBZE
namespace Go.Proofs.YtpfbpcaehmhefaaDoorB.Sx
open Go.RowKit
set_option linter.unusedSimpArgs false
set_option linter.unusedVariables false

/-! ### Contracts -/
def resV : List Value → Value
  | [v] => v
  | vs => .tuple vs.toArray
def resA : List AV → AV
  | [v] => v
  | vs => .tuple vs
theorem conc_resA {E : Env} {cs : List AV} {vs : List Value} (h : concs E cs = some vs) : conc E (resA cs) = some (resV vs) := by
  have hl := concs_length h
  match cs, vs, h, hl with
  | [], [], h, _ => simp [resA, resV, conc, concs]
  | [c], [v], h, _ =>
    obtain ⟨V, Vs, h1, h2, h3⟩ := concs_cons.1 h
    simp only [List.cons.injEq] at h3
    rw [h3.1]; exact h1
  | c :: c' :: cs, v :: v' :: vs, h, _ => simp [resA, resV, conc, h]
def resL (n : Nat) (r : AV) : Option (List AV) :=
  bif Nat.beq n 1 then some [r] else match r with | .tuple rs => bif Nat.beq rs.length n then some rs else none | _ => none
theorem resL_ok {E : Env} {n : Nat} {r : AV} {rs : List AV} {V : Value} (h : resL n r = some rs) (hV : conc E r = some V) : ∃ vs, concs E rs = some vs ∧ V = resV vs := by
  unfold resL at h
  cases hb : Nat.beq n 1 with
  | true =>
    rw [hb] at h
    cases h
    exact ⟨[V], concs_cons.2 ⟨V, [], hV, rfl, rfl⟩, rfl⟩
  | false =>
    rw [hb] at h
    simp only [cond_false] at h
    split at h
    case h_2 => cases h
    rename_i us
    cases hb2 : Nat.beq us.length n with
    | false => rw [hb2] at h; cases h
    | true =>
      rw [hb2] at h
      cases h
      simp only [conc, Option.map_eq_some_iff] at hV
      obtain ⟨vs, h1, rfl⟩ := hV
      refine ⟨vs, h1, ?_⟩
      have hl := concs_length h1
      have hn := Nat.eq_of_beq_eq_true hb2
      match vs, hl with
      | [v], hl => simp at hl; rw [← hn, ← hl] at hb; simp at hb
      | [], _ => rfl
      | _ :: _ :: _, _ => rfl
/-- A function of data: what comes in, what goes out, what comes of it (own pointers' data behind it). -/
structure Fc where
  i : Sh
  o : Sh
  F : Den i → Option (Den o × Den (posts i))
/-- What it says of a function. -/
def MeetsF (P : Program) (f : FuncId) (c : Fc) : Prop :=
  ∀ w d vs Ps F R r, GlobOk w (fun k => k ∈ F) → holdA w c.i d vs Ps F R → F.Nodup → (∀ k ∈ F, k ∉ R) → c.F d = some r →
    Calls P f vs.toArray w fun x w' => ∃ rs F1 R1 ps F2 R2, x = .returned (resV rs) ∧ hold w' false c.o r.1 rs F1 R1 ∧ holdA w' (posts c.i) r.2 ps Ps F2 R2 ∧
      (F1 ++ F2).Nodup ∧ (∀ k ∈ F1 ++ F2, k ∈ F ∨ w.heap.size ≤ k) ∧ (∀ k ∈ R1 ++ R2, k ∈ R ∨ tabM w k) ∧ Fr (fun k => k ∈ F) w w'
def fcChk (c : Fc) (lk : Nat → Option AB) (ps : List AV) (ns ms : List Nat) : Bool :=
  nodupB ns && nodupB (ptrNs ps) && disjB ns ms && ((roFree c.o && roFree (posts c.i)) || ms.all fun m => isRo (lk m))
/-- It, used at a call. -/
def specF (c : Fc) : Spec := fun args lk fr =>
  (gat lk false c.i args).bindO fun a =>
    bif fcChk c lk (ptrs c.i args) a.2.1 a.2.2 then
      .bnd c.o (posts c.i) (c.F a.1) (fun r => (scat false c.o r.1 fr).map fun x =>
        some { val := resA x.1, reads := a.2.1 ++ a.2.2, upd := relay (posts c.i) r.2 (ptrNs (ptrs c.i args)) ++ spent a.2.1, news := x.2.1, nn := x.2.2 - fr }) (.leaf none)
    else .leaf none
theorem get_bnd {α : Type} {o p : Sh} {x : Option (Den o × Den p)} {f : Den o × Den p → T (Option α)} {e : α} (h : (T.bnd o p x f (.leaf none)).get = some e) : ∃ r, x = some r ∧ (f r).get = some e := by
  cases x with
  | none => simp [T.get] at h
  | some r => exact ⟨r, rfl, h⟩
theorem fcChk_loc {c : Fc} {lk lk' : Nat → Option AB} {ps : List AV} {ns ms : List Nat} (h : ∀ m ∈ ms, lk' m = lk m) : fcChk c lk' ps ns ms = fcChk c lk ps ns ms := by
  have : (ms.all fun m => isRo (lk' m)) = ms.all fun m => isRo (lk m) := by
    rw [Bool.eq_iff_iff, List.all_eq_true, List.all_eq_true]
    constructor <;> intro g m hm
    · have := g m hm; rwa [h m hm] at this
    · have := g m hm; rwa [h m hm]
  unfold fcChk
  rw [this]
theorem specF_ok {P : Program} {gl : Nat → Option Nat} {f : FuncId} {c : Fc} (hfn : (match P.funcs[f]? with | some fn => !(fn.name == "runtime.NumGoroutine") && !fn.body.isNone | none => false) = true) (h : MeetsF P f c) : SpecOk P gl f (specF c) := by
  refine ⟨?_, ?_, ?_⟩
  · split at hfn
    case h_2 => cases hfn
    rename_i fn hf
    simp only [Bool.and_eq_true, Bool.not_eq_true'] at hfn
    exact ⟨fn, hf, hfn.1, hfn.2⟩
  · intro args lk lk' fr e he hl
    unfold specF at he ⊢
    obtain ⟨a, ha, he⟩ := T.get_bindO he
    cases hb : fcChk c lk (ptrs c.i args) a.2.1 a.2.2 with
    | false => rw [hb] at he; exact get_none he
    | true =>
      rw [hb] at he
      simp only [cond_true] at he
      obtain ⟨r, hr, he⟩ := get_bnd he
      rw [T.get_map, Option.some.injEq] at he
      have hrd : e.reads = a.2.1 ++ a.2.2 := by rw [← he]
      rw [hrd] at hl
      have ha' := gat_loc (lk := lk) (lk' := lk') false c.i args a ha hl
      refine bindO_mk ha' ?_
      rw [fcChk_loc (fun m hm => hl m (by simp [hm])), hb]
      simp only [cond_true, T.get, hr]
      rw [T.get_map, he]
  · intro W0 S E hp w args vs fr e G hgl he hargs hfr
    obtain ⟨FF, RR, G⟩ := G
    unfold specF at he
    obtain ⟨a, ha, he⟩ := T.get_bindO he
    cases hb : fcChk c hp (ptrs c.i args) a.2.1 a.2.2 with
    | false => rw [hb] at he; exact get_none he
    | true =>
      rw [hb] at he
      simp only [cond_true] at he
      obtain ⟨r, hr, he⟩ := get_bnd he
      rw [T.get_map, Option.some.injEq] at he
      unfold fcChk at hb
      simp only [Bool.and_eq_true, Bool.or_eq_true] at hb
      obtain ⟨⟨⟨b1, b2⟩, b3⟩, b4⟩ := hb
      have b1 := nodupB_ok b1
      have b2 := nodupB_ok b2
      have b3 := disjB_ok b3
      obtain ⟨Ps, F, R, ⟨ns, hptr, hns⟩, q⟩ := gatA_ok G.toGc c.i args vs a hargs ha
      rw [hptr, ptrNs_map] at b2 he
      have hnd := q.nodup b1
      have hap := got_apart' G q.inF q.inR (ms' := a.2.2) (fun m hm => hm) b3
      refine Calls.mono (h w a.1 vs Ps F R r (G.globF q.inF) q.data hnd hap hr) ?_
      rintro x w' ⟨rs, F1, R1, ps, F2, R2, rfl, h1, h2, h3, h4, h5, h6⟩
      have hro : ∀ k ∈ R1 ++ R2, (∃ m b, hp m = some b ∧ k ∈ RR m) ∨ tabM w k := by
        intro k hk
        rcases b4 with ⟨f1, f2⟩ | hall
        · rw [hold_roFree _ _ _ _ _ h1 f1, hold_roFree _ _ _ _ _ (holdA_hold _ _ _ _ _ _ h2) f2] at hk
          simp at hk
        · exact (h5 k hk).imp_left (ro_names (w' := w') G q.inR (ms' := a.2.2) (fun m hm => hm) hall k)
      obtain ⟨E', g1, g2, g3, g4⟩ := call_post (i := c.i) (o := c.o) (fr := fr) (e := e) G q.inF hns b2 h1 h2 h3 h4 hro h6 (by rw [← he]) (by rw [← he]) (by rw [← he]) hfr
      exact ⟨resV rs, E', rfl, by rw [← he]; exact conc_resA g1, g2, g3, g4⟩

/-! ### Contracts of bodies -/
def endF (i o : Sh) (ps : List AV) (r : AV) (s : AS) : Option (Den o × Den (posts i)) :=
  match resL o.size r with
  | some rs => onT (FO _) (gat (look s.h) false o rs) fun a => onT (FO _) (gat (look s.h) false (posts i) ps) fun b =>
      bif nodupB (a.2.1 ++ b.2.1) && ((a.2.2 ++ b.2.2).all fun m => isRo (look s.h m)) then some (a.1, b.1) else none
  | none => none
def bodyF (C : Cx) (fuel : Nat) (f : FuncId) (i o : Sh) (d : Den i) : Option (Den o × Den (posts i)) :=
  match C.P.funcs[f]? with
  | some fn => match fn.body with
    | some code => onT (FO _) ((scat false i d 1).map some) fun x =>
        enter none fn.ntmps x.1 x.2.1 x.2.2 fun s => avc (FO _) (unr none fuel) C code (C.pl f) s (endsIn (FO _) C.P fn fun r s => endF i o (ptrs i x.1) r s)
    | none => none
  | none => none
theorem meetsF {C : Cx} (hK : KOk C) (hpl : PlansOk C) (hm : C.P.follows .mixedOrders = true) (hg : C.gl = fun _ => none) {fuel : Nat} {f : FuncId} {c : Fc} (hF : ∀ d, c.F d = bodyF C fuel f c.i c.o d) : MeetsF C.P f c := by
  intro w d vs Ps F R r hgw hA hnd hap h
  rw [hF] at h
  unfold bodyF at h
  split at h
  case h_2 => cases h
  rename_i fn hf
  split at h
  case h_2 => cases h
  rename_i code hc
  obtain ⟨x, hx, h⟩ := onT_den (A := FA (fun g => g = r)) ⟨r, h, rfl⟩
  rw [T.get_map, Option.some.injEq] at hx
  obtain ⟨E, FF, RR, g, hp⟩ := scatA_ok c.i d vs Ps F R 1 (fun _ => none) hA hnd (fun _ _ _ => rfl)
  rw [hx] at g hp
  have hlt := hold_lt _ _ _ _ _ _ (holdA_hold _ _ _ _ _ _ hA)
  have G : Gam w ⟨fun k => k ∈ F, fun k => k ∈ R⟩ E (look x.2.1) w :=
    ⟨FF, RR, g.gc, Fr.refl _ _, fun n b k hb hk => .inl (g.inF n b k hb hk), fun n b k hb hk => .inl (g.inR n b k hb hk), fun k hk => ⟨hlt.2 k hk, fun hk' => hap k hk' hk⟩, hgw⟩
  refine Calls.mono (calls_of_avc (A := FA (fun g => g = r)) hK hpl hm (unr_ok fuel) hf hc g.cells G (by rw [hg]; intro g n h; cases h) (fun n hn => by
    cases hE : E n with
    | none => rfl
    | some q => have := (g.dom n rfl (by rw [hE]; simp)).2; omega) h) ?_
  rintro en w' ⟨r', s, E', V, hr, rfl, hV, hanc, ⟨FF', RR', G'⟩, _, _⟩
  obtain ⟨r2, hr, rfl⟩ := hr
  unfold endF at hr
  split at hr
  case h_2 => cases hr
  rename_i rs hrs
  obtain ⟨a, ha, hr1⟩ := onT_den (A := FA (fun g => g = r2)) ⟨r2, hr, rfl⟩
  obtain ⟨b, hb, hr2⟩ := onT_den (A := FA (fun g => g = r2)) hr1
  obtain ⟨r3, hr3, e3⟩ := hr2
  clear hr hr1
  subst e3
  have hr := hr3
  cases hz : (nodupB (a.2.1 ++ b.2.1) && ((a.2.2 ++ b.2.2).all fun m => isRo (look s.h m))) with
  | false => rw [hz] at hr; cases hr
  | true =>
  rw [hz] at hr
  simp only [cond_true, Option.some.injEq] at hr
  simp only [Bool.and_eq_true] at hz
  obtain ⟨z1, z2⟩ := hz
  have z1 := nodupB_ok z1
  obtain ⟨us, hus, rfl⟩ := resL_ok hrs hV
  obtain ⟨F1, R1, q1⟩ := (gat_ok G'.toGc false c.o).1 rs us a hus ha
  have hp' := hp.mono hanc.le
  obtain ⟨Qs, F2, R2, hq, q2⟩ := gatA_ok G'.toGc (posts c.i) _ _ b (PlOk.cells hp') hb
  rw [ptrs_posts] at hq
  have := PlOk.uniq hp' hq
  subst this
  rw [← hr]
  refine ⟨us, F1, R1, _, F2, R2, rfl, q1.data, q2.data, nodup_two G'.toGc q1.inF q2.inF q1.nodup q2.nodup z1, ?_, ?_, G'.fr⟩
  · intro k hk
    obtain ⟨m, hm, s1, k1⟩ := (q1.inF.append q2.inF) k hk
    obtain ⟨b', hb'⟩ := Option.isSome_iff_exists.1 s1
    exact G'.feet m b' k hb' k1
  · intro k hk
    obtain ⟨m, b', hb', k1⟩ := ro_names (w' := w') G' (q1.inR.append q2.inR) (ms' := a.2.2 ++ b.2.2) (fun m hm => hm) z2 k hk
    exact G'.rd m b' k hb' k1

/-! ### Pieces of code -/
/-- Round by round, as long as it takes. -/
def iterN {α β : Type} (f : α → Option (α ⊕ β)) : Nat → α → Option β
  | 0, _ => none
  | n + 1, a => match f a with
    | none => none
    | some (.inl a) => iterN f n a
    | some (.inr b) => some b
theorem iterN_succ {α β : Type} {f : α → Option (α ⊕ β)} : ∀ {n : Nat} {a : α} {b : β}, iterN f n a = some b → iterN f (n + 1) a = some b
  | 0, a, b, h => by cases h
  | n + 1, a, b, h => by
    rw [iterN] at h ⊢
    cases hf : f a with
    | none => rw [hf] at h; cases h
    | some x =>
      rw [hf] at h
      cases x with
      | inl a' => exact iterN_succ h
      | inr b' => exact h
theorem iterN_mono {α β : Type} {f : α → Option (α ⊕ β)} {n m : Nat} {a : α} {b : β} (hnm : n ≤ m) (h : iterN f n a = some b) : iterN f m a = some b := by
  induction hnm with
  | refl => exact h
  | step _ ih => exact iterN_succ ih
open Classical in
noncomputable def iterO {α β : Type} (f : α → Option (α ⊕ β)) (a : α) : Option β :=
  if h : ∃ n b, iterN f n a = some b then some (Classical.choose (Classical.choose_spec h)) else none
theorem iterO_iff {α β : Type} {f : α → Option (α ⊕ β)} {a : α} {b : β} : iterO f a = some b ↔ ∃ n, iterN f n a = some b := by
  unfold iterO
  split
  · rename_i h
    have h1 := Classical.choose_spec (Classical.choose_spec h)
    generalize Classical.choose (Classical.choose_spec h) = b' at h1
    generalize Classical.choose h = n' at h1
    rw [Option.some.injEq]
    constructor
    · rintro rfl; exact ⟨n', h1⟩
    · rintro ⟨n, hn⟩
      have e1 := iterN_mono (Nat.le_max_left n n') hn
      have e2 := iterN_mono (Nat.le_max_right n n') h1
      rw [e1] at e2
      exact (Option.some.inj e2).symm
  · rename_i h
    constructor
    · intro e; cases e
    · rintro ⟨n, hn⟩; exact (h ⟨n, b, hn⟩).elim
theorem iterO_eq {α β : Type} (f : α → Option (α ⊕ β)) (a : α) : iterO f a = match f a with | none => none | some (.inl a) => iterO f a | some (.inr b) => some b := by
  apply Option.ext
  intro b
  rw [iterO_iff]
  constructor
  · rintro ⟨n, hn⟩
    cases n with
    | zero => cases hn
    | succ n =>
      rw [iterN] at hn
      cases hf : f a with
      | none => rw [hf] at hn; cases hn
      | some x =>
        rw [hf] at hn
        cases x with
        | inl a' => exact iterO_iff.2 ⟨n, hn⟩
        | inr b' => exact hn
  · intro h
    cases hf : f a with
    | none => rw [hf] at h; cases h
    | some x =>
      rw [hf] at h
      cases x with
      | inl a' =>
        obtain ⟨n, hn⟩ := iterO_iff.1 h
        exact ⟨n + 1, by rw [iterN, hf]; exact hn⟩
      | inr b' => exact ⟨1, by rw [iterN, hf]; exact h⟩

def zipP : List Nat → List AV → List (Nat × AV)
  | j :: js, c :: cs => (j, c) :: zipP js cs
  | _, _ => []
theorem zipP_mem : ∀ (js : List Nat) (cs : List AV) (j : Nat) (c : AV), (j, c) ∈ zipP js cs → ∃ q : Nat, js[q]? = some j ∧ cs[q]? = some c
  | [], cs, j, c, h => by simp [zipP] at h
  | _ :: _, [], j, c, h => by simp [zipP] at h
  | i :: js, d :: cs, j, c, h => by
    simp only [zipP, List.mem_cons, Prod.mk.injEq] at h
    rcases h with ⟨rfl, rfl⟩ | h
    · exact ⟨0, rfl, rfl⟩
    · obtain ⟨q, h1, h2⟩ := zipP_mem js cs j c h
      exact ⟨q + 1, by simpa using h1, by simpa using h2⟩
def tagL (t : Tm) : List Nat → Nat → List (Nat × AV)
  | [], _ => []
  | j :: js, q => (j, .nm q (slots t j)) :: tagL t js (q + 1)
theorem tagL_mem {t : Tm} : ∀ (js : List Nat) (q j : Nat) (c : AV), (j, c) ∈ tagL t js q → ∃ k : Nat, js[k]? = some j ∧ c = .nm (q + k) (slots t j)
  | [], q, j, c, h => by simp [tagL] at h
  | i :: js, q, j, c, h => by
    simp only [tagL, List.mem_cons, Prod.mk.injEq] at h
    rcases h with ⟨rfl, rfl⟩ | h
    · exact ⟨0, rfl, rfl⟩
    · obtain ⟨k, h1, h2⟩ := tagL_mem js (q + 1) j c h
      exact ⟨k + 1, by simpa using h1, by rw [h2]; congr 1; omega⟩
/-- A piece of code's beginning. -/
def startU {β : Type} (O : Op3 β) (u : Un) (kd : Den u.k) (d : Den u.i) (K : List AV → AS → β) : β :=
  if hn : u.n ≤ 1000000 then
    onT O ((scat true u.k kd (1 + u.stay.length)).map some) fun x0 => onT O ((scat false u.i d x0.2.2).map some) fun x1 =>
      fSetP (anyT u.n hn) (zipP u.kins x0.1 ++ zipP u.ins x1.1) fun t => fSetP t (tagL t u.stay 1) fun t => fH (x0.2.1 ++ x1.2.1) [] fun h => K x1.1 ⟨t, h, x1.2.2⟩
  else O.fail
/-- All that stays is there. -/
def stayB (t : Tm) : List Nat → Nat → Bool
  | [], _ => true
  | j :: js, q => (match slots t j with | .nm n _ => Nat.beq n q | _ => false) && stayB t js (q + 1)
def sameX : XK → Exit → Bool
  | .normal, .normal => true
  | .exit i, .exit j => Nat.beq i j
  | .ret, .ret => true
  | _, _ => false
def findX : List (XK × List Bool) → Exit → Nat → Option (Nat × List Bool)
  | [], _, _ => none
  | (x, m) :: l, e, n => bif sameX x e then some (n, m) else findX l e (n + 1)
theorem sameX_ok {x : XK} {e : Exit} (h : sameX x e = true) : e = x.toE := by
  cases x <;> cases e <;> simp [sameX] at h <;> first | rfl | (subst h; rfl)
theorem findX_ok : ∀ {l : List (XK × List Bool)} {e : Exit} {n k : Nat} {m : List Bool}, findX l e n = some (k, m) → n ≤ k ∧ ∃ x, l[k - n]? = some (x, m) ∧ e = x.toE
  | [], e, n, k, m, h => by simp [findX] at h
  | (x, m') :: l, e, n, k, m, h => by
    simp only [findX] at h
    cases hs : sameX x e with
    | true =>
      rw [hs] at h
      simp only [cond_true, Option.some.injEq, Prod.mk.injEq] at h
      obtain ⟨rfl, rfl⟩ := h
      exact ⟨Nat.le_refl _, x, by simp, sameX_ok hs⟩
    | false =>
      rw [hs] at h
      obtain ⟨h1, y, h2, h3⟩ := findX_ok (l := l) h
      refine ⟨by omega, y, ?_, h3⟩
      rw [show k - n = (k - (n + 1)) + 1 by omega]
      simpa using h2
def dvals : Sh → List Value
  | .nil => []
  | .sc c r => c.enc c.dflt :: dvals r
  | .sl _ _ _ r => .slice none 0 0 :: dvals r
  | .pt _ _ _ r => undef :: dvals r
  | .po _ _ _ r => .pointer none :: dvals r
  | .ag tg row r => mkAg tg (dvals row) :: dvals r
  | .mp k _ _ r => (match k with | .map => .map none | .ob _ => .pointer none) :: dvals r
def maskC (t : Tm) : List Bool → List Nat → List Value → List AV
  | b :: m, j :: js, ds => (bif b then strip (slots t j) else .v (ds.headD undef)) :: maskC t m js ds.tail
  | _, _, _ => []
theorem maskC_concs {gl : Nat → Option Nat} {E : Env} {t : Tm} {N : Nat} {a : Act} (h : Sl gl E (slots t) N a) : ∀ (m : List Bool) (js : List Nat) (ds : List Value), (maskC t m js ds).all (fun c => !isAny c) = true →
    ∃ vs, concs E (maskC t m js ds) = some vs ∧ ∀ (q i : Nat), m[q]? = some true → js[q]? = some i → vs[q]? = some (tm a i)
  | [], js, ds, _ => ⟨[], rfl, fun q i hq _ => by simp at hq⟩
  | b :: m, [], ds, _ => ⟨[], rfl, fun q i _ hq => by simp at hq⟩
  | b :: m, j :: js, ds, hall => by
    simp only [maskC, List.all_cons, Bool.and_eq_true, Bool.not_eq_true'] at hall
    obtain ⟨vs, h1, h2⟩ := maskC_concs h m js ds.tail hall.2
    have : ∃ V, conc E (bif b then strip (slots t j) else .v (ds.headD undef)) = some V ∧ (b = true → V = tm a j) := by
      cases b with
      | true => exact ⟨_, h.slot j hall.1, fun _ => rfl⟩
      | false => exact ⟨_, rfl, fun e => by cases e⟩
    obtain ⟨V, hV, hV'⟩ := this
    refine ⟨V :: vs, concs_cons.2 ⟨V, vs, hV, h1, rfl⟩, fun q i hq hi => ?_⟩
    cases q with
    | zero =>
      simp only [List.getElem?_cons_zero, Option.some.injEq] at hq hi ⊢
      subst hq hi
      exact hV' rfl
    | succ q => exact h2 q i (by simpa using hq) (by simpa using hi)
def outCs (u : Un) (t : Tm) (n : Nat) (m : List Bool) : List AV :=
  match codedB u.ex with
  | true => .v (.int .i64 n) :: maskC t m u.outs (dvals u.o).tail
  | false => maskC t m u.outs (dvals u.o)
/-- A way out. -/
def exitU {γ : Type} (u : Un) (ps : List AV) (e : Exit) (s : AS) (K : Den u.o × Den (posts u.i) → Option γ) : Option γ :=
  match findX u.ex e 0 with
  | some (n, m) => bif stayB s.t u.stay 1 && (outCs u s.t n m).all (fun c => !isAny c) then
      onT (FO _) (gat (look s.h) false u.o (outCs u s.t n m)) fun a => onT (FO _) (gat (look s.h) false (posts u.i) ps) fun b =>
        bif nodupB (a.2.1 ++ b.2.1) && ((a.2.2 ++ b.2.2).all fun m => isRo (look s.h m)) then K (a.1, b.1) else none
    else none
  | none => none
def eqNs : List Nat → List Nat → Bool
  | [], [] => true
  | a :: l, b :: m => Nat.beq a b && eqNs l m
  | _, _ => false
theorem eqNs_ok : ∀ {l m : List Nat}, eqNs l m = true → l = m
  | [], [], _ => rfl
  | a :: l, b :: m, h => by
    simp only [eqNs, Bool.and_eq_true] at h
    rw [Nat.eq_of_beq_eq_true h.1, eqNs_ok h.2]
  | [], _ :: _, h => by simp [eqNs] at h
  | _ :: _, [], h => by simp [eqNs] at h
/-- Back at a loop's head. -/
def backU {γ : Type} (u : Un) (cs : List AV) (s : AS) (K : Den u.i → Option γ) : Option γ :=
  bif stayB s.t u.stay 1 && (vals s.t u.ins).all (fun c => !isAny c) then
    onT (FO _) (gat (look s.h) false u.i (vals s.t u.ins)) fun x =>
      bif nodupB x.2.1 && eqNs (ptrNs (ptrs u.i (vals s.t u.ins))) (ptrNs (ptrs u.i cs)) && (x.2.2.all fun m => isRo (look s.h m)) then K x.1 else none
  else none
/-- What comes of a piece of code. -/
def unitF (C : Cx) (fuel : Nat) (p : Plan) (u : Un) (c : Code) (kd : Den u.k) (d : Den u.i) : Option (Den u.o × Den (posts u.i)) :=
  startU (FO _) u kd d fun cs s => avc (FO _) (unr none fuel) C c p s (fun e s' => exitU u (ptrs u.i cs) e s' some)
/-- What comes of a round. -/
def roundF (C : Cx) (fuel : Nat) (p : Plan) (u : Un) (c : Code) (kd : Den u.k) (d : Den u.i) : Option (Den u.i ⊕ (Den u.o × Den (posts u.i))) :=
  startU (FO _) u kd d fun cs s => avc (FO _) (unr none fuel) C c p s (fun e s' => match e with
    | .normal => backU u cs s' fun d => some (.inl d)
    | e => exitU u (ptrs u.i cs) e s' fun r => some (.inr r))

structure Started (gl : Nat → Option Nat) (u : Un) (a : Act) (w : World) (Ps : List Pl) (F R : List Nat) (cs : List AV) (s : AS) (E : Env) : Prop where
  hold : Holds gl w ⟨fun k => k ∈ F, fun k => k ∈ R⟩ u.n s.nx E E s a w
  ptr : PlOk E Ps (ptrs u.i cs)
  tag : ∀ (q j : Nat), u.stay[q]? = some j → E (1 + q) = some { block := 0, base := 0, val := tm a j }
theorem startU_den {β : Type} {A : Ans β} {u : Un} {kd : Den u.k} {d : Den u.i} {K : List AV → AS → β} (h : A.den (startU A.toOp3 u kd d K)) {a : Act} {w : World} {Rk : List Nat} {Ps : List Pl} {F R : List Nat}
    (h1 : a.defers = []) (h2 : a.tmps.size = u.n) (h3 : hold w true u.k kd (u.kins.map (tm a)) [] Rk) (h4 : holdA w u.i d (u.ins.map (tm a)) Ps F R) (h5 : F.Nodup) (h6 : ∀ k ∈ F, k ∉ R ++ Rk) (hgw : GlobOk w (fun k => k ∈ F)) :
    ∃ cs s E, A.den (K cs s) ∧ Started (fun _ => none) u a w Ps F (R ++ Rk) cs s E := by
  unfold startU at h
  split at h
  case isFalse => exact (A.fail_den h).elim
  rename_i hn
  obtain ⟨x0, hx0, h⟩ := onT_den h
  obtain ⟨x1, hx1, h⟩ := onT_den h
  rw [T.get_map, Option.some.injEq] at hx0 hx1
  rw [fSetP_eq, fSetP_eq, fH_eq] at h
  let Et : Env := fun n => if 1 ≤ n ∧ n < 1 + u.stay.length then some { block := 0, base := 0, val := tm a (u.stay.getD (n - 1) 0) } else none
  obtain ⟨E1, FF0, RR0, g0⟩ := scat_ok u.k kd _ [] Rk (1 + u.stay.length) Et h3 List.nodup_nil (fun n n1 n2 => by simp only [Et]; rw [if_neg (by omega)])
  have hge0 := scat_ge (lx := true) u.k kd (1 + u.stay.length)
  rw [hx0] at g0 hge0
  obtain ⟨E2, FF1, RR1, g1, hpl⟩ := scatA_ok u.i d _ Ps F R x0.2.2 E1 h4 h5 (fun n n1 n2 => by
    cases hE : E1 n with
    | none => rfl
    | some q =>
      have hEt : Et n = none := by simp only [Et]; rw [if_neg (by omega)]
      have := (g0.dom n hEt (by rw [hE]; simp)).2
      omega)
  have hge1 := scat_ge (lx := false) u.i d x0.2.2
  rw [hx1] at g1 hpl hge1
  have g := ScOk.ag (tg := none) g0 g1 hge0 hge1 (fun a ha => by simp at ha)
  have hlt1 := hold_lt _ _ _ _ _ _ (holdA_hold _ _ _ _ _ _ h4)
  have hlt0 := hold_lt _ _ _ _ _ _ h3
  -- the slots that were filled
  have mid : ∀ j, (∀ n v, (setP (anyT u.n hn) (zipP u.kins x0.1 ++ zipP u.ins x1.1)).get j ≠ .nm n v) ∧ (isAny ((setP (anyT u.n hn) (zipP u.kins x0.1 ++ zipP u.ins x1.1)).get j) = false → conc E2 ((setP (anyT u.n hn) (zipP u.kins x0.1 ++ zipP u.ins x1.1)).get j) = some (a.tmps.getD j undef)) := by
    intro j
    rcases setP_get (zipP u.kins x0.1 ++ zipP u.ins x1.1) (anyT u.n hn) j with get | ⟨_, get⟩
    · rw [get, anyT_get]
      by_cases hlt : j < u.n
      · rw [if_pos hlt]
        exact ⟨fun n v e => (by cases e), fun e => by simp [isAny] at e⟩
      · rw [if_neg hlt]
        refine ⟨fun n v e => (by cases e), fun _ => ?_⟩
        simp only [conc]
        rw [Array.getD_eq_getD_getElem?, Array.getElem?_eq_none (by omega)]
        rfl
    · generalize (setP (anyT u.n hn) (zipP u.kins x0.1 ++ zipP u.ins x1.1)).get j = c at get ⊢
      have hc : conc E2 c = some (a.tmps.getD j undef) := by
        rcases List.mem_append.1 get with get | get
        · obtain ⟨q, m1, m2⟩ := zipP_mem _ _ _ _ get
          obtain ⟨V, v1, v2⟩ := concs_get g0.cells m2
          rw [List.getElem?_map, m1] at v1
          simp only [Option.map_some, Option.some.injEq] at v1
          rw [← v1] at v2
          exact conc_mono g1.ext _ _ v2
        · obtain ⟨q, m1, m2⟩ := zipP_mem _ _ _ _ get
          obtain ⟨V, v1, v2⟩ := concs_get g1.cells m2
          rw [List.getElem?_map, m1] at v1
          simp only [Option.map_some, Option.some.injEq] at v1
          rw [← v1] at v2
          exact v2
      exact ⟨fun n v e => nm_none hc n v e, fun _ => hc⟩
  have htag : ∀ (q j : Nat), u.stay[q]? = some j → E2 (1 + q) = some { block := 0, base := 0, val := tm a j } := by
    intro q j hq
    have hlt := (List.getElem?_eq_some_iff.1 hq).1
    refine Env.le_trans g0.ext g1.ext _ _ ?_
    simp only [Et]
    rw [if_pos (by omega), show 1 + q - 1 = q by omega, List.getD_eq_getElem?_getD, hq]
    rfl
  generalize hT : setP (anyT u.n hn) (zipP u.kins x0.1 ++ zipP u.ins x1.1) = T1 at h mid
  have hTn : T1.n = u.n := by rw [← hT, setP_n]; rfl
  refine ⟨x1.1, _, E2, h, ⟨⟨Anc.refl _ _, ⟨fun n => if n < x0.2.2 then FF0 n else FF1 n, fun n => if n < x0.2.2 then RR0 n else RR1 n, ?_, Fr.refl _ _, ?_, ?_, ?_, hgw⟩, ⟨h1, h2, (fun g n e => by cases e), ?_, ?_⟩, ?_, ?_, Nat.le_refl _⟩, hpl, htag⟩⟩
  · show Gc E2 (look (putH (x0.2.1 ++ x1.2.1) [])) w _ _
    rw [look_putH, List.append_nil]
    exact g.gc
  · intro n b k hb hk
    have hb : look (putH (x0.2.1 ++ x1.2.1) []) n = some b := hb
    rw [look_putH, List.append_nil] at hb
    have := g.inF n b k hb hk
    exact .inl (by simpa using this)
  · intro n b k hb hk
    have hb : look (putH (x0.2.1 ++ x1.2.1) []) n = some b := hb
    rw [look_putH, List.append_nil] at hb
    have := g.inR n b k hb hk
    left
    show k ∈ R ++ Rk
    simp only [List.mem_append] at this ⊢
    exact this.symm
  · intro k hk
    have hk : k ∈ R ++ Rk := hk
    refine ⟨?_, fun hk' => h6 k hk' hk⟩
    rcases List.mem_append.1 hk with h | h
    · exact hlt1.2 k h
    · exact hlt0.2 k h
  · intro j hj
    have hj : isAny (strip ((setP T1 (tagL T1 u.stay 1)).get j)) = false := hj
    show conc E2 (strip ((setP T1 (tagL T1 u.stay 1)).get j)) = _
    rcases setP_get (tagL T1 u.stay 1) T1 j with get | ⟨_, get⟩
    · rw [get] at hj ⊢
      have hs : strip (T1.get j) = T1.get j := by
        cases hv : T1.get j <;> first | rfl | exact ((mid j).1 _ _ hv).elim
      rw [hs] at hj ⊢
      exact (mid j).2 hj
    · obtain ⟨k, m1, m2⟩ := tagL_mem _ _ _ _ get
      rw [m2] at hj ⊢
      exact (mid j).2 hj
  · intro j n v hj
    have hj : (setP T1 (tagL T1 u.stay 1)).get j = .nm n v := hj
    rcases setP_get (tagL T1 u.stay 1) T1 j with get | ⟨_, get⟩
    · rw [get] at hj
      exact ((mid j).1 _ _ hj).elim
    · obtain ⟨k, m1, m2⟩ := tagL_mem _ _ _ _ get
      rw [hj] at m2
      simp only [AV.nm.injEq] at m2
      exact ⟨_, by rw [m2.1]; exact htag k j m1, rfl⟩
  · intro n hn'
    have hn' : x1.2.2 ≤ n := hn'
    cases hE : E2 n with
    | none => rfl
    | some q =>
      exfalso
      have hEt : Et n = none := by simp only [Et]; rw [if_neg (by omega)]
      have := (g.dom n hEt (by rw [hE]; simp)).2
      have : n < x1.2.2 := this
      omega
  · show (setP T1 (tagL T1 u.stay 1)).n = u.n
    rw [setP_n]; exact hTn
theorem stayB_ok {gl : Nat → Option Nat} {u : Un} {a a' : Act} {w : World} {Ps : List Pl} {F R : List Nat} {cs : List AV} {s : AS} {E E' : Env} (H : Started gl u a w Ps F R cs s E) (hE : E.le E') {s' : AS} {N : Nat} (hs : Sl gl E' (slots s'.t) N a') (h : stayB s'.t u.stay 1 = true) : ∀ j ∈ u.stay, tm a' j = tm a j := by
  have key : ∀ (l : List Nat) (k : Nat), stayB s'.t l (1 + k) = true → (∀ (q j : Nat), l[q]? = some j → E (1 + (k + q)) = some { block := 0, base := 0, val := tm a j }) → ∀ j ∈ l, tm a' j = tm a j := by
    intro l
    induction l with
    | nil => intro k _ _ j hj; cases hj
    | cons i l ih =>
      intro k hb ht j hj
      simp only [stayB, Bool.and_eq_true] at hb
      rcases List.mem_cons.1 hj with rfl | hj
      · obtain ⟨hb, _⟩ := hb
        split at hb
        · rename_i n v hv
          have hn := Nat.eq_of_beq_eq_true hb
          subst hn
          obtain ⟨p, p1, p2⟩ := hs.named j (1 + k) v hv
          have := hE _ _ (ht 0 j rfl)
          rw [show 1 + (k + 0) = 1 + k by omega, p1, Option.some.injEq] at this
          rw [this] at p2
          exact p2.symm
        · cases hb
      · refine ih (k + 1) hb.2 (fun q j hq => ?_) j hj
        have := ht (q + 1) j (by simpa using hq)
        rwa [show 1 + (k + (q + 1)) = 1 + (k + 1 + q) by omega] at this
  exact key u.stay 0 h (fun q j hq => by have := H.tag q j hq; rwa [show 1 + q = 1 + (0 + q) by omega] at this)
theorem exitU_ok {γ : Type} {gl : Nat → Option Nat} {u : Un} {a a' : Act} {w w' : World} {Ps : List Pl} {F R : List Nat} {cs : List AV} {s s' : AS} {E E' : Env} (H : Started gl u a w Ps F R cs s E) {e : Exit} {K : Den u.o × Den (posts u.i) → Option γ} {g : γ} (h : exitU u (ptrs u.i cs) e s' K = some g)
    (H' : Holds gl w ⟨fun k => k ∈ F, fun k => k ∈ R⟩ u.n s.nx E E' s' a' w') : ∃ r, K r = some g ∧ UnPost u a w Ps F R r e a' w' := by
  unfold exitU at h
  split at h
  case h_2 => cases h
  rename_i n m hfind
  obtain ⟨hn0, x, hx, he⟩ := findX_ok hfind
  rw [Nat.sub_zero] at hx
  cases hz : (stayB s'.t u.stay 1 && (outCs u s'.t n m).all (fun c => !isAny c)) with
  | false => rw [hz] at h; cases h
  | true =>
  rw [hz] at h
  simp only [cond_true] at h
  simp only [Bool.and_eq_true] at hz
  obtain ⟨hz1, hz2⟩ := hz
  obtain ⟨y, hy, h1⟩ := onT_den (A := FA (fun x => x = g)) ⟨g, h, rfl⟩
  obtain ⟨z, hz', h2⟩ := onT_den (A := FA (fun x => x = g)) h1
  obtain ⟨g', h3, e3⟩ := h2
  clear h h1
  subst e3
  have h := h3
  cases hc : (nodupB (y.2.1 ++ z.2.1) && ((y.2.2 ++ z.2.2).all fun m => isRo (look s'.h m))) with
  | false => rw [hc] at h; cases h
  | true =>
  rw [hc] at h
  simp only [cond_true] at h
  simp only [Bool.and_eq_true] at hc
  obtain ⟨c1, c2⟩ := hc
  have c1 := nodupB_ok c1
  obtain ⟨FF, RR, G⟩ := H'.gam
  have hconc : ∃ zs, concs E' (outCs u s'.t n m) = some (outV (codedB u.ex) n zs) ∧ ∀ (q i : Nat), m[q]? = some true → u.outs[q]? = some i → zs[q]? = some (tm a' i) := by
    unfold outCs at hz2 ⊢
    generalize codedB u.ex = cb at hz2 ⊢
    cases cb with
    | true =>
      simp only [List.all_cons, Bool.and_eq_true] at hz2
      obtain ⟨zs, k1, k2⟩ := maskC_concs H'.sl m u.outs _ hz2.2
      exact ⟨zs, concs_cons.2 ⟨_, zs, rfl, k1, rfl⟩, k2⟩
    | false =>
      obtain ⟨zs, k1, k2⟩ := maskC_concs H'.sl m u.outs _ hz2
      exact ⟨zs, k1, k2⟩
  obtain ⟨zs, k1, k2⟩ := hconc
  obtain ⟨F1, R1, q1⟩ := (gat_ok G.toGc false u.o).1 _ _ y k1 hy
  have hp' := H.ptr.mono H'.anc.le
  obtain ⟨Qs, F2, R2, hq, q2⟩ := gatA_ok G.toGc (posts u.i) _ _ z (PlOk.cells hp') hz'
  rw [ptrs_posts] at hq
  have := PlOk.uniq hp' hq
  subst this
  refine ⟨_, h, ⟨⟨n, x, m, zs, F1, R1, _, F2, R2, hx, he, H'.sl.defers, H'.sl.size, stayB_ok H H'.anc.le H'.sl hz1, k2, q1.data, q2.data, nodup_two G.toGc q1.inF q2.inF q1.nodup q2.nodup c1, ?_, ?_, G.fr⟩⟩⟩
  · intro k hk
    obtain ⟨m, hm, s1, k1⟩ := (q1.inF.append q2.inF) k hk
    obtain ⟨b', hb'⟩ := Option.isSome_iff_exists.1 s1
    exact G.feet m b' k hb' k1
  · intro k hk
    obtain ⟨m, b', hb', k1⟩ := ro_names (w' := w') G (q1.inR.append q2.inR) (ms' := y.2.2 ++ z.2.2) (fun m hm => hm) c2 k hk
    exact G.rd m b' k hb' k1
theorem backU_ok {γ : Type} {gl : Nat → Option Nat} {u : Un} {a a' : Act} {w w' : World} {Ps : List Pl} {F R : List Nat} {cs : List AV} {s s' : AS} {E E' : Env} (H : Started gl u a w Ps F R cs s E) {K : Den u.i → Option γ} {g : γ} (h : backU u cs s' K = some g)
    (H' : Holds gl w ⟨fun k => k ∈ F, fun k => k ∈ R⟩ u.n s.nx E E' s' a' w') :
    ∃ d F' R', K d = some g ∧ a'.defers = [] ∧ a'.tmps.size = u.n ∧ (∀ j ∈ u.stay, tm a' j = tm a j) ∧ holdA w' u.i d (u.ins.map (tm a')) Ps F' R' ∧ F'.Nodup ∧ (∀ k ∈ F', k ∈ F ∨ w.heap.size ≤ k) ∧ (∀ k ∈ R', k ∈ R ∨ tabM w k) ∧ Fr (fun k => k ∈ F) w w' := by
  unfold backU at h
  cases hz : (stayB s'.t u.stay 1 && (vals s'.t u.ins).all (fun c => !isAny c)) with
  | false => rw [hz] at h; cases h
  | true =>
  rw [hz] at h
  simp only [cond_true] at h
  simp only [Bool.and_eq_true] at hz
  obtain ⟨hz1, hz2⟩ := hz
  obtain ⟨x, hx, h1⟩ := onT_den (A := FA (fun x => x = g)) ⟨g, h, rfl⟩
  obtain ⟨g', h3, e3⟩ := h1
  clear h
  subst e3
  have h := h3
  cases hc : (nodupB x.2.1 && eqNs (ptrNs (ptrs u.i (vals s'.t u.ins))) (ptrNs (ptrs u.i cs)) && (x.2.2.all fun m => isRo (look s'.h m))) with
  | false => rw [hc] at h; cases h
  | true =>
  rw [hc] at h
  simp only [cond_true] at h
  simp only [Bool.and_eq_true] at hc
  obtain ⟨⟨c1, c2⟩, c3⟩ := hc
  have c1 := nodupB_ok c1
  have c2 := eqNs_ok c2
  obtain ⟨FF, RR, G⟩ := H'.gam
  obtain ⟨Qs, F', R', hq, q⟩ := gatA_ok G.toGc u.i _ _ x (vals_concs H'.sl u.ins hz2) hx
  have hp' := H.ptr.mono H'.anc.le
  have hQ : Qs = Ps := by
    obtain ⟨ns, p1, p2⟩ := hp'
    obtain ⟨ms, q1, q2⟩ := hq
    rw [p1, q1, ptrNs_map, ptrNs_map] at c2
    subst c2
    exact PlOk.uniq ⟨ms, rfl, q2⟩ ⟨ms, rfl, p2⟩
  subst hQ
  refine ⟨x.1, F', R', h, H'.sl.defers, H'.sl.size, stayB_ok H H'.anc.le H'.sl hz1, q.data, q.nodup c1, ?_, ?_, G.fr⟩
  · intro k hk
    obtain ⟨m, hm, s1, k1⟩ := q.inF k hk
    obtain ⟨b', hb'⟩ := Option.isSome_iff_exists.1 s1
    exact G.feet m b' k hb' k1
  · intro k hk
    obtain ⟨m, b', hb', k1⟩ := ro_names (w' := w') G q.inR (ms' := x.2.2) (fun m hm => hm) c3 k hk
    exact G.rd m b' k hb' k1
/-- A piece of code that is no loop. -/
theorem unOk_block {C : Cx} (hK : KOk C) (hpl : PlansOk C) (hm : C.P.follows .mixedOrders = true) (hg : C.gl = fun _ => none) {fuel : Nat} {p : Plan} {u : Un} {c : Code} (hp : PlanOk C.P p c) (hF : ∀ kd d, u.F kd d = unitF C fuel p u c kd d) : UnOk C.P u c := by
  intro a w kd d Rk Ps F R r hgw h1 h2 h3 h4 h5 h6 h7
  rw [hF] at h7
  unfold unitF at h7
  obtain ⟨cs, s, E, h, H⟩ := startU_den (A := FA (fun x => x = r)) ⟨r, h7, rfl⟩ h1 h2 h3 h4 h5 h6 hgw
  rw [← hg] at H
  refine Code.wp_mono ?_ (avc_sound (A := FA (fun x => x = r)) hK hm (unr_ok fuel) c p s _ hp h w _ u.n s.nx E E a w H.hold)
  rintro e a' w' ⟨s', E', ⟨g, hq, rfl⟩, H'⟩
  obtain ⟨r', hr, hu⟩ := exitU_ok H hq H'
  cases hr
  exact hu
/-- A loop. -/
theorem unOk_loop {C : Cx} (hK : KOk C) (hpl : PlansOk C) (hm : C.P.follows .mixedOrders = true) (hg : C.gl = fun _ => none) {fuel : Nat} {p : Plan} {u : Un} {c : Code} (hp : PlanOk C.P p c) (hs : (u.kins.all fun j => u.stay.contains j) = true) (hF : ∀ kd d, u.F kd d = iterO (roundF C fuel p u c kd) d) : UnOk C.P u (.loop c) := by
  intro a w kd d Rk Ps F R r hgw h1 h2 h3 h4 h5 h6 h7
  rw [hF, iterO_iff] at h7
  obtain ⟨n, h7⟩ := h7
  refine wp_loop_rounds n ?_
  have hltR : ∀ k ∈ R ++ Rk, k < w.heap.size := by
    intro k hk
    rcases List.mem_append.1 hk with h | h
    · exact (hold_lt _ _ _ _ _ _ (holdA_hold _ _ _ _ _ _ h4)).2 k h
    · exact (hold_lt _ _ _ _ _ _ h3).2 k h
  have hkins : ∀ j ∈ u.kins, j ∈ u.stay := fun j hj => by have := List.all_eq_true.1 hs j hj; simpa using this
  have key : ∀ (n : Nat) (d : Den u.i) (a1 : Act) (w1 : World) (F1 R1 : List Nat), iterN (roundF C fuel p u c kd) n d = some r → a1.defers = [] → a1.tmps.size = u.n → (∀ j ∈ u.stay, tm a1 j = tm a j) → holdA w1 u.i d (u.ins.map (tm a1)) Ps F1 R1 → F1.Nodup →
      (∀ k ∈ F1, k ∈ F ∨ w.heap.size ≤ k) → (∀ k ∈ R1, k ∈ R ++ Rk ∨ tabM w k) → Fr (fun k => k ∈ F) w w1 → Code.rounds C.P c (UnPost u a w Ps F (R ++ Rk) r) n a1 w1 := by
    intro n
    induction n with
    | zero => intro d a1 w1 F1 R1 h; cases h
    | succ n ih =>
      intro d a1 w1 F1 R1 h g1 g2 g3 g4 g5 g6 g7 g8
      rw [iterN] at h
      have hk1 : hold w1 true u.k kd (u.kins.map (tm a1)) [] Rk := by
        have : u.kins.map (tm a1) = u.kins.map (tm a) := List.map_congr_left fun j hj => g3 j (hkins j hj)
        rw [this]
        refine hold_kept _ _ _ _ _ _ h3 (fun k hk => by cases hk) (fun k hk => g8.block k (hltR k (by simp [hk])) (fun hF => h6 k hF (by simp [hk])))
      have hap : ∀ k ∈ F1, k ∉ R1 ++ Rk := by
        intro k hk hk'
        have hR : k ∈ R ++ Rk ∨ tabM w k := by
          rcases List.mem_append.1 hk' with h | h
          · exact g7 k h
          · simp [h]
        rcases hR with hR | hR
        · rcases g6 k hk with h | h
          · exact h6 k h hR
          · have := hltR k hR; omega
        · obtain ⟨t1, t2⟩ := hgw.tab hR
          rcases g6 k hk with h | h
          · exact t2 h
          · omega
      have hRR : ∀ k, (k ∈ R1 ++ Rk ∨ tabM w1 k) → k ∈ R ++ Rk ∨ tabM w k := by
        intro k hk
        rcases hk with hk | hk
        · rcases List.mem_append.1 hk with h | h
          · exact g7 k h
          · simp [h]
        · exact .inr (tabM_back hgw g8 hk)
      have hFF : ∀ k, (k ∈ F1 ∨ w1.heap.size ≤ k) → k ∈ F ∨ w.heap.size ≤ k := by
        intro k hk
        rcases hk with h | h
        · exact g6 k h
        · exact .inr (Nat.le_trans g8.size h)
      cases hb : roundF C fuel p u c kd d with
      | none => rw [hb] at h; cases h
      | some x =>
      rw [hb] at h
      unfold roundF at hb
      obtain ⟨cs, s, E, hb, H⟩ := startU_den (A := FA (fun y => y = x)) ⟨x, hb, rfl⟩ g1 g2 hk1 g4 g5 hap (hgw.step g8 g6)
      rw [← hg] at H
      rw [rounds_succ]
      refine Code.wp_mono ?_ (avc_sound (A := FA (fun y => y = x)) hK hm (unr_ok fuel) c p s _ hp hb w1 _ u.n s.nx E E a1 w1 H.hold)
      rintro e a2 w2 ⟨s', E', ⟨g, hq, rfl⟩, H'⟩
      have out : ∀ (K : (Den u.o × Den (posts u.i)) → Option (Den u.i ⊕ (Den u.o × Den (posts u.i)))), (∀ r, K r = some (.inr r)) → exitU u (ptrs u.i cs) e s' K = some g → UnPost u a w Ps F (R ++ Rk) r e a2 w2 := by
        intro K hK hq
        obtain ⟨r', hr, hu⟩ := exitU_ok H hq H'
        rw [hK, Option.some.injEq] at hr
        subst hr
        simp only [Option.some.injEq] at h
        subst h
        obtain ⟨n', x', m', zs, F3, R3, ps, F4, R4, e1, e2, e3, e4, e5, e6, e7, e8, e9, e10, e11, e12⟩ := hu.so
        exact ⟨n', x', m', zs, F3, R3, ps, F4, R4, e1, e2, e3, e4, fun j hj => (e5 j hj).trans (g3 j hj), e6, e7, e8, e9, fun k hk => hFF k (e10 k hk), fun k hk => hRR k (e11 k hk), g8.trans e12 (fun i hi => g6 i hi)⟩
      cases e with
      | normal =>
        obtain ⟨d2, F2, R2, hr, b1, b2, b3, b4, b5, b6, b7, b8⟩ := backU_ok H hq H'
        simp only [Option.some.injEq] at hr
        subst hr
        exact ih d2 a2 w2 F2 R2 h b1 b2 (fun j hj => (b3 j hj).trans (g3 j hj)) b4 b5 (fun k hk => hFF k (b6 k hk)) (fun k hk => hRR k (b7 k hk)) (g8.trans b8 (fun i hi => g6 i hi))
      | _ => exact out _ (fun r => rfl) hq
  exact key n d a w F R h7 h1 h2 (fun j _ => rfl) h4 h5 (fun k hk => .inl hk) (fun k hk => by simp [hk]) (Fr.refl _ _)
end Go.Proofs.YtpfbpcaehmhefaaDoorB.Sx
