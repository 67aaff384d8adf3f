/- The engine, part N: contracts of functions of one slice that ask whether it is nil. -/
import Derived.Test.YtpfbpcaehmhefaaDoorBZM
namespace Go.Proofs.YtpfbpcaehmhefaaDoorB.Sx
open Go.RowKit
set_option linter.unusedSimpArgs false
set_option linter.unusedVariables false
/-- A body, run on plain values. -/
def bodyV (C : Cx) (fuel : Nat) (f : FuncId) (args : List AV) (o : Sh) : Option (Den o × Den (posts .nil)) :=
  match C.P.funcs[f]? with
  | some fn => match fn.body with
    | some code => enter none fn.ntmps args [] 1 fun s => avc (FO _) (unr none fuel) C code (C.pl f) s (endsIn (FO _) C.P fn fun r s => endF .nil o [] r s)
    | none => none
  | none => none
theorem bodyV_ok {C : Cx} (hK : KOk C) (hpl : PlansOk C) (hm : C.P.follows .mixedOrders = true) (hg : C.gl = fun _ => none) {fuel : Nat} {f : FuncId} {args : List AV} {vs : List Value} {o : Sh} {r : Den o × Den (posts .nil)}
    (hargs : concs (fun _ => none) args = some vs) (h : bodyV C fuel f args o = some r) (w : World) (hw : GlobW w) :
    Calls C.P f vs.toArray w fun x w' => ∃ rs F1 R1, x = .returned (resV rs) ∧ hold w' false o r.1 rs F1 R1 ∧ F1.Nodup ∧ (∀ k ∈ F1, w.heap.size ≤ k) ∧ (∀ k ∈ R1, tabM w k) ∧ Fr (fun _ => False) w w' := by
  unfold bodyV at h
  split at h
  case h_2 => cases h
  rename_i fn hf
  split at h
  case h_2 => cases h
  rename_i code hc
  have G : Gam w ⟨fun _ => False, fun _ => False⟩ (fun _ => none) (look []) w :=
    ⟨fun _ => [], fun _ => [], ⟨(fun n b h => by cases h), (fun n b h => by cases h), (fun n m b c k h => by cases h)⟩, Fr.refl _ _, (fun n b k h => by cases h), (fun n b k h => by cases h), (fun k h => by cases h), hw⟩
  refine Calls.mono (calls_of_avc (A := FA (fun g => g = r)) hK hpl hm (unr_ok fuel) hf hc hargs G (by rw [hg]; intro g n h; cases h) (fun n hn => rfl) ⟨r, h, rfl⟩) ?_
  rintro en w' ⟨r', s, E', V, hr, rfl, hV, hanc, ⟨FF', RR', G'⟩, _, _⟩
  obtain ⟨r2, hr, rfl⟩ := hr
  unfold endF at hr
  split at hr
  case h_2 => cases hr
  rename_i rs hrs
  obtain ⟨a, ha, hr1⟩ := onT_den (A := FA (fun g => g = r2)) ⟨r2, hr, rfl⟩
  obtain ⟨b, hb, hr2⟩ := onT_den (A := FA (fun g => g = r2)) hr1
  obtain ⟨r3, hr3, e3⟩ := hr2
  clear hr hr1
  subst e3
  have hr := hr3
  cases hz : (nodupB (a.2.1 ++ b.2.1) && ((a.2.2 ++ b.2.2).all fun m => isRo (look s.h m))) with
  | false => rw [hz] at hr; cases hr
  | true =>
  rw [hz] at hr
  simp only [cond_true, Option.some.injEq] at hr
  simp only [Bool.and_eq_true] at hz
  obtain ⟨z1, z2⟩ := hz
  have z1 := nodupB_ok z1
  obtain ⟨us, hus, rfl⟩ := resL_ok hrs hV
  obtain ⟨F1, R1, q1⟩ := (gat_ok G'.toGc false o).1 rs us a hus ha
  obtain ⟨F2, R2, q2⟩ := (gat_ok G'.toGc false (posts .nil)).1 [] [] b rfl hb
  rw [← hr]
  refine ⟨us, F1, R1, rfl, q1.data, (List.nodup_append.1 (nodup_two G'.toGc q1.inF q2.inF q1.nodup q2.nodup z1)).1, ?_, ?_, G'.fr⟩
  · intro k hk
    obtain ⟨m, hm, s1, k1⟩ := q1.inF k hk
    obtain ⟨b', hb'⟩ := Option.isSome_iff_exists.1 s1
    exact (G'.feet m b' k hb' k1).elim (fun h => h.elim) id
  · intro k hk
    obtain ⟨m, b', hb', k1⟩ := ro_names (w' := w') G' (q1.inR.append q2.inR) (ms' := a.2.2 ++ b.2.2) (fun m hm => hm) z2 k (by simp [hk])
    exact (G'.rd m b' k hb' k1).resolve_left id
/-- A function of one slice that is only read: told of rows that are there by the body's function of data, of none by two runs. -/
theorem sliceT {P : Program} (hm : P.follows .mixedOrders = true) {K : List (FuncId × Spec)} {pl : List (FuncId × Plan)} (hS : AllS P K) (hP : AllP P pl) {fuel depth : Nat} {f : FuncId} {e : TypeId} {row o : Sh}
    {F : Den (.sl false e row .nil) → Option (Den o × Den (posts (.sl false e row .nil)))} {z : Den o}
    (hF : ∀ d : Den (.sl false e row .nil), 0 < (prHd .nil d).length → bodyF (tabC P K pl fuel depth) fuel f (.sl false e row .nil) o d = F d)
    (hz : ∀ d : Den (.sl false e row .nil), (prHd .nil d).length = 0 → F d = some (z, ()))
    (h0 : ∀ c, bodyV (tabC P K pl fuel depth) fuel f [.v (.slice none 0 c)] o = some (z, ()))
    (h1 : ∀ a c, bodyV (tabC P K pl fuel depth) fuel f [.v (.slice (some a) 0 c)] o = some (z, ())) : MeetsF P f ⟨.sl false e row .nil, o, F⟩ := by
  have hmT : (tabC P K pl fuel depth).P.follows .mixedOrders = true := by rw [tabC_P]; exact hm
  intro w d vs Ps Fo R r hgw hA hnd hap h
  by_cases hl : 0 < (prHd .nil d).length
  · have hb : bodyF (tabC P K pl fuel depth) fuel f (.sl false e row .nil) o d = some r := by rw [hF d hl]; exact h
    have := meetsF (C := tabC P K pl fuel depth) (fuel := fuel) (f := f) (c := ⟨.sl false e row .nil, o, bodyF (tabC P K pl fuel depth) fuel f (.sl false e row .nil) o⟩) (tabC_ok hm hS hP fuel depth) (tabC_pl hP fuel depth) hmT tabC_gl (fun d => rfl) w d vs Ps Fo R r hgw hA hnd hap hb
    rw [tabC_P] at this
    exact this
  · have hl0 : (prHd .nil d).length = 0 := by omega
    have hr : F d = some r := h
    rw [hz d hl0] at hr
    cases hr
    obtain ⟨v, vs', F1, R1, F2, R2, rfl, h2, ⟨rfl, rfl, rfl, rfl⟩, rfl, rfl⟩ := hA
    obtain ⟨p, vs'', xs, F0, R0, F3, R3, F4, R4, h3, _, _, ⟨rfl, _, _⟩, _, _⟩ := h2
    simp only [List.cons.injEq, and_true] at h3
    have run : ∀ X : Value, (bodyV (tabC P K pl fuel depth) fuel f [.v X] o = some (z, ())) → Calls P f #[X] w fun x w' => ∃ rs G1 S1 ps G2 S2, x = .returned (resV rs) ∧ hold w' false o z rs G1 S1 ∧ holdA w' (posts (.sl false e row .nil)) () ps [] G2 S2 ∧
        (G1 ++ G2).Nodup ∧ (∀ k ∈ G1 ++ G2, k ∈ F1 ++ [] ∨ w.heap.size ≤ k) ∧ (∀ k ∈ S1 ++ S2, k ∈ R1 ++ [] ∨ tabM w k) ∧ Fr (fun k => k ∈ F1 ++ []) w w' := by
      intro X hX
      have := bodyV_ok (C := tabC P K pl fuel depth) (tabC_ok hm hS hP fuel depth) (tabC_pl hP fuel depth) hmT tabC_gl (vs := [X]) (concs_cons.2 ⟨X, [], rfl, rfl, rfl⟩) hX w (hgw.to fun k _ _ => ⟨rfl, fun h => h⟩)
      rw [tabC_P] at this
      refine Calls.mono this ?_
      rintro en w' ⟨rs, G1, S1, rfl, q1, q2, q3, q4, q5⟩
      exact ⟨rs, G1, S1, [], [], [], rfl, q1, ⟨rfl, rfl, rfl, rfl⟩, by simpa using q2, fun k hk => .inr (q3 k (by simpa using hk)), fun k hk => .inr (q4 k (by simpa using hk)), q5.mono (fun k hk => hk.elim)⟩
    have hd0 : (prHd .nil (A := List (Den row)) (prHd .nil d)).length = 0 := hl0
    rw [h3]
    cases hn : p.ptr 0 0 with
    | none =>
      rw [hd0]
      exact run _ (h0 p.cap)
    | some A =>
      rw [hd0]
      exact run _ (h1 A p.cap)
end Go.Proofs.YtpfbpcaehmhefaaDoorB.Sx
