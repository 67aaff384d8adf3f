/- ClashJudges returns true at every input, and its arguments read as before. No condition. -/
import Derived.Test.YtldfpoacjcjnjaaLaw
import Derived.Test.YtldfpoacjcjnjaaPureJ
import Derived.Lib.SmallJoins
namespace Go.Proofs.Ytldfpoacjcjnjaa.lawJ
open Go.ChangeShapes Go.WideShapes Go.ChangeAt Go.RowKit Go.Joins
theorem own : ownKnob Try.prog.godebug = none := by kernel_rfl
theorem laidOut : laidOutB Try.prog = true := by kernel_rfl
theorem cells26 : Try.prog.cellsOf 26 = 2 := by kernel_rfl
theorem cells28 : Try.prog.cellsOf 28 = 2 := by kernel_rfl

theorem law (H : Type) (enc : TypeId × Value → H) (W : World) (base : Nat) (args : Array Value) (ds : List (DataW H)) (p : List MemPlace)
    (hval0 : ∀ (j : Nat) t v, Try.f3.params[j]? = some t → args[j]? = some v → Value.okWide Try.prog W .any base t v)
    (hA0 : DataW.TrodAll enc Try.prog W 0 (fun _ => true) true Try.f3.params.toList args.toList ds p) : Calls Try.prog 3 args W (Law.Told W) := by
  have hval := hval0
  have hA := hA0
  rw [Try.params3] at hA hval
  obtain ⟨v0, vs0, d0, ds0, p0, q0, hargs, rfl, rfl, h0, r0⟩ := trodAll_cons hA
  obtain ⟨v1, vs1, d1, ds1, p1, q1, rfl, rfl, rfl, h1, r1⟩ := trodAll_cons r0
  obtain ⟨v2, vs2, d2, ds2, p2, q2, rfl, rfl, rfl, h2, r2⟩ := trodAll_cons r1
  obtain ⟨v3, vs3, d3, ds3, p3, q3, rfl, rfl, rfl, h3, r3⟩ := trodAll_cons r2
  obtain ⟨rfl, rfl, rfl⟩ := trodAll_nil r3
  obtain rfl : args = #[v0, v1, v2, v3] := by cases args; simp_all
  obtain ⟨c0, c1, y0, y1, m0, rfl, hd0, hp0, hy0, hy1⟩ := open_agg2 Try.underlying26 (by kernel_rfl) cells26 (hval 0 26 v0 rfl rfl) h0
  obtain ⟨c2, c3, y2, y3, m1, rfl, hd1, hp1, hy2, hy3⟩ := open_agg2 Try.underlying26 (by kernel_rfl) cells26 (hval 1 26 v1 rfl rfl) h1
  obtain ⟨c4, c5, y4, y5, m2, rfl, hd2, hp2, hy4, hy5⟩ := open_agg2 Try.underlying28 (by kernel_rfl) cells28 (hval 2 28 v2 rfl rfl) h2
  obtain ⟨c6, c7, y6, y7, m3, rfl, hd3, hp3, hy6, hy7⟩ := open_agg2 Try.underlying28 (by kernel_rfl) cells28 (hval 3 28 v3 rfl rfl) h3
  obtain ⟨a0, e0, _, _⟩ := DataW.trod_int Try.underlying23 hy0
  obtain ⟨a1, e1, _, _⟩ := DataW.trod_int Try.underlying24 hy1
  obtain ⟨a2, e2, _, _⟩ := DataW.trod_int Try.underlying23 hy2
  obtain ⟨a3, e3, _, _⟩ := DataW.trod_int Try.underlying24 hy3
  obtain ⟨a4, e4, _⟩ := DataW.trod_bool Try.underlying4 hy4
  obtain ⟨a5, e5, _, _⟩ := DataW.trod_int Try.underlying3 hy5
  obtain ⟨a6, e6, _⟩ := DataW.trod_bool Try.underlying4 hy6
  obtain ⟨a7, e7, _, _⟩ := DataW.trod_int Try.underlying3 hy7
  simp only [List.cons.injEq, and_true] at e0 e1 e2 e3 e4 e5 e6 e7
  subst e0 e1 e2 e3 e4 e5 e6 e7
  exact (PClashJudges.consulatelaw16_ClashJudges.calls 5 a0 a1 a2 a3 a4 a5 a6 a7 true W (PClashJudges.judges_pure a0 a1 a2 a3 a4 a5 a6 a7)).mono fun e W' h => h

set_option maxRecDepth 100000 in
theorem lifted (os : Os) (started : os.Started) (H : Type) (enc : TypeId × Value → H) :
    ReturnsInHanded {} Try.checked os 3 .any (Rows.clashJudgesSpec.pre6 enc Try.prog Try.f3 Rows.clashJudgesRow.domain false) (Rows.clashJudgesSpec.post enc Try.prog Try.f3 false true false false) :=
  Law.lifted (C := Try.checked) (F := 3) (tb := 4) own started (by kernel_rfl) Try.func3 rfl Try.underlying4 rfl
    (fun ds h => by match ds, h with | [_, _, _, _], _ => rfl)
    laidOut (by kernel_rfl)
    (ChangeSpec.witness6 (enc := enc) (C := Try.checked) false ⟨#[], #[.agg #[.int .u32 0, .int .u32 0], .agg #[.int .u32 0, .int .u32 0], .agg #[.bool false, .int .i64 0], .agg #[.bool false, .int .i64 0]], []⟩ 8 (by kernel_rfl) (by kernel_rfl) (by kernel_rfl) (by kernel_rfl))
    (fun W base args ds p hval hA _ _ => law H enc W base args ds p hval hA)

theorem proved : Rows.ClashJudgesSaid :=
  OpenClaim.holds_of_wide 3 Try.f3 rfl rfl rfl rfl rfl rfl rfl ⟨rfl, rfl, rfl, rfl, rfl⟩ rfl rfl rfl rfl rfl (by kernel_rfl) Try.func3 (by kernel_rfl)
    (of_decide_eq_true (by kernel_rfl)) (by unfold Func.isWrapper; first | (rw [if_pos (by decide +kernel)]; kernel_rfl) | (rw [if_neg (by decide +kernel)]; exact ⟨rfl, rfl⟩))
    (fun os started H enc _ => lifted os started H enc)
#print axioms proved
end Go.Proofs.Ytldfpoacjcjnjaa.lawJ
