/- ClashAgrees returns true at every input, and its arguments read as before. No condition. -/
import Derived.Test.YtldfpoacjcjnjaaLaw
import Derived.Test.YtldfpoacjcjnjaaPureA
import Derived.Lib.SmallJoins
namespace Go.Proofs.Ytldfpoacjcjnjaa.lawA
open Go.ChangeShapes Go.WideShapes Go.ChangeAt Go.RowKit Go.Joins
theorem own : ownKnob Try.prog.godebug = none := by kernel_rfl
theorem laidOut : laidOutB Try.prog = true := by kernel_rfl
theorem cells26 : Try.prog.cellsOf 26 = 2 := by kernel_rfl

theorem law (H : Type) (enc : TypeId × Value → H) (W : World) (base : Nat) (args : Array Value) (ds : List (DataW H)) (p : List MemPlace)
    (hval0 : ∀ (j : Nat) t v, Try.f4.params[j]? = some t → args[j]? = some v → Value.okWide Try.prog W .any base t v)
    (hA0 : DataW.TrodAll enc Try.prog W 0 (fun _ => true) true Try.f4.params.toList args.toList ds p) : Calls Try.prog 4 args W (Law.Told W) := by
  have hval := hval0
  have hA := hA0
  rw [Try.params4] at hA hval
  obtain ⟨v0, vs0, d0, ds0, p0, q0, hargs, rfl, rfl, h0, r0⟩ := trodAll_cons hA
  obtain ⟨v1, vs1, d1, ds1, p1, q1, rfl, rfl, rfl, h1, r1⟩ := trodAll_cons r0
  obtain ⟨v2, vs2, d2, ds2, p2, q2, rfl, rfl, rfl, h2, r2⟩ := trodAll_cons r1
  obtain ⟨v3, vs3, d3, ds3, p3, q3, rfl, rfl, rfl, h3, r3⟩ := trodAll_cons r2
  obtain ⟨v4, vs4, d4, ds4, p4, q4, rfl, rfl, rfl, h4, r4⟩ := trodAll_cons r3
  obtain ⟨rfl, rfl, rfl⟩ := trodAll_nil r4
  obtain rfl : args = #[v0, v1, v2, v3, v4] := by cases args; simp_all
  obtain ⟨c0_0, c0_1, y0_0, y0_1, m0, rfl, _, _, hy0_0, hy0_1⟩ := open_agg2 Try.underlying26 (by kernel_rfl) cells26 (hval 0 26 v0 rfl rfl) h0
  obtain ⟨a0, ea0, _, wa0⟩ := DataW.trod_int Try.underlying23 hy0_0
  obtain ⟨a1, ea1, _, wa1⟩ := DataW.trod_int Try.underlying24 hy0_1
  obtain ⟨c1_0, c1_1, y1_0, y1_1, m1, rfl, _, _, hy1_0, hy1_1⟩ := open_agg2 Try.underlying26 (by kernel_rfl) cells26 (hval 1 26 v1 rfl rfl) h1
  obtain ⟨a2, ea2, _, wa2⟩ := DataW.trod_int Try.underlying23 hy1_0
  obtain ⟨a3, ea3, _, wa3⟩ := DataW.trod_int Try.underlying24 hy1_1
  obtain ⟨a4, rfl, rfl, rfl⟩ := open_bool Try.underlying4 (hval 2 4 v2 rfl rfl) h2
  obtain ⟨a5, rfl, rfl, rfl⟩ := open_bool Try.underlying4 (hval 3 4 v3 rfl rfl) h3
  obtain ⟨a6, rfl, rfl, rfl, wa6⟩ := open_int Try.underlying5 (hval 4 5 v4 rfl rfl) h4
  simp only [List.cons.injEq, and_true] at ea0 ea1 ea2 ea3
  subst ea0 ea1 ea2 ea3
  exact PClashAgrees.walk a0 wa0 a1 wa1 a2 wa2 a3 wa3 a4 a5 a6 wa6 W

set_option maxRecDepth 100000 in
theorem lifted (os : Os) (started : os.Started) (H : Type) (enc : TypeId × Value → H) :
    ReturnsInHanded {} Try.checked os 4 .any (Rows.clashAgreesSpec.pre6 enc Try.prog Try.f4 Rows.clashAgreesRow.domain false) (Rows.clashAgreesSpec.post enc Try.prog Try.f4 false true false false) :=
  Law.lifted (C := Try.checked) (F := 4) (tb := 4) own started (by kernel_rfl) Try.func4 rfl Try.underlying4 rfl
    (fun ds h => by match ds, h with | [_, _, _, _, _], _ => rfl)
    laidOut (by kernel_rfl)
    (ChangeSpec.witness6 (enc := enc) (C := Try.checked) false ⟨#[], #[.agg #[.int .u32 0, .int .u32 0], .agg #[.int .u32 0, .int .u32 0], .bool false, .bool false, .int .u8 0], []⟩ 8 (by kernel_rfl) (by kernel_rfl) (by kernel_rfl) (by kernel_rfl))
    (fun W base args ds p hval hA _ _ => law H enc W base args ds p hval hA)

theorem proved : Rows.ClashAgreesSaid :=
  OpenClaim.holds_of_wide 4 Try.f4 rfl rfl rfl rfl rfl rfl rfl ⟨rfl, rfl, rfl, rfl, rfl⟩ rfl rfl rfl rfl rfl (by kernel_rfl) Try.func4 (by kernel_rfl)
    (of_decide_eq_true (by kernel_rfl)) (by unfold Func.isWrapper; first | (rw [if_pos (by decide +kernel)]; kernel_rfl) | (rw [if_neg (by decide +kernel)]; exact ⟨rfl, rfl⟩))
    (fun os started H enc _ => lifted os started H enc)
#print axioms proved
end Go.Proofs.Ytldfpoacjcjnjaa.lawA
