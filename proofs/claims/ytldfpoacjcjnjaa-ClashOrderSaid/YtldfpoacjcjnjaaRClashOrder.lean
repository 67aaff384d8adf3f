/- ClashOrder returns true. No condition. -/
import Derived.Test.YtldfpoacjcjnjaaLaw
import Derived.Test.YtldfpoacjcjnjaaKO
import Derived.Lib.SmallJoins
namespace Go.Proofs.Ytldfpoacjcjnjaa.rowClashOrder
open Go.ChangeShapes Go.WideShapes Go.ChangeAt Go.RowKit Go.Joins
theorem own : ownKnob Try.prog.godebug = none := by kernel_rfl
theorem laidOut : laidOutB Try.prog = true := by kernel_rfl
theorem cells26 : Try.prog.cellsOf 26 = 2 := by kernel_rfl

theorem law (H : Type) (enc : TypeId × Value → H) (W : World) (base : Nat) (args : Array Value) (ds : List (DataW H)) (p : List MemPlace)
    (hval0 : ∀ (j : Nat) t v, Try.f5.params[j]? = some t → args[j]? = some v → Value.okWide Try.prog W .any base t v)
    (hA0 : DataW.TrodAll enc Try.prog W 0 (fun _ => true) true Try.f5.params.toList args.toList ds p) : Calls Try.prog 5 args W (Law.Told W) := by
  have hval := hval0
  have hA := hA0
  rw [Try.params5] at hA hval
  obtain ⟨v0, vs0, d0, ds0, p0, q0, hargs, rfl, rfl, h0, r0⟩ := trodAll_cons hA
  obtain ⟨v1, vs1, d1, ds1, p1, q1, rfl, rfl, rfl, h1, r1⟩ := trodAll_cons r0
  obtain ⟨v2, vs2, d2, ds2, p2, q2, rfl, rfl, rfl, h2, r2⟩ := trodAll_cons r1
  obtain ⟨rfl, rfl, rfl⟩ := trodAll_nil r2
  obtain rfl : args = #[v0, v1, v2] := by cases args; simp_all
  obtain ⟨c0_0, c0_1, y0_0, y0_1, m0, rfl, _, _, hy0_0, hy0_1⟩ := open_agg2 Try.underlying26 (by kernel_rfl) cells26 (hval 0 26 v0 rfl rfl) h0
  obtain ⟨a0, ea0, _, wa0⟩ := DataW.trod_int Try.underlying23 hy0_0
  obtain ⟨a1, ea1, _, wa1⟩ := DataW.trod_int Try.underlying24 hy0_1
  obtain ⟨c1_0, c1_1, y1_0, y1_1, m1, rfl, _, _, hy1_0, hy1_1⟩ := open_agg2 Try.underlying26 (by kernel_rfl) cells26 (hval 1 26 v1 rfl rfl) h1
  obtain ⟨a2, ea2, _, wa2⟩ := DataW.trod_int Try.underlying23 hy1_0
  obtain ⟨a3, ea3, _, wa3⟩ := DataW.trod_int Try.underlying24 hy1_1
  obtain ⟨c2_0, c2_1, y2_0, y2_1, m2, rfl, _, _, hy2_0, hy2_1⟩ := open_agg2 Try.underlying26 (by kernel_rfl) cells26 (hval 2 26 v2 rfl rfl) h2
  obtain ⟨a4, ea4, _, wa4⟩ := DataW.trod_int Try.underlying23 hy2_0
  obtain ⟨a5, ea5, _, wa5⟩ := DataW.trod_int Try.underlying24 hy2_1
  simp only [List.cons.injEq, and_true] at ea0 ea1 ea2 ea3 ea4 ea5
  subst ea0 ea1 ea2 ea3 ea4 ea5
  clear wa0 wa1 wa2 wa3 wa4 wa5
  exact KO.law a0 a1 a2 a3 a4 a5 W

set_option maxRecDepth 100000 in
theorem lifted (os : Os) (started : os.Started) (H : Type) (enc : TypeId × Value → H) :
    ReturnsInHanded {} Try.checked os 5 .any (Rows.clashOrderSpec.pre6 enc Try.prog Try.f5 Rows.clashOrderRow.domain false) (Rows.clashOrderSpec.post enc Try.prog Try.f5 false true false false) :=
  Law.lifted (C := Try.checked) (F := 5) (tb := 4) own started (by kernel_rfl) Try.func5 rfl Try.underlying4 rfl
    (fun ds h => by match ds, h with | [_, _, _], _ => rfl)
    laidOut (by kernel_rfl)
    (ChangeSpec.witness6 (enc := enc) (C := Try.checked) false ⟨#[], #[.agg #[.int .u32 0, .int .u32 0], .agg #[.int .u32 0, .int .u32 0], .agg #[.int .u32 0, .int .u32 0]], []⟩ 8 (by kernel_rfl) (by kernel_rfl) (by kernel_rfl) (by kernel_rfl))
    (fun W base args ds p hval hA _ _ => law H enc W base args ds p hval hA)

theorem proved : Rows.ClashOrderSaid :=
  OpenClaim.holds_of_wide 5 Try.f5 rfl rfl rfl rfl rfl rfl rfl ⟨rfl, rfl, rfl, rfl, rfl⟩ rfl rfl rfl rfl rfl (by kernel_rfl) Try.func5 (by kernel_rfl)
    (of_decide_eq_true (by kernel_rfl)) (by unfold Func.isWrapper; first | (rw [if_pos (by decide +kernel)]; kernel_rfl) | (rw [if_neg (by decide +kernel)]; exact ⟨rfl, rfl⟩))
    (fun os started H enc _ => lifted os started H enc)
#print axioms proved
end Go.Proofs.Ytldfpoacjcjnjaa.rowClashOrder
