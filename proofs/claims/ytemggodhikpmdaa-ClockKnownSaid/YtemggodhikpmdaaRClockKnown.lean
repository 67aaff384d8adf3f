/- ClockKnown returns true. No condition. -/
import Derived.Test.YtemggodhikpmdaaLaw
import Derived.Test.YtemggodhikpmdaaCClockKnown
import Derived.Lib.SmallJoins
namespace Go.Proofs.Ytemggodhikpmdaa.rowClockKnown
open Go.ChangeShapes Go.WideShapes Go.ChangeAt Go.RowKit Go.Joins
theorem own : ownKnob Try.prog.godebug = none := by kernel_rfl
theorem laidOut : laidOutB Try.prog = true := by kernel_rfl

theorem law (H : Type) (enc : TypeId × Value → H) (W : World) (base : Nat) (args : Array Value) (ds : List (DataW H)) (p : List MemPlace)
    (hval0 : ∀ (j : Nat) t v, Try.f8.params[j]? = some t → args[j]? = some v → Value.okWide Try.prog W .any base t v)
    (hA0 : DataW.TrodAll enc Try.prog W 0 (fun _ => true) true Try.f8.params.toList args.toList ds p) : Calls Try.prog 8 args W (Law.Told W) := by
  have hval := hval0
  have hA := hA0
  rw [Try.params8] at hA hval
  obtain ⟨hargs, rfl, rfl⟩ := trodAll_nil hA
  obtain rfl : args = #[] := by cases args; simp_all
  exact CClockKnown.closed  W

set_option maxRecDepth 100000 in
theorem lifted (os : Os) (started : os.Started) (H : Type) (enc : TypeId × Value → H) :
    ReturnsInHanded {} Try.checked os 8 .any (Rows.clockKnownSpec.pre6 enc Try.prog Try.f8 Rows.clockKnownRow.domain false) (Rows.clockKnownSpec.post enc Try.prog Try.f8 false true false false) :=
  Law.lifted (C := Try.checked) (F := 8) (tb := 4) own started (by kernel_rfl) Try.func8 rfl Try.underlying4 rfl
    (fun ds h => by match ds, h with | [], _ => rfl)
    laidOut (by kernel_rfl)
    (ChangeSpec.witness6 (enc := enc) (C := Try.checked) false ⟨#[], #[], []⟩ 8 (by kernel_rfl) (by kernel_rfl) (by kernel_rfl) (by kernel_rfl))
    (fun W base args ds p hval hA _ _ => law H enc W base args ds p hval hA)

theorem proved : Rows.ClockKnownSaid :=
  OpenClaim.holds_of_wide 8 Try.f8 rfl rfl rfl rfl rfl rfl rfl ⟨rfl, rfl, rfl, rfl, rfl⟩ rfl rfl rfl rfl rfl (by kernel_rfl) Try.func8 (by kernel_rfl)
    (of_decide_eq_true (by kernel_rfl)) (by unfold Func.isWrapper; first | (rw [if_pos (by decide +kernel)]; kernel_rfl) | (rw [if_neg (by decide +kernel)]; exact ⟨rfl, rfl⟩))
    (fun os started H enc _ => lifted os started H enc)
#print axioms proved
end Go.Proofs.Ytemggodhikpmdaa.rowClockKnown
