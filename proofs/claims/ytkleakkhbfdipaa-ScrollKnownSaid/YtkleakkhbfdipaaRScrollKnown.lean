/- ScrollKnown returns true. No condition. -/
import Derived.Test.YtkleakkhbfdipaaZK
import Derived.Test.YtkleakkhbfdipaaChecked
import Derived.Test.YtkleakkhbfdipaaZM
import Derived.Test.YtkleakkhbfdipaaKA
import Derived.Test.YtkleakkhbfdipaaPH
namespace Go.Proofs.Ytkleakkhbfdipaa.rowScrollKnown
open Go Go.Proofs Go.ChangeShapes Go.WideShapes Go.ChangeAt Go.RowKit Go.Proofs.Ytkleakkhbfdipaa Go.Proofs.Ytkleakkhbfdipaa.Sx
theorem own : ownKnob Try.prog.godebug = none := by kernel_rfl
theorem laidOut : laidOutB Try.prog = true := by kernel_rfl
theorem globs_ok (W : World) : GlobW W := fun g o h => by cases h
def tab : List (FuncId × Sx.Spec) := [(21, pureS saysS)]
theorem tabS : AllS Try.prog tab := ⟨says_ok (by kernel_rfl) KA.tells, trivial⟩
theorem mixed : Try.prog.follows .mixedOrders = true := by kernel_rfl
theorem law (H : Type) (enc : TypeId × Value → H) (W : World) (base : Nat) (args : Array Value) (ds : List (DataW H)) (p : List MemPlace)
    (hval : ∀ (j : Nat) t v, Try.f7.params[j]? = some t → args[j]? = some v → Value.okWide Try.prog W .any base t v)
    (hA : DataW.TrodAll enc Try.prog W 0 (fun _ => true) true Try.f7.params.toList args.toList ds p) (hW : GlobW W) : Calls Try.prog 7 args W (Law.Told W) := by
  have hA := hA
  rw [Try.params7] at hA
  obtain ⟨hargs, rfl, rfl⟩ := trodAll_nil hA
  obtain rfl : args = #[] := by cases args; simp_all
  exact Sx.closed_law (C := Sx.tabC Try.prog tab [(7, PH.plan)] 200 14) (Sx.tabC_ok mixed tabS (show AllP Try.prog [(7, PH.plan)] from ⟨PH.planOk, trivial⟩) 200 14) (by kernel_rfl) (by kernel_rfl) W hW
set_option maxRecDepth 100000 in
theorem lifted (os : Os) (started : os.Started) (H : Type) (enc : TypeId × Value → H) :
    ReturnsInHanded {} Try.checked os 7 .any (Rows.scrollKnownSpec.pre6 enc Try.prog Try.f7 Rows.scrollKnownRow.domain false) (Rows.scrollKnownSpec.post enc Try.prog Try.f7 false true false false) :=
  Law.lifted (C := Try.checked) (F := 7) (tb := 4) own started (by kernel_rfl) Try.func7 rfl Try.underlying4 rfl
    (fun ds h => by match ds, h with | [], _ => rfl)
    laidOut (by kernel_rfl)
    (ChangeSpec.witness6 (enc := enc) (C := Try.checked) false ⟨#[], #[], []⟩ 8 (by kernel_rfl) (by kernel_rfl) (by kernel_rfl) (by kernel_rfl))
    (fun W base args ds p hval hA _ _ => law H enc W base args ds p hval hA (globs_ok W))
theorem proved : Rows.ScrollKnownSaid :=
  OpenClaim.holds_of_wide 7 Try.f7 rfl rfl rfl rfl rfl rfl rfl ⟨rfl, rfl, rfl, rfl, rfl⟩ rfl rfl rfl rfl rfl (by kernel_rfl) Try.func7 (by kernel_rfl)
    (of_decide_eq_true (by kernel_rfl)) (by unfold Func.isWrapper; first | (rw [if_pos (by decide +kernel)]; kernel_rfl) | (rw [if_neg (by decide +kernel)]; exact ⟨rfl, rfl⟩))
    (fun os started H enc _ => lifted os started H enc)
#print axioms proved
end Go.Proofs.Ytkleakkhbfdipaa.rowScrollKnown
