/- ChooseOrder returns true at every input, and its arguments read as before. No condition. -/
import Derived.Test.YtaniibilgdhdiaaZK
import Derived.Test.YtaniibilgdhdiaaY1
namespace Go.Proofs.Ytaniibilgdhdiaa.rowChooseOrder
open Go Go.Proofs Go.ChangeShapes Go.WideShapes Go.ChangeAt Go.RowKit Go.Proofs.Ytaniibilgdhdiaa Go.Proofs.Ytaniibilgdhdiaa.Sx
theorem own : ownKnob Try.prog.godebug = none := by kernel_rfl
theorem laidOut : laidOutB Try.prog = true := by kernel_rfl
theorem globs_ok (W : World) : GlobW W := fun g o h => by cases h
theorem law (H : Type) (enc : TypeId × Value → H) (W : World) (base : Nat) (args : Array Value) (ds : List (DataW H)) (p : List MemPlace)
    (hval : ∀ (j : Nat) t v, Try.f5.params[j]? = some t → args[j]? = some v → Value.okWide Try.prog W .any base t v)
    (hA : DataW.TrodAll enc Try.prog W 0 (fun _ => true) true Try.f5.params.toList args.toList ds p) (hW : GlobW W) : Calls Try.prog 5 args W (Law.Told W) :=
  law_of_F (S := F5.i) (deep := true) (ts := Try.f5.params.toList) F5.meets (by kernel_rfl) (by kernel_rfl) PF.orders (fun j t v h => hval j t v (by simpa using h)) hA hW
set_option maxRecDepth 100000 in
theorem lifted (os : Os) (started : os.Started) (H : Type) (enc : TypeId × Value → H) :
    ReturnsInHanded {} Try.checked os 5 .any (Rows.chooseOrderSpec.pre6 enc Try.prog Try.f5 Rows.chooseOrderRow.domain false) (Rows.chooseOrderSpec.post enc Try.prog Try.f5 false true false false) :=
  Law.lifted (C := Try.checked) (F := 5) (tb := 4) own started (by kernel_rfl) Try.func5 rfl Try.underlying4 rfl
    (fun ds h => by match ds, h with | [_, _], _ => rfl)
    laidOut (by kernel_rfl)
    (ChangeSpec.witness6 (enc := enc) (C := Try.checked) false ⟨#[], #[.slice none 0 0, .slice none 0 0], []⟩ 8 (by kernel_rfl) (by kernel_rfl) (by kernel_rfl) (by kernel_rfl))
    (fun W base args ds p hval hA _ _ => law H enc W base args ds p hval hA (globs_ok W))
theorem proved : Rows.ChooseOrderSaid :=
  OpenClaim.holds_of_wide 5 Try.f5 rfl rfl rfl rfl rfl rfl rfl ⟨rfl, rfl, rfl, rfl, rfl⟩ rfl rfl rfl rfl rfl (by kernel_rfl) Try.func5 (by kernel_rfl)
    (of_decide_eq_true (by kernel_rfl)) (by unfold Func.isWrapper; first | (rw [if_pos (by decide +kernel)]; kernel_rfl) | (rw [if_neg (by decide +kernel)]; exact ⟨rfl, rfl⟩))
    (fun os started H enc _ => lifted os started H enc)
#print axioms proved
end Go.Proofs.Ytaniibilgdhdiaa.rowChooseOrder
