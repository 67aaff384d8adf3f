/- NetApart returns true at every input, and its arguments read as before. No condition. -/
import Derived.Test.YteoiaihjapddoaaZK
import Derived.Test.YteoiaihjapddoaaPL
namespace Go.Proofs.Yteoiaihjapddoaa.rowNetApart
open Go Go.Proofs Go.ChangeShapes Go.WideShapes Go.ChangeAt Go.RowKit Go.Proofs.Yteoiaihjapddoaa Go.Proofs.Yteoiaihjapddoaa.Sx
theorem own : ownKnob Try.prog.godebug = none := by kernel_rfl
theorem laidOut : laidOutB Try.prog = true := by kernel_rfl
theorem globs_ok (W : World) : GlobW W := fun g o h => by cases h
theorem law (H : Type) (enc : TypeId × Value → H) (W : World) (base : Nat) (args : Array Value) (ds : List (DataW H)) (p : List MemPlace)
    (hval : ∀ (j : Nat) t v, Try.f4.params[j]? = some t → args[j]? = some v → Value.okWide Try.prog W .any base t v)
    (hA : DataW.TrodAll enc Try.prog W 0 (fun _ => true) true Try.f4.params.toList args.toList ds p) (hW : GlobW W) : Calls Try.prog 4 args W (Law.Told W) :=
  law_of_F (S := F4.i) (deep := true) (ts := Try.f4.params.toList) F4.meets (by kernel_rfl) (by kernel_rfl) PL.apart (fun j t v h => hval j t v (by simpa using h)) hA hW
set_option maxRecDepth 100000 in
theorem lifted (os : Os) (started : os.Started) (H : Type) (enc : TypeId × Value → H) :
    ReturnsInHanded {} Try.checked os 4 .any (Rows.netApartSpec.pre6 enc Try.prog Try.f4 Rows.netApartRow.domain false) (Rows.netApartSpec.post enc Try.prog Try.f4 false true false false) :=
  Law.lifted (C := Try.checked) (F := 4) (tb := 4) own started (by kernel_rfl) Try.func4 rfl Try.underlying4 rfl
    (fun ds h => by match ds, h with | [_, _], _ => rfl)
    laidOut (by kernel_rfl)
    (ChangeSpec.witness6 (enc := enc) (C := Try.checked) false ⟨#[], #[.slice none 0 0, .int .u8 0], []⟩ 8 (by kernel_rfl) (by kernel_rfl) (by kernel_rfl) (by kernel_rfl))
    (fun W base args ds p hval hA _ _ => law H enc W base args ds p hval hA (globs_ok W))
theorem proved : Rows.NetApartSaid :=
  OpenClaim.holds_of_wide 4 Try.f4 rfl rfl rfl rfl rfl rfl rfl ⟨rfl, rfl, rfl, rfl, rfl⟩ rfl rfl rfl rfl rfl (by kernel_rfl) Try.func4 (by kernel_rfl)
    (of_decide_eq_true (by kernel_rfl)) (by unfold Func.isWrapper; first | (rw [if_pos (by decide +kernel)]; kernel_rfl) | (rw [if_neg (by decide +kernel)]; exact ⟨rfl, rfl⟩))
    (fun os started H enc _ => lifted os started H enc)
#print axioms proved
end Go.Proofs.Yteoiaihjapddoaa.rowNetApart
