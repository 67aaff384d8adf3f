/- FrameEnds returns true at every input, and its arguments read as before. The row's package variables hold what the row lists; the card ties them to the text. -/
import Derived.Test.YtnmgbheaabdhlaaDoorZW
import Derived.Test.YtnmgbheaabdhlaaDoorX2
import Derived.Test.YtnmgbheaabdhlaaDoorCards
import Derived.Test.YtnmgbheaabdhlaaDoorTie
import Derived.SevenTiedAt
namespace Go.Proofs.YtnmgbheaabdhlaaDoor.rowFrameEnds
open Go Go.Proofs Go.ChangeShapes Go.WideShapes Go.ChangeAt Go.RowKit Go.Proofs.YtnmgbheaabdhlaaDoor Go.Proofs.YtnmgbheaabdhlaaDoor.Sx
theorem own : ownKnob Tryd.prog.godebug = none := by kernel_rfl
theorem laidOut : laidOutB Tryd.prog = true := by kernel_rfl
theorem globs_ok {W : World} (h : laidMetH Tryd.prog Rows.frameEndsRow.laid W) : GlobW W := by
  rw [MakeChecks.laidMetH_plain _ _ _ (by kernel_rfl)] at h
  refine globW_of ?_
  exact List.forall_mem_cons.2 ⟨⟨cells_of_laid h (n := "consulate/frame.lengths") (d := Rows.laid_consulate_frame_lengths) (t := 76) (by simp [Rows.frameEndsRow]) (by kernel_rfl) (by kernel_rfl) (by kernel_rfl), fun h => h⟩, fun _ h => by cases h⟩
theorem law (H : Type) (enc : TypeId × Value → H) (W : World) (base : Nat) (args : Array Value) (ds : List (DataW H)) (p : List MemPlace)
    (hval : ∀ (j : Nat) t v, Tryd.f4.params[j]? = some t → args[j]? = some v → Value.okWide Tryd.prog W .any base t v)
    (hA : DataW.TrodAll enc Tryd.prog W 0 (fun _ => true) true Tryd.f4.params.toList args.toList ds p) (hW : GlobW W) : Calls Tryd.prog 4 args W (Law.Told W) :=
  law_of_F (S := F4.i) (deep := true) (ts := Tryd.f4.params.toList) F4.meets (by kernel_rfl) (by kernel_rfl) PM.ends (fun j t v h => hval j t v (by simpa using h)) hA hW
set_option maxRecDepth 100000 in
theorem lifted (os : Os) (started : os.Started) (H : Type) (enc : TypeId × Value → H) :
    ReturnsInHanded {} Tryd.checked os 4 .any (fun w args => (Rows.frameEndsSpec.pre enc Tryd.prog Tryd.f4 [] false w args ∧ laidMetH Tryd.prog Rows.frameEndsRow.laid w) ∧ sizedMet enc Tryd.prog Tryd.f4 (OpenSpec.ofChange Rows.frameEndsSpec) false w args) (Rows.frameEndsSpec.post enc Tryd.prog Tryd.f4 false true false false) :=
  lifted_laid (C := Tryd.checked) (F := 4) (tb := 4) own started (by kernel_rfl) Tryd.func4 rfl Tryd.underlying4 rfl
    (fun ds h => by match ds, h with | [_, _], _ => rfl)
    laidOut (by kernel_rfl)
    (ChangeSpec.witness_shaped (enc := enc) (C := Tryd.checked) (os := os) (X := fun w _ => laidMetH Tryd.prog Rows.frameEndsRow.laid w) false (World.laidAll Tryd.prog os Rows.frameEndsRow.laid) #[.agg #[.int .u8 0, .int .u8 0, .int .u8 0, .int .u8 0, .int .u8 0, .int .u8 0, .int .u8 0, .int .u8 0, .int .u8 0, .int .u8 0, .int .u8 0, .int .u8 0, .int .u8 0, .int .u8 0, .int .u8 0, .int .u8 0, .int .u8 0, .int .u8 0, .int .u8 0], .slice none 0 0] 8 (World.laidAll_os _ _ _)
      (World.shaped_of_ZipB (by kernel_rfl) (by kernel_rfl)) (by kernel_rfl) (by kernel_rfl) (by kernel_rfl)
      (by rw [MakeChecks.laidMetH_plain _ _ _ (by kernel_rfl)]; exact laidMet_laidAll _ (by kernel_rfl) (by kernel_rfl)))
    (fun W base args ds p hval hA hL => law H enc W base args ds p hval hA (globs_ok hL))
theorem proved : Rows.FrameEndsSaid :=
  OpenClaim.holds_of_wide 4 Tryd.f4 rfl rfl rfl rfl rfl rfl rfl ⟨rfl, rfl, rfl, rfl, rfl⟩ rfl rfl rfl rfl rfl (by kernel_rfl) Tryd.func4 (by kernel_rfl)
    (of_decide_eq_true (by kernel_rfl)) (by unfold Func.isWrapper; first | (rw [if_pos (by decide +kernel)]; kernel_rfl) | (rw [if_neg (by decide +kernel)]; exact ⟨rfl, rfl⟩))
    (fun os started H enc _ => lifted os started H enc)
#print axioms proved
theorem card : Rows.FrameEndsCardSaid :=
  Claim7.holds_tied_plain_at .later [] [.data] true (true, "5664ac3fd6ed4a538fe51796015234662b8d96b1e89e47068cdebeb5b5006bb5") false proved (fun _ h => by cases h) (by kernel_rfl) (fun _ h => by cases h) frameEnds_row_tie rfl ⟨rfl, rfl⟩ (by kernel_rfl) rfl
    (fun f fn hf hfn => by
      obtain rfl : f = 4 := Option.some.inj ((show Tryd.prog.funcNamed "consulate/consulatelaw03.FrameEnds" = some 4 by kernel_rfl).symm.trans hf) |>.symm
      obtain rfl : fn = Tryd.f4 := (Option.some.inj (Tryd.func4.symm.trans hfn)).symm
      exact ⟨by kernel_rfl, fun j t ht => by
        rw [Tryd.params4] at ht
        have hm : t ∈ [38, 22] := by simpa using Array.mem_of_getElem? ht
        have hall : ([38, 22].all fun u => !Tryd.prog.wantsStandIn u) = true := by kernel_rfl
        exact (show Tryd.prog.wantsStandIn t = false by simpa using List.all_eq_true.1 hall t hm)⟩)
    (by kernel_rfl)
#print axioms card
end Go.Proofs.YtnmgbheaabdhlaaDoor.rowFrameEnds
