/- FrameKnown returns true. The row's package variables hold what the row lists; the card ties them to the text. -/
import Derived.Test.YtnmgbheaabdhlaaDoorZW
import Derived.Test.YtnmgbheaabdhlaaDoorChecked
import Derived.Test.YtnmgbheaabdhlaaDoorZM
import Derived.Test.YtnmgbheaabdhlaaDoorX3
import Derived.Test.YtnmgbheaabdhlaaDoorX2
import Derived.Test.YtnmgbheaabdhlaaDoorCards
import Derived.Test.YtnmgbheaabdhlaaDoorTie
import Derived.SevenTiedAt
namespace Go.Proofs.YtnmgbheaabdhlaaDoor.rowFrameKnown
open Go Go.Proofs Go.ChangeShapes Go.WideShapes Go.ChangeAt Go.RowKit Go.Proofs.YtnmgbheaabdhlaaDoor Go.Proofs.YtnmgbheaabdhlaaDoor.Sx
theorem own : ownKnob Tryd.prog.godebug = none := by kernel_rfl
theorem laidOut : laidOutB Tryd.prog = true := by kernel_rfl
theorem globs_ok {W : World} (h : laidMetH Tryd.prog Rows.frameKnownRow.laid W) : GlobW W := by
  rw [MakeChecks.laidMetH_plain _ _ _ (by kernel_rfl)] at h
  refine globW_of ?_
  exact List.forall_mem_cons.2 ⟨⟨cells_of_laid h (n := "consulate/frame.lengths") (d := Rows.laid_consulate_frame_lengths) (t := 76) (by simp [Rows.frameKnownRow]) (by kernel_rfl) (by kernel_rfl) (by kernel_rfl), fun h => h⟩, fun _ h => by cases h⟩
noncomputable def tab : List (FuncId × Sx.Spec) := [(16, specF ⟨F16.i, F16.o, F16.f⟩), (23, specF ⟨F23.i, F23.o, PL.c23⟩), (24, specF ⟨F24.i, F24.o, PL.c24⟩), (15, pureS saysS)]
theorem mixed : Tryd.prog.follows .mixedOrders = true := by kernel_rfl
theorem tabS : AllS Tryd.prog tab := ⟨F16.spec, specF_ok (by kernel_rfl) PL.meets23, specF_ok (by kernel_rfl) PL.meets24, says_ok (by kernel_rfl) KA.tells, trivial⟩
theorem law (H : Type) (enc : TypeId × Value → H) (W : World) (base : Nat) (args : Array Value) (ds : List (DataW H)) (p : List MemPlace)
    (hval : ∀ (j : Nat) t v, Tryd.f7.params[j]? = some t → args[j]? = some v → Value.okWide Tryd.prog W .any base t v)
    (hA : DataW.TrodAll enc Tryd.prog W 0 (fun _ => true) true Tryd.f7.params.toList args.toList ds p) (hW : GlobW W) : Calls Tryd.prog 7 args W (Law.Told W) := by
  have hA := hA
  rw [Tryd.params7] at hA
  obtain ⟨hargs, rfl, rfl⟩ := trodAll_nil hA
  obtain rfl : args = #[] := by cases args; simp_all
  exact Sx.closed_law (C := Sx.tabC Tryd.prog tab [] 200 20) (Sx.tabC_ok mixed tabS (show AllP Tryd.prog [] from trivial) 200 20) (by kernel_rfl) (by kernel_rfl) W hW
set_option maxRecDepth 100000 in
theorem lifted (os : Os) (started : os.Started) (H : Type) (enc : TypeId × Value → H) :
    ReturnsInHanded {} Tryd.checked os 7 .any (fun w args => (Rows.frameKnownSpec.pre enc Tryd.prog Tryd.f7 [] false w args ∧ laidMetH Tryd.prog Rows.frameKnownRow.laid w) ∧ sizedMet enc Tryd.prog Tryd.f7 (OpenSpec.ofChange Rows.frameKnownSpec) false w args) (Rows.frameKnownSpec.post enc Tryd.prog Tryd.f7 false true false false) :=
  lifted_laid (C := Tryd.checked) (F := 7) (tb := 4) own started (by kernel_rfl) Tryd.func7 rfl Tryd.underlying4 rfl
    (fun ds h => by match ds, h with | [], _ => rfl)
    laidOut (by kernel_rfl)
    (ChangeSpec.witness_shaped (enc := enc) (C := Tryd.checked) (os := os) (X := fun w _ => laidMetH Tryd.prog Rows.frameKnownRow.laid w) false (World.laidAll Tryd.prog os Rows.frameKnownRow.laid) #[] 8 (World.laidAll_os _ _ _)
      (World.shaped_of_ZipB (by kernel_rfl) (by kernel_rfl)) (by kernel_rfl) (by kernel_rfl) (by kernel_rfl)
      (by rw [MakeChecks.laidMetH_plain _ _ _ (by kernel_rfl)]; exact laidMet_laidAll _ (by kernel_rfl) (by kernel_rfl)))
    (fun W base args ds p hval hA hL => law H enc W base args ds p hval hA (globs_ok hL))
theorem proved : Rows.FrameKnownSaid :=
  OpenClaim.holds_of_wide 7 Tryd.f7 rfl rfl rfl rfl rfl rfl rfl ⟨rfl, rfl, rfl, rfl, rfl⟩ rfl rfl rfl rfl rfl (by kernel_rfl) Tryd.func7 (by kernel_rfl)
    (of_decide_eq_true (by kernel_rfl)) (by unfold Func.isWrapper; first | (rw [if_pos (by decide +kernel)]; kernel_rfl) | (rw [if_neg (by decide +kernel)]; exact ⟨rfl, rfl⟩))
    (fun os started H enc _ => lifted os started H enc)
#print axioms proved
theorem card : Rows.FrameKnownCardSaid :=
  Claim7.holds_tied_plain_at .later [] [.data] true (true, "5664ac3fd6ed4a538fe51796015234662b8d96b1e89e47068cdebeb5b5006bb5") false proved (fun _ h => by cases h) (by kernel_rfl) (fun _ h => by cases h) frameKnown_row_tie rfl ⟨rfl, rfl⟩ (by kernel_rfl) rfl
    (fun f fn hf hfn => by
      obtain rfl : f = 7 := Option.some.inj ((show Tryd.prog.funcNamed "consulate/consulatelaw03.FrameKnown" = some 7 by kernel_rfl).symm.trans hf) |>.symm
      obtain rfl : fn = Tryd.f7 := (Option.some.inj (Tryd.func7.symm.trans hfn)).symm
      exact ⟨by kernel_rfl, fun j t ht => by
        rw [Tryd.params7] at ht
        simp at ht⟩)
    (by kernel_rfl)
#print axioms card
end Go.Proofs.YtnmgbheaabdhlaaDoor.rowFrameKnown
