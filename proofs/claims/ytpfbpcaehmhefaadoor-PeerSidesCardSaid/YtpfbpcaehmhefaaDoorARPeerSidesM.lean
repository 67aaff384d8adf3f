/- PeerSides returns true at every input, and its arguments read as before. The row's package variables hold what the row lists; the card ties them to the text. -/
import Derived.Test.YtpfbpcaehmhefaaDoorAZW
import Derived.Test.YtpfbpcaehmhefaaDoorAY1
import Derived.Test.YtpfbpcaehmhefaaDoorCards
import Derived.Test.YtpfbpcaehmhefaaDoorTie
import Derived.SevenTiedAt
namespace Go.Proofs.YtpfbpcaehmhefaaDoor.rowPeerSides
open Go Go.Proofs Go.ChangeShapes Go.WideShapes Go.ChangeAt Go.RowKit Go.Proofs.YtpfbpcaehmhefaaDoor Go.Proofs.YtpfbpcaehmhefaaDoorA Go.Proofs.YtpfbpcaehmhefaaDoorA.Sx
theorem own : ownKnob Tryd.prog.godebug = none := by kernel_rfl
theorem laidOut : laidOutB Tryd.prog = true := by kernel_rfl
theorem globs_ok {W : World} (h : laidMetH Tryd.prog Rows.peerSidesRow.laid W) : GlobW W := by
  rw [MakeChecks.laidMetH_plain _ _ _ (by kernel_rfl)] at h
  refine globW_of ?_
  exact List.forall_mem_cons.2 ⟨⟨cells_of_laid h (n := "consulate/number.spans") (d := Rows.laid_consulate_number_spans) (t := 105) (by simp [Rows.peerSidesRow]) (by kernel_rfl) (by kernel_rfl) (by kernel_rfl), fun h => h⟩, List.forall_mem_cons.2 ⟨⟨cells_of_laid h (n := "consulate/caps.unicast") (d := Rows.laid_consulate_caps_unicast) (t := 101) (by simp [Rows.peerSidesRow]) (by kernel_rfl) (by kernel_rfl) (by kernel_rfl), fun h => h⟩, fun _ h => by cases h⟩⟩
set_option maxRecDepth 100000 in
theorem law (H : Type) (enc : TypeId × Value → H) (W : World) (base : Nat) (args : Array Value) (ds : List (DataW H)) (p : List MemPlace)
    (hval : ∀ (j : Nat) t v, Tryd.f5.params[j]? = some t → args[j]? = some v → Value.okWide Tryd.prog W .any base t v)
    (hA : DataW.TrodAll enc Tryd.prog W 0 (fun _ => true) true Tryd.f5.params.toList args.toList ds p) (hW : GlobW W) : Calls Tryd.prog 5 args W (Law.Told W) :=
  law_of_F (S := F5.i) (deep := true) (ts := Tryd.f5.params.toList) F5.meets (by kernel_rfl) (by kernel_rfl) PA.sides (fun j t v h => hval j t v (by simpa using h)) hA hW
set_option maxRecDepth 100000 in
theorem lifted (os : Os) (started : os.Started) (H : Type) (enc : TypeId × Value → H) :
    ReturnsInHanded {} Tryd.checked os 5 .any (fun w args => (Rows.peerSidesSpec.pre enc Tryd.prog Tryd.f5 [] false w args ∧ laidMetH Tryd.prog Rows.peerSidesRow.laid w) ∧ sizedMet enc Tryd.prog Tryd.f5 (OpenSpec.ofChange Rows.peerSidesSpec) false w args) (Rows.peerSidesSpec.post enc Tryd.prog Tryd.f5 false true false false) :=
  lifted_laid (C := Tryd.checked) (F := 5) (tb := 4) own started (by kernel_rfl) Tryd.func5 rfl Tryd.underlying4 rfl
    (fun ds h => by match ds, h with | [_, _, _], _ => rfl)
    laidOut (by kernel_rfl)
    (ChangeSpec.witness_shaped (enc := enc) (C := Tryd.checked) (os := os) (X := fun w _ => laidMetH Tryd.prog Rows.peerSidesRow.laid w) false (World.laidAll Tryd.prog os Rows.peerSidesRow.laid) #[.agg #[.int .u8 0, .int .u8 0], .agg #[.int .u16 0, .int .u16 0], .bool false] 8 (World.laidAll_os _ _ _)
      (World.shaped_of_ZipB (by kernel_rfl) (by kernel_rfl)) (by kernel_rfl) (by kernel_rfl) (by kernel_rfl)
      (by rw [MakeChecks.laidMetH_plain _ _ _ (by kernel_rfl)]; exact laidMet_laidAll _ (by kernel_rfl) (by kernel_rfl)))
    (fun W base args ds p hval hA hL => law H enc W base args ds p hval hA (globs_ok hL))
theorem proved : Rows.PeerSidesSaid :=
  OpenClaim.holds_of_wide 5 Tryd.f5 rfl rfl rfl rfl rfl rfl rfl ⟨rfl, rfl, rfl, rfl, rfl⟩ rfl rfl rfl rfl rfl (by kernel_rfl) Tryd.func5 (by kernel_rfl)
    (of_decide_eq_true (by kernel_rfl)) (by unfold Func.isWrapper; first | (rw [if_pos (by decide +kernel)]; kernel_rfl) | (rw [if_neg (by decide +kernel)]; exact ⟨rfl, rfl⟩))
    (fun os started H enc _ => lifted os started H enc)
#print axioms proved
theorem card : Rows.PeerSidesCardSaid :=
  Claim7.holds_tied_plain_at .later [] [.widerDeep, .data] true (true, "b83fd7563bfa8423f0879bb700bdb4c0214a10fc3119feaf1d51b0987304c72b") false proved (fun _ h => by cases h) (by kernel_rfl) (fun _ h => by cases h) peerSides_row_tie rfl ⟨rfl, rfl⟩ (by kernel_rfl) rfl
    (fun f fn hf hfn => by
      obtain rfl : f = 5 := Option.some.inj ((show Tryd.prog.funcNamed "consulate/consulatelaw15.PeerSides" = some 5 by kernel_rfl).symm.trans hf) |>.symm
      obtain rfl : fn = Tryd.f5 := (Option.some.inj (Tryd.func5.symm.trans hfn)).symm
      exact ⟨by kernel_rfl, fun j t ht => by
        rw [Tryd.params5] at ht
        have hm : t ∈ [53, 54, 4] := by simpa using Array.mem_of_getElem? ht
        have hall : ([53, 54, 4].all fun u => !Tryd.prog.wantsStandIn u) = true := by kernel_rfl
        exact (show Tryd.prog.wantsStandIn t = false by simpa using List.all_eq_true.1 hall t hm)⟩)
    (by kernel_rfl)
#print axioms card
end Go.Proofs.YtpfbpcaehmhefaaDoor.rowPeerSides
