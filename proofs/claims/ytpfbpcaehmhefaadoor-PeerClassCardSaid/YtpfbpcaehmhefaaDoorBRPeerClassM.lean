/- PeerClass returns true at every input, and its arguments read as before. The row's package variables hold what the row lists; the card ties them to the text. -/
import Derived.Test.YtpfbpcaehmhefaaDoorBZW
import Derived.Test.YtpfbpcaehmhefaaDoorBY1
import Derived.Test.YtpfbpcaehmhefaaDoorCards
import Derived.Test.YtpfbpcaehmhefaaDoorTie
import Derived.SevenTiedAt
namespace Go.Proofs.YtpfbpcaehmhefaaDoor.rowPeerClass
open Go Go.Proofs Go.ChangeShapes Go.WideShapes Go.ChangeAt Go.RowKit Go.Proofs.YtpfbpcaehmhefaaDoor Go.Proofs.YtpfbpcaehmhefaaDoorB Go.Proofs.YtpfbpcaehmhefaaDoorB.Sx
theorem own : ownKnob Tryd.prog.godebug = none := by kernel_rfl
theorem laidOut : laidOutB Tryd.prog = true := by kernel_rfl
theorem globs_ok {W : World} (h : laidMetH Tryd.prog Rows.peerClassRow.laid W) : GlobW W := by
  rw [MakeChecks.laidMetH_plain _ _ _ (by kernel_rfl)] at h
  refine globW_of ?_
  exact List.forall_mem_cons.2 ⟨⟨cells_of_laid h (n := "consulate/number.spans") (d := Rows.laid_consulate_number_spans) (t := 105) (by simp [Rows.peerClassRow]) (by kernel_rfl) (by kernel_rfl) (by kernel_rfl), fun h => h⟩, fun _ h => by cases h⟩
set_option maxRecDepth 100000 in
theorem law (H : Type) (enc : TypeId × Value → H) (W : World) (base : Nat) (args : Array Value) (ds : List (DataW H)) (p : List MemPlace)
    (hval : ∀ (j : Nat) t v, Tryd.f6.params[j]? = some t → args[j]? = some v → Value.okWide Tryd.prog W .any base t v)
    (hA : DataW.TrodAll enc Tryd.prog W 0 (fun _ => true) true Tryd.f6.params.toList args.toList ds p) (hW : GlobW W) : Calls Tryd.prog 6 args W (Law.Told W) :=
  law_of_F (S := F6.i) (deep := true) (ts := Tryd.f6.params.toList) F6.meets (by kernel_rfl) (by kernel_rfl) PL.one (fun j t v h => hval j t v (by simpa using h)) hA hW
set_option maxRecDepth 100000 in
theorem lifted (os : Os) (started : os.Started) (H : Type) (enc : TypeId × Value → H) :
    ReturnsInHanded {} Tryd.checked os 6 .any (fun w args => (Rows.peerClassSpec.pre enc Tryd.prog Tryd.f6 [] false w args ∧ laidMetH Tryd.prog Rows.peerClassRow.laid w) ∧ sizedMet enc Tryd.prog Tryd.f6 (OpenSpec.ofChange Rows.peerClassSpec) false w args) (Rows.peerClassSpec.post enc Tryd.prog Tryd.f6 false true false false) :=
  lifted_laid (C := Tryd.checked) (F := 6) (tb := 4) own started (by kernel_rfl) Tryd.func6 rfl Tryd.underlying4 rfl
    (fun ds h => by match ds, h with | [_, _], _ => rfl)
    laidOut (by kernel_rfl)
    (ChangeSpec.witness_shaped (enc := enc) (C := Tryd.checked) (os := os) (X := fun w _ => laidMetH Tryd.prog Rows.peerClassRow.laid w) false (World.laidAll Tryd.prog os Rows.peerClassRow.laid) #[.agg #[.int .u8 0, .int .u8 0, .int .u8 0], .int .u32 0] 8 (World.laidAll_os _ _ _)
      (World.shaped_of_ZipB (by kernel_rfl) (by kernel_rfl)) (by kernel_rfl) (by kernel_rfl) (by kernel_rfl)
      (by rw [MakeChecks.laidMetH_plain _ _ _ (by kernel_rfl)]; exact laidMet_laidAll _ (by kernel_rfl) (by kernel_rfl)))
    (fun W base args ds p hval hA hL => law H enc W base args ds p hval hA (globs_ok hL))
theorem proved : Rows.PeerClassSaid :=
  OpenClaim.holds_of_wide 6 Tryd.f6 rfl rfl rfl rfl rfl rfl rfl ⟨rfl, rfl, rfl, rfl, rfl⟩ rfl rfl rfl rfl rfl (by kernel_rfl) Tryd.func6 (by kernel_rfl)
    (of_decide_eq_true (by kernel_rfl)) (by unfold Func.isWrapper; first | (rw [if_pos (by decide +kernel)]; kernel_rfl) | (rw [if_neg (by decide +kernel)]; exact ⟨rfl, rfl⟩))
    (fun os started H enc _ => lifted os started H enc)
#print axioms proved
theorem card : Rows.PeerClassCardSaid :=
  Claim7.holds_tied_plain_at .later [] [.data] true (true, "b83fd7563bfa8423f0879bb700bdb4c0214a10fc3119feaf1d51b0987304c72b") false proved (fun _ h => by cases h) (by kernel_rfl) (fun _ h => by cases h) peerClass_row_tie rfl ⟨rfl, rfl⟩ (by kernel_rfl) rfl
    (fun f fn hf hfn => by
      obtain rfl : f = 6 := Option.some.inj ((show Tryd.prog.funcNamed "consulate/consulatelaw15.PeerClass" = some 6 by kernel_rfl).symm.trans hf) |>.symm
      obtain rfl : fn = Tryd.f6 := (Option.some.inj (Tryd.func6.symm.trans hfn)).symm
      exact ⟨by kernel_rfl, fun j t ht => by
        rw [Tryd.params6] at ht
        have hm : t ∈ [58, 32] := by simpa using Array.mem_of_getElem? ht
        have hall : ([58, 32].all fun u => !Tryd.prog.wantsStandIn u) = true := by kernel_rfl
        exact (show Tryd.prog.wantsStandIn t = false by simpa using List.all_eq_true.1 hall t hm)⟩)
    (by kernel_rfl)
#print axioms card
end Go.Proofs.YtpfbpcaehmhefaaDoor.rowPeerClass
