/- PeerKnown returns true. The row's package variables hold what the row lists; the card ties them to the text. -/
import Derived.Test.YtpfbpcaehmhefaaDoorZW
import Derived.Test.YtpfbpcaehmhefaaDoorChecked
import Derived.Test.YtpfbpcaehmhefaaDoorZM
import Derived.Test.YtpfbpcaehmhefaaDoorF28
import Derived.Test.YtpfbpcaehmhefaaDoorF30
import Derived.Test.YtpfbpcaehmhefaaDoorF50
import Derived.Test.YtpfbpcaehmhefaaDoorKA
import Derived.Test.YtpfbpcaehmhefaaDoorCards
import Derived.Test.YtpfbpcaehmhefaaDoorTie
import Derived.SevenTiedAt
namespace Go.Proofs.YtpfbpcaehmhefaaDoor.rowPeerKnown
open Go Go.Proofs Go.ChangeShapes Go.WideShapes Go.ChangeAt Go.RowKit Go.Proofs.YtpfbpcaehmhefaaDoor Go.Proofs.YtpfbpcaehmhefaaDoor.Sx
theorem own : ownKnob Tryd.prog.godebug = none := by kernel_rfl
theorem laidOut : laidOutB Tryd.prog = true := by kernel_rfl
theorem globs_ok {W : World} (h : laidMetH Tryd.prog Rows.peerKnownRow.laid W) : GlobW W := by
  rw [MakeChecks.laidMetH_plain _ _ _ (by kernel_rfl)] at h
  refine globW_of ?_
  exact List.forall_mem_cons.2 ⟨⟨cells_of_laid h (n := "consulate/caps.unicast") (d := Rows.laid_consulate_caps_unicast) (t := 101) (by simp [Rows.peerKnownRow]) (by kernel_rfl) (by kernel_rfl) (by kernel_rfl), fun h => h⟩, List.forall_mem_cons.2 ⟨⟨cells_of_laid h (n := "consulate/number.spans") (d := Rows.laid_consulate_number_spans) (t := 105) (by simp [Rows.peerKnownRow]) (by kernel_rfl) (by kernel_rfl) (by kernel_rfl), fun h => h⟩, List.forall_mem_cons.2 ⟨⟨cells_of_laid h (n := "consulate/peer.texts") (d := Rows.laid_consulate_peer_texts) (t := 90) (by simp [Rows.peerKnownRow]) (by kernel_rfl) (by kernel_rfl) (by kernel_rfl), fun h => h⟩, fun _ h => by cases h⟩⟩⟩
noncomputable def tab : List (FuncId × Sx.Spec) := [(28, specF ⟨F28.i, F28.o, F28.f⟩), (30, specF ⟨F30.i, F30.o, F30.f⟩), (50, specF ⟨F50.i, F50.o, F50.f⟩), (58, specF ⟨F58.i, F58.o, F58.f⟩), (10, pureS saysS)]
theorem mixed : Tryd.prog.follows .mixedOrders = true := by kernel_rfl
theorem tabS : AllS Tryd.prog tab := ⟨F28.spec, F30.spec, F50.spec, F58.spec, says_ok (by kernel_rfl) KA.tells, trivial⟩
theorem law (H : Type) (enc : TypeId × Value → H) (W : World) (base : Nat) (args : Array Value) (ds : List (DataW H)) (p : List MemPlace)
    (hval : ∀ (j : Nat) t v, Tryd.f4.params[j]? = some t → args[j]? = some v → Value.okWide Tryd.prog W .any base t v)
    (hA : DataW.TrodAll enc Tryd.prog W 0 (fun _ => true) true Tryd.f4.params.toList args.toList ds p) (hW : GlobW W) : Calls Tryd.prog 4 args W (Law.Told W) := by
  have hA := hA
  rw [Tryd.params4] at hA
  obtain ⟨hargs, rfl, rfl⟩ := trodAll_nil hA
  obtain rfl : args = #[] := by cases args; simp_all
  exact Sx.closed_law (C := Sx.tabC Tryd.prog tab [] 200 20) (Sx.tabC_ok mixed tabS (show AllP Tryd.prog [] from trivial) 200 20) (by kernel_rfl) (by kernel_rfl) W hW
set_option maxRecDepth 100000 in
theorem lifted (os : Os) (started : os.Started) (H : Type) (enc : TypeId × Value → H) :
    ReturnsInHanded {} Tryd.checked os 4 .any (fun w args => (Rows.peerKnownSpec.pre enc Tryd.prog Tryd.f4 [] false w args ∧ laidMetH Tryd.prog Rows.peerKnownRow.laid w) ∧ sizedMet enc Tryd.prog Tryd.f4 (OpenSpec.ofChange Rows.peerKnownSpec) false w args) (Rows.peerKnownSpec.post enc Tryd.prog Tryd.f4 false true false false) :=
  lifted_laid (C := Tryd.checked) (F := 4) (tb := 4) own started (by kernel_rfl) Tryd.func4 rfl Tryd.underlying4 rfl
    (fun ds h => by match ds, h with | [], _ => rfl)
    laidOut (by kernel_rfl)
    (ChangeSpec.witness_shaped (enc := enc) (C := Tryd.checked) (os := os) (X := fun w _ => laidMetH Tryd.prog Rows.peerKnownRow.laid w) false (World.laidAll Tryd.prog os Rows.peerKnownRow.laid) #[] 8 (World.laidAll_os _ _ _)
      (World.shaped_of_ZipB (by kernel_rfl) (by kernel_rfl)) (by kernel_rfl) (by kernel_rfl) (by kernel_rfl)
      (by rw [MakeChecks.laidMetH_plain _ _ _ (by kernel_rfl)]; exact laidMet_laidAll _ (by kernel_rfl) (by kernel_rfl)))
    (fun W base args ds p hval hA hL => law H enc W base args ds p hval hA (globs_ok hL))
theorem proved : Rows.PeerKnownSaid :=
  OpenClaim.holds_of_wide 4 Tryd.f4 rfl rfl rfl rfl rfl rfl rfl ⟨rfl, rfl, rfl, rfl, rfl⟩ rfl rfl rfl rfl rfl (by kernel_rfl) Tryd.func4 (by kernel_rfl)
    (of_decide_eq_true (by kernel_rfl)) (by unfold Func.isWrapper; first | (rw [if_pos (by decide +kernel)]; kernel_rfl) | (rw [if_neg (by decide +kernel)]; exact ⟨rfl, rfl⟩))
    (fun os started H enc _ => lifted os started H enc)
#print axioms proved
theorem card : Rows.PeerKnownCardSaid :=
  Claim7.holds_tied_plain_at .later [] [.widerDeep, .data, .data] true (true, "b83fd7563bfa8423f0879bb700bdb4c0214a10fc3119feaf1d51b0987304c72b") false proved (fun _ h => by cases h) (by kernel_rfl) (fun _ h => by cases h) peerKnown_row_tie rfl ⟨rfl, rfl⟩ (by kernel_rfl) rfl
    (fun f fn hf hfn => by
      obtain rfl : f = 4 := Option.some.inj ((show Tryd.prog.funcNamed "consulate/consulatelaw15.PeerKnown" = some 4 by kernel_rfl).symm.trans hf) |>.symm
      obtain rfl : fn = Tryd.f4 := (Option.some.inj (Tryd.func4.symm.trans hfn)).symm
      exact ⟨by kernel_rfl, fun j t ht => by
        rw [Tryd.params4] at ht
        simp at ht⟩)
    (by kernel_rfl)
#print axioms card
end Go.Proofs.YtpfbpcaehmhefaaDoor.rowPeerKnown
