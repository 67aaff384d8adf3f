/- SessionEnds returns true at every input, and its arguments read as before. The row's package variables hold what the row lists; the card ties them to the text. -/
import Derived.Test.YtendadfdbmoadaaDoorZW
import Derived.Test.YtendadfdbmoadaaDoorPI
import Derived.Test.YtendadfdbmoadaaDoorCards
import Derived.Test.YtendadfdbmoadaaDoorTie
import Derived.SevenTiedAt
namespace Go.Proofs.YtendadfdbmoadaaDoor.rowSessionEnds
open Go Go.Proofs Go.ChangeShapes Go.WideShapes Go.ChangeAt Go.RowKit Go.Proofs.YtendadfdbmoadaaDoor Go.Proofs.YtendadfdbmoadaaDoor.Sx
theorem own : ownKnob Tryd.prog.godebug = none := by kernel_rfl
theorem laidOut : laidOutB Tryd.prog = true := by kernel_rfl
theorem globs_ok {W : World} (h : laidMetH Tryd.prog Rows.sessionEndsRow.laid W) : GlobW W := by
  refine globW_of ?_
  exact List.forall_mem_cons.2 ⟨globAt_funcs (h.funcs (n := "consulate/session.states") (by simp [Rows.sessionEndsRow]; rfl)) (t := 60) (k := 3) (e := 59) (by kernel_rfl) (by kernel_rfl) Tryd.underlying60 Tryd.underlying3 Tryd.underlying59 (L := [(1, [40, 99, 111, 110, 115, 117, 108, 97, 116, 101, 47, 115, 101, 115, 115, 105, 111, 110, 46, 77, 97, 99, 104, 105, 110, 101, 41, 46, 105, 100, 108, 101], 44), (2, [40, 99, 111, 110, 115, 117, 108, 97, 116, 101, 47, 115, 101, 115, 115, 105, 111, 110, 46, 77, 97, 99, 104, 105, 110, 101, 41, 46, 119, 97, 105, 116, 115], 45), (3, [40, 99, 111, 110, 115, 117, 108, 97, 116, 101, 47, 115, 101, 115, 115, 105, 111, 110, 46, 77, 97, 99, 104, 105, 110, 101, 41, 46, 119, 97, 105, 116, 115], 45), (4, [40, 99, 111, 110, 115, 117, 108, 97, 116, 101, 47, 115, 101, 115, 115, 105, 111, 110, 46, 77, 97, 99, 104, 105, 110, 101, 41, 46, 111, 112, 101, 110, 115], 46), (5, [40, 99, 111, 110, 115, 117, 108, 97, 116, 101, 47, 115, 101, 115, 115, 105, 111, 110, 46, 77, 97, 99, 104, 105, 110, 101, 41, 46, 99, 111, 110, 102, 105, 114, 109, 115], 47), (6, [40, 99, 111, 110, 115, 117, 108, 97, 116, 101, 47, 115, 101, 115, 115, 105, 111, 110, 46, 77, 97, 99, 104, 105, 110, 101, 41, 46, 101, 115, 116, 97, 98, 108, 105, 115, 104, 101, 100], 48)]) (by rfl) (by kernel_rfl), fun _ h => by cases h⟩
theorem law (H : Type) (enc : TypeId × Value → H) (W : World) (base : Nat) (args : Array Value) (ds : List (DataW H)) (p : List MemPlace)
    (hval : ∀ (j : Nat) t v, Tryd.f6.params[j]? = some t → args[j]? = some v → Value.okWide Tryd.prog W .any base t v)
    (hA : DataW.TrodAll enc Tryd.prog W 0 (fun _ => true) true Tryd.f6.params.toList args.toList ds p) (hW : GlobW W) : Calls Tryd.prog 6 args W (Law.Told W) :=
  law_of_F (S := F6.i) (deep := true) (ts := Tryd.f6.params.toList) F6.meets (by kernel_rfl) (by kernel_rfl) PI.law (fun j t v h => hval j t v (by simpa using h)) hA hW
set_option maxRecDepth 100000 in
theorem lifted (os : Os) (started : os.Started) (H : Type) (enc : TypeId × Value → H) :
    ReturnsInHanded {} Tryd.checked os 6 .any (fun w args => (Rows.sessionEndsSpec.pre enc Tryd.prog Tryd.f6 [] false w args ∧ laidMetH Tryd.prog Rows.sessionEndsRow.laid w) ∧ sizedMet enc Tryd.prog Tryd.f6 (OpenSpec.ofChange Rows.sessionEndsSpec) false w args) (Rows.sessionEndsSpec.post enc Tryd.prog Tryd.f6 false true false false) :=
  lifted_laid (C := Tryd.checked) (F := 6) (tb := 4) own started (by kernel_rfl) Tryd.func6 rfl Tryd.underlying4 rfl
    (fun ds h => by match ds, h with | [_, _, _], _ => rfl)
    laidOut (by kernel_rfl)
    (ChangeSpec.witness_shaped (enc := enc) (C := Tryd.checked) (os := os) (X := fun w _ => laidMetH Tryd.prog Rows.sessionEndsRow.laid w) false (World.doorLaid Tryd.prog 600 os) #[.slice none 0 0, .int .u8 0, .agg #[.int .u8 0, .int .u8 0]] 8 rfl
      (World.shaped_of_RefB (by kernel_rfl) (by kernel_rfl)) (by kernel_rfl) (by kernel_rfl) (by kernel_rfl)
      (laidMetH_of_parts3 (fuel := 8) (laidMet_of_run' 8 (by kernel_rfl) (by kernel_rfl)) (by kernel_rfl) (by kernel_rfl)))
    (fun W base args ds p hval hA hL => law H enc W base args ds p hval hA (globs_ok hL))
theorem proved : Rows.SessionEndsSaid :=
  OpenClaim.holds_of_wide 6 Tryd.f6 rfl rfl rfl rfl rfl rfl rfl ⟨rfl, rfl, rfl, rfl, rfl⟩ rfl rfl rfl rfl rfl (by kernel_rfl) Tryd.func6 (by kernel_rfl)
    (of_decide_eq_true (by kernel_rfl)) (by unfold Func.isWrapper; first | (rw [if_pos (by decide +kernel)]; kernel_rfl) | (rw [if_neg (by decide +kernel)]; exact ⟨rfl, rfl⟩))
    (fun os started H enc _ => lifted os started H enc)
#print axioms proved
theorem card : Rows.SessionEndsCardSaid :=
  Claim7.holds_tied_plain_at .later [] [.funcs] true (true, "3944908beea2627e514aa3c3eb5af8afae35c83cee314d4ce84658b2743d072c") false proved (fun _ h => by cases h) (by kernel_rfl) (fun _ h => by cases h) sessionEnds_row_tie rfl ⟨rfl, rfl⟩ (by kernel_rfl) rfl
    (fun f fn hf hfn => by
      obtain rfl : f = 6 := Option.some.inj ((show Tryd.prog.funcNamed "consulate/consulatelaw14.SessionEnds" = some 6 by kernel_rfl).symm.trans hf) |>.symm
      obtain rfl : fn = Tryd.f6 := (Option.some.inj (Tryd.func6.symm.trans hfn)).symm
      exact ⟨by kernel_rfl, fun j t ht => by
        rw [Tryd.params6] at ht
        have hm : t ∈ [22, 5, 28] := by simpa using Array.mem_of_getElem? ht
        have hall : ([22, 5, 28].all fun u => !Tryd.prog.wantsStandIn u) = true := by kernel_rfl
        exact (show Tryd.prog.wantsStandIn t = false by simpa using List.all_eq_true.1 hall t hm)⟩)
    (by kernel_rfl)
#print axioms card
end Go.Proofs.YtendadfdbmoadaaDoor.rowSessionEnds
