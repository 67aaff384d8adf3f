/- What comes of function 49 of this program, consulate.caps.Refreshes, as the engine gives it. -/
import Derived.Test.YtpfbpcaehmhefaaDoorChecked
import Derived.Test.YtpfbpcaehmhefaaDoorBZO
import Derived.Test.YtpfbpcaehmhefaaDoorBF71A
import Derived.Test.YtpfbpcaehmhefaaDoorBF71B
namespace Go.Proofs.YtpfbpcaehmhefaaDoorB.F49
open Go Go.Proofs Go.Proofs.YtpfbpcaehmhefaaDoor Go.RowKit Go.Proofs.YtpfbpcaehmhefaaDoorB.Sx
set_option linter.unusedVariables false
set_option maxRecDepth 100000
def tab (x71 : F71A.FT) : List (FuncId × Sx.Spec) := [(71, specF ⟨F71A.i, F71A.o, x71⟩)]
def pls (x71 : F71A.FT) : List (FuncId × Plan) := []
@[reducible] def i : Sh := .sl false 29 (.sc (.int .u8) (.sl false 5 (.sc (.int .u8) .nil) .nil)) .nil
@[reducible] def o : Sh := .sc .bool .nil
abbrev FT := ((List (Int × List (Int)))) → Option (Bool × Unit)
theorem tabS : AllS Tryd.prog (tab F71A.f) := ⟨F71A.spec, trivial⟩
theorem plsP : AllP Tryd.prog (pls F71A.f) := trivial
theorem mixed : Tryd.prog.follows .mixedOrders = true := by kernel_rfl
def fP (x71 : F71A.FT) : FT := fun l =>
    bif decide ((0 : Nat) + l.length ≤ l.length) && true then
      (x71 (List.take l.length l, OfNat.ofNat (2 : Nat), PUnit.unit)).bind fun r0 =>
       bif decide (r0.fst < (0 : Int)) then some (false, PUnit.unit)
       else
       bif decide ((0 : Int) ≤ r0.fst ∧ r0.fst < (↑l.length : Int) ∧ (0 : Nat) < l.length) then
       bif decide ((0 : Nat) + Int.toNat r0.fst < l.length) then some (true, PUnit.unit) else none
       else none
    else none
theorem fe (x71 : F71A.FT) (d : (List (Int × List (Int)))) : bodyF (tabC Tryd.prog (tab x71) ((49, .none) :: pls x71) 100 14) 100 49 i o d = fP x71 d := by kernel_rfl
noncomputable def f : FT := fP F71A.f
def plan : Plan := .none
theorem planOk : PlanOk Tryd.prog (plan) (bodyOf Tryd.prog 49) := (planOk_of (plan) _ [] (by kernel_rfl) trivial)
theorem meets : MeetsF Tryd.prog 49 ⟨i, o, f⟩ :=
  funcT (fuel := 100) (depth := 14) (pl := (49, plan) :: pls F71A.f) mixed tabS ⟨planOk, plsP⟩ (fun d =>  fe F71A.f d)
theorem spec : SpecOk Tryd.prog (fun _ => none) 49 (specF ⟨i, o, f⟩) := specF_ok (by kernel_rfl) meets
end Go.Proofs.YtpfbpcaehmhefaaDoorB.F49

/- What comes of function 50 of this program, consulate.clock.Agreed, as the engine gives it. -/
namespace Go.Proofs.YtpfbpcaehmhefaaDoorB.F50
open Go Go.Proofs Go.Proofs.YtpfbpcaehmhefaaDoor Go.RowKit Go.Proofs.YtpfbpcaehmhefaaDoorB.Sx
set_option linter.unusedVariables false
set_option maxRecDepth 100000
def tab : List (FuncId × Sx.Spec) := []
def pls : List (FuncId × Plan) := []
@[reducible] def i : Sh := .sc (.int .i64) (.sc (.int .i64) .nil)
@[reducible] def o : Sh := .sc (.int .i64) (.sc (.int .i64) .nil)
abbrev FT := (Int × Int) → Option ((Int × Int) × Unit)
theorem tabS : AllS Tryd.prog (tab) := trivial
theorem plsP : AllP Tryd.prog (pls) := trivial
theorem mixed : Tryd.prog.follows .mixedOrders = true := by kernel_rfl
def fP : FT := fun (ours, theirs) =>
    bif
       (if (0 : Int) > if theirs < ours then theirs else ours then (0 : Int)
       else if theirs < ours then theirs else ours) ==
       (0 : Int) then
      some (((0 : Int), (0 : Int)), PUnit.unit)
    else
      some
       ((if (0 : Int) > if theirs < ours then theirs else ours then (0 : Int)
       else if theirs < ours then theirs else ours,
       if
       (1 : Int) >
       IntKind.i64.wrap
       ((if (0 : Int) > if theirs < ours then theirs else ours then (0 : Int)
       else if theirs < ours then theirs else ours).tdiv
       (3 : Int)) then
       (1 : Int)
       else
       IntKind.i64.wrap
       ((if (0 : Int) > if theirs < ours then theirs else ours then (0 : Int)
       else if theirs < ours then theirs else ours).tdiv
       (3 : Int))),
       PUnit.unit)
theorem fe (d : Int × Int) : bodyF (tabC Tryd.prog (tab) ((50, .none) :: pls) 100 14) 100 50 i o d = fP d := by kernel_rfl
noncomputable def f : FT := fP
def plan : Plan := .none
theorem planOk : PlanOk Tryd.prog (plan) (bodyOf Tryd.prog 50) := (planOk_of (plan) _ [] (by kernel_rfl) trivial)
theorem meets : MeetsF Tryd.prog 50 ⟨i, o, f⟩ :=
  funcT (fuel := 100) (depth := 14) (pl := (50, plan) :: pls) mixed tabS ⟨planOk, plsP⟩ (fun d =>  fe  d)
theorem spec : SpecOk Tryd.prog (fun _ => none) 50 (specF ⟨i, o, f⟩) := specF_ok (by kernel_rfl) meets
end Go.Proofs.YtpfbpcaehmhefaaDoorB.F50

/- What comes of function 68 of this program, slices.Clone[[]byte,byte], as the engine gives it. -/
namespace Go.Proofs.YtpfbpcaehmhefaaDoorB.F68
open Go Go.Proofs Go.Proofs.YtpfbpcaehmhefaaDoor Go.RowKit Go.Proofs.YtpfbpcaehmhefaaDoorB.Sx
set_option linter.unusedVariables false
set_option maxRecDepth 100000
def tab : List (FuncId × Sx.Spec) := []
def pls : List (FuncId × Plan) := []
@[reducible] def i : Sh := .sl false 5 (.sc (.int .u8) .nil) .nil
@[reducible] def o : Sh := .sl true 5 (.sc (.int .u8) .nil) .nil
abbrev FT := List (Int) → Option (List (Int) × Unit)
theorem tabS : AllS Tryd.prog (tab) := trivial
theorem plsP : AllP Tryd.prog (pls) := trivial
theorem mixed : Tryd.prog.follows .mixedOrders = true := by kernel_rfl
def fP : FT := fun s =>
    bif decide ((0 : Nat) < s.length) then
      bif decide ((0 : Nat) + s.length ≤ s.length) then
       bif decide ((0 : Nat) + (List.take s.length s).length ≤ (1073741824 : Nat)) then
       bif
       decide ((0 : Nat) + ((0 : Nat) + (List.take s.length s).length) ≤ ([] ++ List.take s.length s).length) &&
       true then
       some
       (List.take ((0 : Nat) + (List.take s.length s).length) (List.drop (0 : Nat) ([] ++ List.take s.length s)),
       PUnit.unit)
       else none
       else none
      else none
    else none
theorem fe (d : List (Int)) : bodyF (tabC Tryd.prog (tab) ((68, .none) :: pls) 100 14) 100 68 i o d = fP d := by kernel_rfl
noncomputable def f : FT := fun d => if 0 < d.length then fP d else some ([], ())
def plan : Plan := .none
theorem planOk : PlanOk Tryd.prog (plan) (bodyOf Tryd.prog 68) := (planOk_of (plan) _ [] (by kernel_rfl) trivial)
theorem meets : MeetsF Tryd.prog 68 ⟨i, o, f⟩ :=
  sliceT (fuel := 100) (depth := 14) (pl := (68, plan) :: pls) (z := (show Den o from [])) mixed tabS ⟨planOk, plsP⟩ (fun (d : List (Int)) hd => (fe  d).trans (show fP d = f d from (if_pos (c := 0 < d.length) hd).symm)) (fun (d : List (Int)) h => (show f d = _ from if_neg (c := 0 < d.length) (by have h : d.length = 0 := h; omega))) (fun c => by kernel_rfl) (fun a c => by kernel_rfl)
theorem spec : SpecOk Tryd.prog (fun _ => none) 68 (specF ⟨i, o, f⟩) := specF_ok (by kernel_rfl) meets
end Go.Proofs.YtpfbpcaehmhefaaDoorB.F68

/- What comes of function 66 of this program, consulate.scroll.New, as the engine gives it. -/
namespace Go.Proofs.YtpfbpcaehmhefaaDoorB.F66
open Go Go.Proofs Go.Proofs.YtpfbpcaehmhefaaDoor Go.RowKit Go.Proofs.YtpfbpcaehmhefaaDoorB.Sx
set_option linter.unusedVariables false
set_option maxRecDepth 100000
def tab (x68 : F68.FT) : List (FuncId × Sx.Spec) := [(68, specF ⟨F68.i, F68.o, x68⟩)]
def pls (x68 : F68.FT) : List (FuncId × Plan) := []
@[reducible] def i : Sh := .sl false 5 (.sc (.int .u8) .nil) .nil
@[reducible] def o : Sh := .pt true 113 (.sl true 5 (.sc (.int .u8) .nil) (.sc (.int .i64) (.sl true 3 (.sc (.int .i64) .nil) (.sc (.int .i64) .nil)))) .nil
abbrev FT := List (Int) → Option (((List (Int) × Int × List (Int) × Int)) × Unit)
theorem tabS : AllS Tryd.prog (tab F68.f) := ⟨F68.spec, trivial⟩
theorem plsP : AllP Tryd.prog (pls F68.f) := trivial
theorem mixed : Tryd.prog.follows .mixedOrders = true := by kernel_rfl
def fP (x68 : F68.FT) : FT := fun b =>
    bif decide ((0 : Nat) + b.length ≤ b.length) && true then
      (x68 (List.take b.length b)).bind fun r0 =>
       bif decide ((0 : Nat) + List.length r0.fst ≤ List.length r0.fst) && true then
       some
       ((List.take (List.length r0.fst) (List.drop (0 : Nat) r0.fst), (0 : Int), [(↑b.length : Int)], (0 : Int)),
       PUnit.unit)
       else none
    else none
theorem fe (x68 : F68.FT) (d : List (Int)) : bodyF (tabC Tryd.prog (tab x68) ((66, .none) :: pls x68) 100 14) 100 66 i o d = fP x68 d := by kernel_rfl
noncomputable def f : FT := fP F68.f
def plan : Plan := .none
theorem planOk : PlanOk Tryd.prog (plan) (bodyOf Tryd.prog 66) := (planOk_of (plan) _ [] (by kernel_rfl) trivial)
theorem meets : MeetsF Tryd.prog 66 ⟨i, o, f⟩ :=
  funcT (fuel := 100) (depth := 14) (pl := (66, plan) :: pls F68.f) mixed tabS ⟨planOk, plsP⟩ (fun d =>  fe F68.f d)
theorem spec : SpecOk Tryd.prog (fun _ => none) 66 (specF ⟨i, o, f⟩) := specF_ok (by kernel_rfl) meets
end Go.Proofs.YtpfbpcaehmhefaaDoorB.F66

/- What comes of function 96 of this program, (*consulate.scroll.Reader).Err, as the engine gives it. -/
namespace Go.Proofs.YtpfbpcaehmhefaaDoorB.F96
open Go Go.Proofs Go.Proofs.YtpfbpcaehmhefaaDoor Go.RowKit Go.Proofs.YtpfbpcaehmhefaaDoorB.Sx
set_option linter.unusedVariables false
set_option maxRecDepth 100000
def tab : List (FuncId × Sx.Spec) := []
def pls : List (FuncId × Plan) := []
@[reducible] def i : Sh := .pt true 113 (.sl true 5 (.sc (.int .u8) .nil) (.sc (.int .i64) (.sl true 3 (.sc (.int .i64) .nil) (.sc (.int .i64) .nil)))) .nil
@[reducible] def o : Sh := .sc (.int .i64) .nil
abbrev FT := ((List (Int) × Int × List (Int) × Int)) → Option (Int × ((List (Int) × Int × List (Int) × Int)))
theorem tabS : AllS Tryd.prog (tab) := trivial
theorem plsP : AllP Tryd.prog (pls) := trivial
theorem mixed : Tryd.prog.follows .mixedOrders = true := by kernel_rfl
def fP : FT := fun (r0_2, r1_2, r2_2, r3_2) =>
    bif (↑r2_2.length : Int) == (0 : Int) then
      bif decide ((0 : Nat) + r0_2.length ≤ r0_2.length) && true then
       bif decide ((0 : Nat) + r2_2.length ≤ r2_2.length) && true then
       some ((2 : Int), List.take r0_2.length r0_2, r1_2, List.take r2_2.length r2_2, r3_2)
       else none
      else none
    else
      bif decide ((0 : Nat) + r0_2.length ≤ r0_2.length) && true then
       bif decide ((0 : Nat) + r2_2.length ≤ r2_2.length) && true then
       some (r3_2, List.take r0_2.length r0_2, r1_2, List.take r2_2.length r2_2, r3_2)
       else none
      else none
theorem fe (d : (List (Int) × Int × List (Int) × Int)) : bodyF (tabC Tryd.prog (tab) ((96, .none) :: pls) 100 14) 100 96 i o d = fP d := by kernel_rfl
noncomputable def f : FT := fP
def plan : Plan := .none
theorem planOk : PlanOk Tryd.prog (plan) (bodyOf Tryd.prog 96) := (planOk_of (plan) _ [] (by kernel_rfl) trivial)
theorem meets : MeetsF Tryd.prog 96 ⟨i, o, f⟩ :=
  funcT (fuel := 100) (depth := 14) (pl := (96, plan) :: pls) mixed tabS ⟨planOk, plsP⟩ (fun d =>  fe  d)
theorem spec : SpecOk Tryd.prog (fun _ => none) 96 (specF ⟨i, o, f⟩) := specF_ok (by kernel_rfl) meets
end Go.Proofs.YtpfbpcaehmhefaaDoorB.F96

/- What comes of function 94 of this program, (*consulate.scroll.Reader).Left, as the engine gives it. -/
namespace Go.Proofs.YtpfbpcaehmhefaaDoorB.F94
open Go Go.Proofs Go.Proofs.YtpfbpcaehmhefaaDoor Go.RowKit Go.Proofs.YtpfbpcaehmhefaaDoorB.Sx
set_option linter.unusedVariables false
set_option maxRecDepth 100000
def tab (x96 : F96.FT) : List (FuncId × Sx.Spec) := [(96, specF ⟨F96.i, F96.o, x96⟩)]
def pls (x96 : F96.FT) : List (FuncId × Plan) := []
@[reducible] def i : Sh := .pt true 113 (.sl true 5 (.sc (.int .u8) .nil) (.sc (.int .i64) (.sl true 3 (.sc (.int .i64) .nil) (.sc (.int .i64) .nil)))) .nil
@[reducible] def o : Sh := .sc (.int .i64) .nil
abbrev FT := ((List (Int) × Int × List (Int) × Int)) → Option (Int × ((List (Int) × Int × List (Int) × Int)))
theorem tabS : AllS Tryd.prog (tab F96.f) := ⟨F96.spec, trivial⟩
theorem plsP : AllP Tryd.prog (pls F96.f) := trivial
theorem mixed : Tryd.prog.follows .mixedOrders = true := by kernel_rfl
def fP (x96 : F96.FT) : FT := fun (r0_2, r1_2, r2_2, r3_2) =>
    (x96 (r0_2, r1_2, r2_2, r3_2)).bind fun r0 =>
      bif r0.fst != (0 : Int) then some ((0 : Int), r0.snd)
      else
       bif
       decide
       ((0 : Int) ≤ IntKind.i64.wrap ((↑r0.snd.snd.snd.fst.length : Int) - (1 : Int)) ∧
       IntKind.i64.wrap ((↑r0.snd.snd.snd.fst.length : Int) - (1 : Int)) < (↑r0.snd.snd.snd.fst.length : Int) ∧
       (0 : Nat) < r0.snd.snd.snd.fst.length) then
       bif
       decide
       ((0 : Nat) + (IntKind.i64.wrap ((↑r0.snd.snd.snd.fst.length : Int) - (1 : Int))).toNat <
       r0.snd.snd.snd.fst.length) then
       bif decide ((0 : Nat) + r0.snd.fst.length ≤ r0.snd.fst.length) && true then
       bif decide ((0 : Nat) + r0.snd.snd.snd.fst.length ≤ r0.snd.snd.snd.fst.length) && true then
       some
       (IntKind.i64.wrap
       (r0.snd.snd.snd.fst.getD
       ((0 : Nat) + (IntKind.i64.wrap ((↑r0.snd.snd.snd.fst.length : Int) - (1 : Int))).toNat)
       (0 : Int) -
       r0.snd.snd.fst),
       List.take r0.snd.fst.length (List.drop (0 : Nat) r0.snd.fst), r0.snd.snd.fst,
       List.take r0.snd.snd.snd.fst.length (List.drop (0 : Nat) r0.snd.snd.snd.fst), r0.snd.snd.snd.snd)
       else none
       else none
       else none
       else none
theorem fe (x96 : F96.FT) (d : (List (Int) × Int × List (Int) × Int)) : bodyF (tabC Tryd.prog (tab x96) ((94, .none) :: pls x96) 100 14) 100 94 i o d = fP x96 d := by kernel_rfl
noncomputable def f : FT := fP F96.f
def plan : Plan := .none
theorem planOk : PlanOk Tryd.prog (plan) (bodyOf Tryd.prog 94) := (planOk_of (plan) _ [] (by kernel_rfl) trivial)
theorem meets : MeetsF Tryd.prog 94 ⟨i, o, f⟩ :=
  funcT (fuel := 100) (depth := 14) (pl := (94, plan) :: pls F96.f) mixed tabS ⟨planOk, plsP⟩ (fun d =>  fe F96.f d)
theorem spec : SpecOk Tryd.prog (fun _ => none) 94 (specF ⟨i, o, f⟩) := specF_ok (by kernel_rfl) meets
end Go.Proofs.YtpfbpcaehmhefaaDoorB.F94

/- What comes of function 95 of this program, (*consulate.scroll.Reader).Fail, as the engine gives it. -/
namespace Go.Proofs.YtpfbpcaehmhefaaDoorB.F95
open Go Go.Proofs Go.Proofs.YtpfbpcaehmhefaaDoor Go.RowKit Go.Proofs.YtpfbpcaehmhefaaDoorB.Sx
set_option linter.unusedVariables false
set_option maxRecDepth 100000
def tab (x96 : F96.FT) : List (FuncId × Sx.Spec) := [(96, specF ⟨F96.i, F96.o, x96⟩)]
def pls (x96 : F96.FT) : List (FuncId × Plan) := []
@[reducible] def i : Sh := .pt true 113 (.sl true 5 (.sc (.int .u8) .nil) (.sc (.int .i64) (.sl true 3 (.sc (.int .i64) .nil) (.sc (.int .i64) .nil)))) (.sc (.int .i64) .nil)
@[reducible] def o : Sh := .nil
abbrev FT := ((List (Int) × Int × List (Int) × Int) × Int) → Option (Unit × ((List (Int) × Int × List (Int) × Int)))
theorem tabS : AllS Tryd.prog (tab F96.f) := ⟨F96.spec, trivial⟩
theorem plsP : AllP Tryd.prog (pls F96.f) := trivial
theorem mixed : Tryd.prog.follows .mixedOrders = true := by kernel_rfl
def fP (x96 : F96.FT) : FT := fun ((r0_2, r1_2, r2_2, r3_2), e) =>
    (x96 (r0_2, r1_2, r2_2, r3_2)).bind fun r0 =>
      bif r0.fst == (0 : Int) then
       bif decide ((0 : Nat) + r0.snd.fst.length ≤ r0.snd.fst.length) && true then
       bif decide ((0 : Nat) + r0.snd.snd.snd.fst.length ≤ r0.snd.snd.snd.fst.length) && true then
       some
       (PUnit.unit, List.take r0.snd.fst.length (List.drop (0 : Nat) r0.snd.fst), r0.snd.snd.fst,
       List.take r0.snd.snd.snd.fst.length (List.drop (0 : Nat) r0.snd.snd.snd.fst), e)
       else none
       else none
      else some (PUnit.unit, r0.snd)
theorem fe (x96 : F96.FT) (d : (List (Int) × Int × List (Int) × Int) × Int) : bodyF (tabC Tryd.prog (tab x96) ((95, .none) :: pls x96) 100 14) 100 95 i o d = fP x96 d := by kernel_rfl
noncomputable def f : FT := fP F96.f
def plan : Plan := .none
theorem planOk : PlanOk Tryd.prog (plan) (bodyOf Tryd.prog 95) := (planOk_of (plan) _ [] (by kernel_rfl) trivial)
theorem meets : MeetsF Tryd.prog 95 ⟨i, o, f⟩ :=
  funcT (fuel := 100) (depth := 14) (pl := (95, plan) :: pls F96.f) mixed tabS ⟨planOk, plsP⟩ (fun d =>  fe F96.f d)
theorem spec : SpecOk Tryd.prog (fun _ => none) 95 (specF ⟨i, o, f⟩) := specF_ok (by kernel_rfl) meets
end Go.Proofs.YtpfbpcaehmhefaaDoorB.F95

/- What comes of function 92 of this program, (*consulate.scroll.Reader).has, as the engine gives it. -/
namespace Go.Proofs.YtpfbpcaehmhefaaDoorB.F92
open Go Go.Proofs Go.Proofs.YtpfbpcaehmhefaaDoor Go.RowKit Go.Proofs.YtpfbpcaehmhefaaDoorB.Sx
set_option linter.unusedVariables false
set_option maxRecDepth 100000
def tab (x94 : F94.FT) (x95 : F95.FT) (x96 : F96.FT) : List (FuncId × Sx.Spec) := [(94, specF ⟨F94.i, F94.o, x94⟩), (95, specF ⟨F95.i, F95.o, x95⟩), (96, specF ⟨F96.i, F96.o, x96⟩)]
def pls (x94 : F94.FT) (x95 : F95.FT) (x96 : F96.FT) : List (FuncId × Plan) := []
@[reducible] def i : Sh := .pt true 113 (.sl true 5 (.sc (.int .u8) .nil) (.sc (.int .i64) (.sl true 3 (.sc (.int .i64) .nil) (.sc (.int .i64) .nil)))) (.sc (.int .i64) .nil)
@[reducible] def o : Sh := .sc .bool .nil
abbrev FT := ((List (Int) × Int × List (Int) × Int) × Int) → Option (Bool × ((List (Int) × Int × List (Int) × Int)))
theorem tabS : AllS Tryd.prog (tab F94.f F95.f F96.f) := ⟨F94.spec, F95.spec, F96.spec, trivial⟩
theorem plsP : AllP Tryd.prog (pls F94.f F95.f F96.f) := trivial
theorem mixed : Tryd.prog.follows .mixedOrders = true := by kernel_rfl
def fP (x94 : F94.FT) (x95 : F95.FT) (x96 : F96.FT) : FT := fun ((r0_2, r1_2, r2_2, r3_2), n) =>
    bif decide (n < (0 : Int)) then
      (x95 ((r0_2, r1_2, r2_2, r3_2), (4 : Int))).bind fun r0 =>
       (x96 r0.snd).bind fun r1 => some (r1.fst == (0 : Int), r1.snd)
    else
      (x94 (r0_2, r1_2, r2_2, r3_2)).bind fun r0 =>
       bif decide (n > r0.fst) then
       (x95 (r0.snd, (4 : Int))).bind fun r1 => (x96 r1.snd).bind fun r2 => some (r2.fst == (0 : Int), r2.snd)
       else (x96 r0.snd).bind fun r1 => some (r1.fst == (0 : Int), r1.snd)
theorem fe (x94 : F94.FT) (x95 : F95.FT) (x96 : F96.FT) (d : (List (Int) × Int × List (Int) × Int) × Int) : bodyF (tabC Tryd.prog (tab x94 x95 x96) ((92, .none) :: pls x94 x95 x96) 100 14) 100 92 i o d = fP x94 x95 x96 d := by kernel_rfl
noncomputable def f : FT := fP F94.f F95.f F96.f
def plan : Plan := .none
theorem planOk : PlanOk Tryd.prog (plan) (bodyOf Tryd.prog 92) := (planOk_of (plan) _ [] (by kernel_rfl) trivial)
theorem meets : MeetsF Tryd.prog 92 ⟨i, o, f⟩ :=
  funcT (fuel := 100) (depth := 14) (pl := (92, plan) :: pls F94.f F95.f F96.f) mixed tabS ⟨planOk, plsP⟩ (fun d =>  fe F94.f F95.f F96.f d)
theorem spec : SpecOk Tryd.prog (fun _ => none) 92 (specF ⟨i, o, f⟩) := specF_ok (by kernel_rfl) meets
end Go.Proofs.YtpfbpcaehmhefaaDoorB.F92

/- What comes of function 85 of this program, (*consulate.scroll.Reader).Take, as the engine gives it. -/
namespace Go.Proofs.YtpfbpcaehmhefaaDoorB.F85
open Go Go.Proofs Go.Proofs.YtpfbpcaehmhefaaDoor Go.RowKit Go.Proofs.YtpfbpcaehmhefaaDoorB.Sx
set_option linter.unusedVariables false
set_option maxRecDepth 100000
def tab (x92 : F92.FT) (x68 : F68.FT) : List (FuncId × Sx.Spec) := [(92, specF ⟨F92.i, F92.o, x92⟩), (68, specF ⟨F68.i, F68.o, x68⟩)]
def pls (x92 : F92.FT) (x68 : F68.FT) : List (FuncId × Plan) := []
@[reducible] def i : Sh := .pt true 113 (.sl true 5 (.sc (.int .u8) .nil) (.sc (.int .i64) (.sl true 3 (.sc (.int .i64) .nil) (.sc (.int .i64) .nil)))) (.sc (.int .i64) .nil)
@[reducible] def o : Sh := .sl true 5 (.sc (.int .u8) .nil) .nil
abbrev FT := ((List (Int) × Int × List (Int) × Int) × Int) → Option (List (Int) × ((List (Int) × Int × List (Int) × Int)))
theorem tabS : AllS Tryd.prog (tab F92.f F68.f) := ⟨F92.spec, F68.spec, trivial⟩
theorem plsP : AllP Tryd.prog (pls F92.f F68.f) := trivial
theorem mixed : Tryd.prog.follows .mixedOrders = true := by kernel_rfl
def fP (x92 : F92.FT) (x68 : F68.FT) : FT := fun ((r0_2, r1_2, r2_2, r3_2), n) =>
    (x92 ((r0_2, r1_2, r2_2, r3_2), n)).bind fun r0 =>
      bif !r0.fst then some ([], r0.snd)
      else
       bif
       decide
       ((0 : Int) ≤ IntKind.i64.wrap (IntKind.i64.wrap (r0.snd.snd.fst + n) - n) ∧
       IntKind.i64.wrap (IntKind.i64.wrap (r0.snd.snd.fst + n) - n) ≤
       (some (IntKind.i64.wrap (r0.snd.snd.fst + n))).getD (↑r0.snd.fst.length : Int) ∧
       (some (IntKind.i64.wrap (r0.snd.snd.fst + n))).getD (↑r0.snd.fst.length : Int) ≤
       (↑r0.snd.fst.length : Int) ∧
       (0 : Nat) + r0.snd.fst.length ≤ r0.snd.fst.length) then
       bif decide (IntKind.i64.wrap (IntKind.i64.wrap (r0.snd.snd.fst + n) - n) = (↑r0.snd.fst.length : Int)) then
       bif
       decide
       ((0 : Nat) ≤ (0 : Nat) + r0.snd.fst.length ∧ (0 : Nat) + r0.snd.fst.length ≤ r0.snd.fst.length) then
       (x68 []).bind fun r1 =>
       bif decide ((0 : Nat) + List.length r1.fst ≤ List.length r1.fst) && true then
       bif decide ((0 : Nat) + r0.snd.fst.length ≤ r0.snd.fst.length) && true then
       bif decide ((0 : Nat) + r0.snd.snd.snd.fst.length ≤ r0.snd.snd.snd.fst.length) && true then
       some
       (List.take (List.length r1.fst) (List.drop (0 : Nat) r1.fst),
       List.take r0.snd.fst.length (List.drop (0 : Nat) r0.snd.fst),
       IntKind.i64.wrap (r0.snd.snd.fst + n),
       List.take r0.snd.snd.snd.fst.length (List.drop (0 : Nat) r0.snd.snd.snd.fst),
       r0.snd.snd.snd.snd)
       else none
       else none
       else none
       else none
       else
       bif
       decide
       ((0 : Nat) + (IntKind.i64.wrap (IntKind.i64.wrap (r0.snd.snd.fst + n) - n)).toNat +
       ((some (IntKind.i64.wrap (r0.snd.snd.fst + n))).getD (↑r0.snd.fst.length : Int) -
       IntKind.i64.wrap (IntKind.i64.wrap (r0.snd.snd.fst + n) - n)).toNat ≤
       r0.snd.fst.length) &&
       true then
       (x68
       (List.take
       ((some (IntKind.i64.wrap (r0.snd.snd.fst + n))).getD (↑r0.snd.fst.length : Int) -
       IntKind.i64.wrap (IntKind.i64.wrap (r0.snd.snd.fst + n) - n)).toNat
       (List.drop ((0 : Nat) + (IntKind.i64.wrap (IntKind.i64.wrap (r0.snd.snd.fst + n) - n)).toNat)
       r0.snd.fst))).bind
       fun r1 =>
       bif decide ((0 : Nat) + List.length r1.fst ≤ List.length r1.fst) && true then
       bif decide ((0 : Nat) + r0.snd.fst.length ≤ r0.snd.fst.length) && true then
       bif decide ((0 : Nat) + r0.snd.snd.snd.fst.length ≤ r0.snd.snd.snd.fst.length) && true then
       some
       (List.take (List.length r1.fst) (List.drop (0 : Nat) r1.fst),
       List.take r0.snd.fst.length (List.drop (0 : Nat) r0.snd.fst),
       IntKind.i64.wrap (r0.snd.snd.fst + n),
       List.take r0.snd.snd.snd.fst.length (List.drop (0 : Nat) r0.snd.snd.snd.fst),
       r0.snd.snd.snd.snd)
       else none
       else none
       else none
       else none
       else none
theorem fe (x92 : F92.FT) (x68 : F68.FT) (d : (List (Int) × Int × List (Int) × Int) × Int) : bodyF (tabC Tryd.prog (tab x92 x68) ((85, .none) :: pls x92 x68) 100 14) 100 85 i o d = fP x92 x68 d := by kernel_rfl
noncomputable def f : FT := fP F92.f F68.f
def plan : Plan := .none
theorem planOk : PlanOk Tryd.prog (plan) (bodyOf Tryd.prog 85) := (planOk_of (plan) _ [] (by kernel_rfl) trivial)
theorem meets : MeetsF Tryd.prog 85 ⟨i, o, f⟩ :=
  funcT (fuel := 100) (depth := 14) (pl := (85, plan) :: pls F92.f F68.f) mixed tabS ⟨planOk, plsP⟩ (fun d =>  fe F92.f F68.f d)
theorem spec : SpecOk Tryd.prog (fun _ => none) 85 (specF ⟨i, o, f⟩) := specF_ok (by kernel_rfl) meets
end Go.Proofs.YtpfbpcaehmhefaaDoorB.F85

/- What comes of function 73 of this program, consulate.scroll.number[uint32], as the engine gives it. -/
namespace Go.Proofs.YtpfbpcaehmhefaaDoorB.F73
open Go Go.Proofs Go.Proofs.YtpfbpcaehmhefaaDoor Go.RowKit Go.Proofs.YtpfbpcaehmhefaaDoorB.Sx
set_option linter.unusedVariables false
set_option maxRecDepth 100000
def tab (x85 : F85.FT) : List (FuncId × Sx.Spec) := [(85, specF ⟨F85.i, F85.o, x85⟩)]
def pls (x85 : F85.FT) : List (FuncId × Plan) := []
@[reducible] def k1 : Sh := .sl true 5 (.sc (.int .u8) .nil) (.sc (.int .i64) .nil)
@[reducible] def i1 : Sh := .sc (.int .u32) (.sc (.int .i64) .nil)
@[reducible] def o1 : Sh := .sc (.int .u32) .nil
abbrev G1 := (List (Int) × Int) → (Int × Int) → Option (Int × Unit)
def u1 (F : G1) : Un := ⟨24, [10, 11], k1, [5, 12], i1, [5], o1, [10, 11], [(.exit 0, [true])], F⟩
@[reducible] def i : Sh := .pt true 113 (.sl true 5 (.sc (.int .u8) .nil) (.sc (.int .i64) (.sl true 3 (.sc (.int .i64) .nil) (.sc (.int .i64) .nil)))) (.sc (.int .i64) .nil)
@[reducible] def o : Sh := .sc (.int .u32) .nil
abbrev FT := ((List (Int) × Int × List (Int) × Int) × Int) → Option (Int × ((List (Int) × Int × List (Int) × Int)))
theorem tabS : AllS Tryd.prog (tab F85.f) := ⟨F85.spec, trivial⟩
theorem plsP : AllP Tryd.prog (pls F85.f) := trivial
theorem mixed : Tryd.prog.follows .mixedOrders = true := by kernel_rfl
def r1P (x85 : F85.FT) : (List (Int) × Int) → (Int × Int) → Option ((Int × Int) ⊕ (Int × Unit)) := fun (t10, t11) (n, t12) =>
    bif decide (t12 < t11) then
      bif decide ((0 : Int) ≤ t12 ∧ t12 < (↑t10.length : Int) ∧ (0 : Nat) < t10.length) then
       bif decide ((0 : Nat) + t12.toNat < t10.length) then
       some
       (Sum.inl
       (IntKind.u32.wrap
       (↑((IntKind.u32.wrap (IntKind.u32.wrap (n * (128 : Int)) * (2 : Int)) % (4294967296 : Int)).toNat |||
       (IntKind.u32.wrap (t10.getD ((0 : Nat) + t12.toNat) (0 : Int)) % (4294967296 : Int)).toNat) :
       Int),
       IntKind.i64.wrap (t12 + (1 : Int))))
       else none
      else none
    else some (Sum.inr (n, PUnit.unit))
theorem r1e (x85 : F85.FT) (kd : List (Int) × Int) (d : Int × Int) : roundF (tabC Tryd.prog (tab x85) (pls x85) 100 14) 100 .none (u1 fun _ _ => none) (codeAt [1, 1, 0, 1, 0, 0] (bodyOf Tryd.prog 73)) kd d = r1P x85 kd d := by kernel_rfl
noncomputable def r1 : (List (Int) × Int) → (Int × Int) → Option ((Int × Int) ⊕ (Int × Unit)) := r1P F85.f
noncomputable def l1 : G1 := fun kd d => iterO (r1 kd) d
theorem ok1 : UnOk Tryd.prog (u1 l1) (codeAt [1, 1, 0, 1, 0] (bodyOf Tryd.prog 73)) :=
  loopT (p := .none) (c := codeAt [1, 1, 0, 1, 0, 0] (bodyOf Tryd.prog 73)) (fuel := 100) (depth := 14) mixed tabS plsP (by kernel_rfl) trivial (by kernel_rfl) (fun kd d => r1e F85.f kd d) rfl
def fP (x85 : F85.FT) (l1 : G1) : FT := fun ((r0_2, r1_2, r2_2, r3_2), wide) =>
    (x85 ((r0_2, r1_2, r2_2, r3_2), wide)).bind fun r0 =>
      bif decide ((0 : Nat) + List.length r0.fst ≤ List.length r0.fst) && true then
       (l1 (List.take (List.length r0.fst) (List.drop (0 : Nat) r0.fst), (↑(List.length r0.fst) : Int))
       ((0 : Int), (0 : Int))).bind
       fun r1 => some (r1.fst, r0.snd)
      else none
theorem fe (x85 : F85.FT) (l1 : G1) (d : (List (Int) × Int × List (Int) × Int) × Int) : bodyF (tabC Tryd.prog (tab x85) ((73, (.node .none (.node .none (.node (.node .none (.node (.unit (u1 l1)) .none)) .none)))) :: pls x85) 100 14) 100 73 i o d = fP x85 l1 d := by kernel_rfl
noncomputable def f : FT := fP F85.f l1
def plan (l1 : G1) : Plan := (.node .none (.node .none (.node (.node .none (.node (.unit (u1 l1)) .none)) .none)))
theorem planOk : PlanOk Tryd.prog (plan l1) (bodyOf Tryd.prog 73) := (planOk_of (plan l1) _ [([1, 1, 0, 1, 0], u1 l1)] rfl ⟨ok1, trivial⟩)
theorem meets : MeetsF Tryd.prog 73 ⟨i, o, f⟩ :=
  funcT (fuel := 100) (depth := 14) (pl := (73, plan l1) :: pls F85.f) mixed tabS ⟨planOk, plsP⟩ (fun d =>  fe F85.f l1 d)
theorem spec : SpecOk Tryd.prog (fun _ => none) 73 (specF ⟨i, o, f⟩) := specF_ok (by kernel_rfl) meets
end Go.Proofs.YtpfbpcaehmhefaaDoorB.F73

/- What comes of function 67 of this program, (*consulate.scroll.Reader).Four, as the engine gives it. -/
namespace Go.Proofs.YtpfbpcaehmhefaaDoorB.F67
open Go Go.Proofs Go.Proofs.YtpfbpcaehmhefaaDoor Go.RowKit Go.Proofs.YtpfbpcaehmhefaaDoorB.Sx
set_option linter.unusedVariables false
set_option maxRecDepth 100000
def tab (x73 : F73.FT) : List (FuncId × Sx.Spec) := [(73, specF ⟨F73.i, F73.o, x73⟩)]
def pls (x73 : F73.FT) : List (FuncId × Plan) := []
@[reducible] def i : Sh := .pt true 113 (.sl true 5 (.sc (.int .u8) .nil) (.sc (.int .i64) (.sl true 3 (.sc (.int .i64) .nil) (.sc (.int .i64) .nil)))) .nil
@[reducible] def o : Sh := .sc (.int .u32) .nil
abbrev FT := ((List (Int) × Int × List (Int) × Int)) → Option (Int × ((List (Int) × Int × List (Int) × Int)))
theorem tabS : AllS Tryd.prog (tab F73.f) := ⟨F73.spec, trivial⟩
theorem plsP : AllP Tryd.prog (pls F73.f) := trivial
theorem mixed : Tryd.prog.follows .mixedOrders = true := by kernel_rfl
def fP (x73 : F73.FT) : FT := fun (r0_2, r1_2, r2_2, r3_2) =>
   (x73 ((r0_2, r1_2, r2_2, r3_2), (4 : Int))).bind fun r0 => some (r0.fst, r0.snd)
theorem fe (x73 : F73.FT) (d : (List (Int) × Int × List (Int) × Int)) : bodyF (tabC Tryd.prog (tab x73) ((67, .none) :: pls x73) 100 14) 100 67 i o d = fP x73 d := by kernel_rfl
noncomputable def f : FT := fP F73.f
def plan : Plan := .none
theorem planOk : PlanOk Tryd.prog (plan) (bodyOf Tryd.prog 67) := (planOk_of (plan) _ [] (by kernel_rfl) trivial)
theorem meets : MeetsF Tryd.prog 67 ⟨i, o, f⟩ :=
  funcT (fuel := 100) (depth := 14) (pl := (67, plan) :: pls F73.f) mixed tabS ⟨planOk, plsP⟩ (fun d =>  fe F73.f d)
theorem spec : SpecOk Tryd.prog (fun _ => none) 67 (specF ⟨i, o, f⟩) := specF_ok (by kernel_rfl) meets
end Go.Proofs.YtpfbpcaehmhefaaDoorB.F67

/- What comes of function 51 of this program, consulate.caps.Number, as the engine gives it. -/
namespace Go.Proofs.YtpfbpcaehmhefaaDoorB.F51
open Go Go.Proofs Go.Proofs.YtpfbpcaehmhefaaDoor Go.RowKit Go.Proofs.YtpfbpcaehmhefaaDoorB.Sx
set_option linter.unusedVariables false
set_option maxRecDepth 100000
def tab (x71 : F71B.FT) (x66 : F66.FT) (x67 : F67.FT) : List (FuncId × Sx.Spec) := [(71, specF ⟨F71B.i, F71B.o, x71⟩), (66, specF ⟨F66.i, F66.o, x66⟩), (67, specF ⟨F67.i, F67.o, x67⟩)]
def pls (x71 : F71B.FT) (x66 : F66.FT) (x67 : F67.FT) : List (FuncId × Plan) := []
@[reducible] def i : Sh := .sl false 29 (.sc (.int .u8) (.sl false 5 (.sc (.int .u8) .nil) .nil)) .nil
@[reducible] def o : Sh := .sc (.int .u32) (.sc .bool .nil)
abbrev FT := ((List (Int × List (Int)))) → Option ((Int × Bool) × Unit)
theorem tabS : AllS Tryd.prog (tab F71B.f F66.f F67.f) := ⟨F71B.spec, F66.spec, F67.spec, trivial⟩
theorem plsP : AllP Tryd.prog (pls F71B.f F66.f F67.f) := trivial
theorem mixed : Tryd.prog.follows .mixedOrders = true := by kernel_rfl
def fP (x71 : F71B.FT) (x66 : F66.FT) (x67 : F67.FT) : FT := fun l =>
    bif decide ((0 : Nat) + l.length ≤ l.length) && true then
      (x71 (List.take l.length l, OfNat.ofNat (65 : Nat), PUnit.unit)).bind fun r0 =>
       bif decide (r0.fst < (0 : Int)) then some (((0 : Int), false), PUnit.unit)
       else
       bif decide ((0 : Int) ≤ r0.fst ∧ r0.fst < (↑l.length : Int) ∧ (0 : Nat) < l.length) then
       bif decide ((0 : Nat) + Int.toNat r0.fst < l.length) then
       bif
       decide
       ((0 : Nat) + List.length (l.getD ((0 : Nat) + Int.toNat r0.fst) ((0 : Int), [])).snd ≤
       List.length (l.getD ((0 : Nat) + Int.toNat r0.fst) ((0 : Int), [])).snd) &&
       true then
       (x66
       (List.take (List.length (l.getD ((0 : Nat) + Int.toNat r0.fst) ((0 : Int), [])).snd)
       (List.drop (0 : Nat) (l.getD ((0 : Nat) + Int.toNat r0.fst) ((0 : Int), [])).snd))).bind
       fun r1 => (x67 r1.fst).bind fun r2 => some ((r2.fst, true), PUnit.unit)
       else none
       else none
       else none
    else none
theorem fe (x71 : F71B.FT) (x66 : F66.FT) (x67 : F67.FT) (d : (List (Int × List (Int)))) : bodyF (tabC Tryd.prog (tab x71 x66 x67) ((51, .none) :: pls x71 x66 x67) 100 14) 100 51 i o d = fP x71 x66 x67 d := by kernel_rfl
noncomputable def f : FT := fP F71B.f F66.f F67.f
def plan : Plan := .none
theorem planOk : PlanOk Tryd.prog (plan) (bodyOf Tryd.prog 51) := (planOk_of (plan) _ [] (by kernel_rfl) trivial)
theorem meets : MeetsF Tryd.prog 51 ⟨i, o, f⟩ :=
  funcT (fuel := 100) (depth := 14) (pl := (51, plan) :: pls F71B.f F66.f F67.f) mixed tabS ⟨planOk, plsP⟩ (fun d =>  fe F71B.f F66.f F67.f d)
theorem spec : SpecOk Tryd.prog (fun _ => none) 51 (specF ⟨i, o, f⟩) := specF_ok (by kernel_rfl) meets
end Go.Proofs.YtpfbpcaehmhefaaDoorB.F51

/- What comes of function 8 of this program, consulate.peer.Agree, as the engine gives it. -/
namespace Go.Proofs.YtpfbpcaehmhefaaDoorB.F8
open Go Go.Proofs Go.Proofs.YtpfbpcaehmhefaaDoor Go.RowKit Go.Proofs.YtpfbpcaehmhefaaDoorB.Sx
set_option linter.unusedVariables false
set_option maxRecDepth 100000
def tab (x49 : F49.FT) (x50 : F50.FT) (x51 : F51.FT) : List (FuncId × Sx.Spec) := [(49, specF ⟨F49.i, F49.o, x49⟩), (50, specF ⟨F50.i, F50.o, x50⟩), (51, specF ⟨F51.i, F51.o, x51⟩)]
def pls (x49 : F49.FT) (x50 : F50.FT) (x51 : F51.FT) : List (FuncId × Plan) := []
@[reducible] def i : Sh := .sc (.int .i64) (.sc (.int .i64) (.sc (.int .u16) (.sl false 29 (.sc (.int .u8) (.sl false 5 (.sc (.int .u8) .nil) .nil)) .nil)))
@[reducible] def o : Sh := .ag none (.sc (.int .i64) (.sc (.int .i64) (.sc .bool (.sc .bool (.sc (.int .u32) .nil))))) .nil
abbrev FT := (Int × Int × Int × (List (Int × List (Int)))) → Option (((Int × Int × Bool × Bool × Int)) × Unit)
theorem tabS : AllS Tryd.prog (tab F49.f F50.f F51.f) := ⟨F49.spec, F50.spec, F51.spec, trivial⟩
theorem plsP : AllP Tryd.prog (pls F49.f F50.f F51.f) := trivial
theorem mixed : Tryd.prog.follows .mixedOrders = true := by kernel_rfl
def fP (x49 : F49.FT) (x50 : F50.FT) (x51 : F51.FT) : FT := fun (ours, theirs, field, l) =>
    bif decide ((0 : Nat) + l.length ≤ l.length) && true then
      (x49 (List.take l.length l)).bind fun r0 =>
       (x50 (ours, theirs)).bind fun r1 =>
       bif decide ((0 : Nat) + l.length ≤ l.length) && true then
       (x51 (List.take l.length l)).bind fun r2 =>
       bif r2.fst.snd then some ((r1.fst.fst, r1.fst.snd, true, r0.fst, r2.fst.fst), PUnit.unit)
       else some ((r1.fst.fst, r1.fst.snd, false, r0.fst, IntKind.u32.wrap field), PUnit.unit)
       else none
    else none
theorem fe (x49 : F49.FT) (x50 : F50.FT) (x51 : F51.FT) (d : Int × Int × Int × (List (Int × List (Int)))) : bodyF (tabC Tryd.prog (tab x49 x50 x51) ((8, .none) :: pls x49 x50 x51) 100 14) 100 8 i o d = fP x49 x50 x51 d := by kernel_rfl
noncomputable def f : FT := fP F49.f F50.f F51.f
def plan : Plan := .none
theorem planOk : PlanOk Tryd.prog (plan) (bodyOf Tryd.prog 8) := (planOk_of (plan) _ [] (by kernel_rfl) trivial)
theorem meets : MeetsF Tryd.prog 8 ⟨i, o, f⟩ :=
  funcT (fuel := 100) (depth := 14) (pl := (8, plan) :: pls F49.f F50.f F51.f) mixed tabS ⟨planOk, plsP⟩ (fun d =>  fe F49.f F50.f F51.f d)
theorem spec : SpecOk Tryd.prog (fun _ => none) 8 (specF ⟨i, o, f⟩) := specF_ok (by kernel_rfl) meets
end Go.Proofs.YtpfbpcaehmhefaaDoorB.F8

/- What comes of function 52 of this program, consulate.consulateref13.Agreed, as the engine gives it. -/
namespace Go.Proofs.YtpfbpcaehmhefaaDoorB.F52
open Go Go.Proofs Go.Proofs.YtpfbpcaehmhefaaDoor Go.RowKit Go.Proofs.YtpfbpcaehmhefaaDoorB.Sx
set_option linter.unusedVariables false
set_option maxRecDepth 100000
def tab : List (FuncId × Sx.Spec) := []
def pls : List (FuncId × Plan) := []
@[reducible] def i : Sh := .sc (.int .i64) (.sc (.int .i64) .nil)
@[reducible] def o : Sh := .sc (.int .i64) (.sc (.int .i64) .nil)
abbrev FT := (Int × Int) → Option ((Int × Int) × Unit)
theorem tabS : AllS Tryd.prog (tab) := trivial
theorem plsP : AllP Tryd.prog (pls) := trivial
theorem mixed : Tryd.prog.follows .mixedOrders = true := by kernel_rfl
def fP : FT := fun (ours, theirs) =>
    bif decide (theirs < ours) then
      bif decide (theirs ≤ (0 : Int)) then some (((0 : Int), (0 : Int)), PUnit.unit)
      else
       bif decide (theirs < (3 : Int)) then some ((theirs, (1 : Int)), PUnit.unit)
       else some ((theirs, IntKind.i64.wrap (theirs.tdiv (3 : Int))), PUnit.unit)
    else
      bif decide (ours ≤ (0 : Int)) then some (((0 : Int), (0 : Int)), PUnit.unit)
      else
       bif decide (ours < (3 : Int)) then some ((ours, (1 : Int)), PUnit.unit)
       else some ((ours, IntKind.i64.wrap (ours.tdiv (3 : Int))), PUnit.unit)
theorem fe (d : Int × Int) : bodyF (tabC Tryd.prog (tab) ((52, .none) :: pls) 100 14) 100 52 i o d = fP d := by kernel_rfl
noncomputable def f : FT := fP
def plan : Plan := .none
theorem planOk : PlanOk Tryd.prog (plan) (bodyOf Tryd.prog 52) := (planOk_of (plan) _ [] (by kernel_rfl) trivial)
theorem meets : MeetsF Tryd.prog 52 ⟨i, o, f⟩ :=
  funcT (fuel := 100) (depth := 14) (pl := (52, plan) :: pls) mixed tabS ⟨planOk, plsP⟩ (fun d =>  fe  d)
theorem spec : SpecOk Tryd.prog (fun _ => none) 52 (specF ⟨i, o, f⟩) := specF_ok (by kernel_rfl) meets
end Go.Proofs.YtpfbpcaehmhefaaDoorB.F52

/- What comes of function 53 of this program, consulate.consulateref05.Refreshes, as the engine gives it. -/
namespace Go.Proofs.YtpfbpcaehmhefaaDoorB.F53
open Go Go.Proofs Go.Proofs.YtpfbpcaehmhefaaDoor Go.RowKit Go.Proofs.YtpfbpcaehmhefaaDoorB.Sx
set_option linter.unusedVariables false
set_option maxRecDepth 100000
def tab : List (FuncId × Sx.Spec) := []
def pls : List (FuncId × Plan) := []
@[reducible] def k1 : Sh := .sl false 30 (.sc (.int .u8) (.sl false 5 (.sc (.int .u8) .nil) .nil)) .nil
@[reducible] def i1 : Sh := .sc (.int .i64) .nil
@[reducible] def o1 : Sh := .sc (.int .i64) (.sc .bool .nil)
abbrev G1 := ((List (Int × List (Int)))) → Int → Option ((Int × Bool) × Unit)
def u1 (F : G1) : Un := ⟨25, [0], k1, [3], i1, [2], o1, [0], [(.exit 0, [false]), (.ret, [true])], F⟩
@[reducible] def i : Sh := .sl false 30 (.sc (.int .u8) (.sl false 5 (.sc (.int .u8) .nil) .nil)) .nil
@[reducible] def o : Sh := .sc .bool .nil
abbrev FT := ((List (Int × List (Int)))) → Option (Bool × Unit)
theorem tabS : AllS Tryd.prog (tab) := trivial
theorem plsP : AllP Tryd.prog (pls) := trivial
theorem mixed : Tryd.prog.follows .mixedOrders = true := by kernel_rfl
def r1P : ((List (Int × List (Int)))) → Int → Option (Int ⊕ ((Int × Bool) × Unit)) := fun l i_2 =>
    bif decide (i_2 < (↑l.length : Int)) then
      bif decide ((0 : Int) ≤ i_2 ∧ i_2 < (↑l.length : Int) ∧ (0 : Nat) < l.length) then
       bif decide ((0 : Nat) + i_2.toNat < l.length) then
       bif (l.getD ((0 : Nat) + i_2.toNat) ((0 : Int), [])).fst == (2 : Int) then
       bif decide ((0 : Int) ≤ i_2 ∧ i_2 < (↑l.length : Int) ∧ (0 : Nat) < l.length) then
       bif decide ((0 : Nat) + i_2.toNat < l.length) then
       bif (↑(List.length (l.getD ((0 : Nat) + i_2.toNat) ((0 : Int), [])).snd) : Int) == (0 : Int) then
       some (Sum.inr (((1 : Int), true), PUnit.unit))
       else some (Sum.inl (IntKind.i64.wrap (i_2 + (1 : Int))))
       else none
       else none
       else some (Sum.inl (IntKind.i64.wrap (i_2 + (1 : Int))))
       else none
      else none
    else some (Sum.inr (((0 : Int), false), PUnit.unit))
theorem r1e (kd : (List (Int × List (Int)))) (d : Int) : roundF (tabC Tryd.prog (tab) (pls) 100 14) 100 .none (u1 fun _ _ => none) (codeAt [1, 0, 1, 0, 0] (bodyOf Tryd.prog 53)) kd d = r1P kd d := by kernel_rfl
noncomputable def r1 : ((List (Int × List (Int)))) → Int → Option (Int ⊕ ((Int × Bool) × Unit)) := r1P
noncomputable def l1 : G1 := fun kd d => iterO (r1 kd) d
theorem ok1 : UnOk Tryd.prog (u1 l1) (codeAt [1, 0, 1, 0] (bodyOf Tryd.prog 53)) :=
  loopT (p := .none) (c := codeAt [1, 0, 1, 0, 0] (bodyOf Tryd.prog 53)) (fuel := 100) (depth := 14) mixed tabS plsP (by kernel_rfl) trivial (by kernel_rfl) (fun kd d => r1e  kd d) rfl
def fP (l1 : G1) : FT := fun l =>
    bif decide ((0 : Nat) + l.length ≤ l.length) && true then
      (l1 (List.take l.length l) (OfNat.ofNat (0 : Nat))).bind fun r0 =>
       bif decide (r0.fst.fst = (0 : Int)) then some (false, PUnit.unit)
       else bif decide (r0.fst.fst = (1 : Int)) then some (r0.fst.snd, PUnit.unit) else none
    else none
theorem fe (l1 : G1) (d : (List (Int × List (Int)))) : bodyF (tabC Tryd.prog (tab) ((53, (.node .none (.node (.node .none (.node (.unit (u1 l1)) .none)) .none))) :: pls) 100 14) 100 53 i o d = fP l1 d := by kernel_rfl
noncomputable def f : FT := fP l1
def plan (l1 : G1) : Plan := (.node .none (.node (.node .none (.node (.unit (u1 l1)) .none)) .none))
theorem planOk : PlanOk Tryd.prog (plan l1) (bodyOf Tryd.prog 53) := (planOk_of (plan l1) _ [([1, 0, 1, 0], u1 l1)] rfl ⟨ok1, trivial⟩)
theorem meets : MeetsF Tryd.prog 53 ⟨i, o, f⟩ :=
  funcT (fuel := 100) (depth := 14) (pl := (53, plan l1) :: pls) mixed tabS ⟨planOk, plsP⟩ (fun d =>  fe l1 d)
theorem spec : SpecOk Tryd.prog (fun _ => none) 53 (specF ⟨i, o, f⟩) := specF_ok (by kernel_rfl) meets
end Go.Proofs.YtpfbpcaehmhefaaDoorB.F53

/- What comes of function 54 of this program, consulate.consulateref05.Number, as the engine gives it. -/
namespace Go.Proofs.YtpfbpcaehmhefaaDoorB.F54
open Go Go.Proofs Go.Proofs.YtpfbpcaehmhefaaDoor Go.RowKit Go.Proofs.YtpfbpcaehmhefaaDoorB.Sx
set_option linter.unusedVariables false
set_option maxRecDepth 100000
def tab : List (FuncId × Sx.Spec) := []
def pls : List (FuncId × Plan) := []
@[reducible] def k1 : Sh := .sl false 30 (.sc (.int .u8) (.sl false 5 (.sc (.int .u8) .nil) .nil)) .nil
@[reducible] def i1 : Sh := .sc (.int .i64) .nil
@[reducible] def o1 : Sh := .sc (.int .i64) (.sc (.int .u32) (.sc .bool .nil))
abbrev G1 := ((List (Int × List (Int)))) → Int → Option ((Int × Int × Bool) × Unit)
def u1 (F : G1) : Un := ⟨50, [0], k1, [4], i1, [2, 3], o1, [0], [(.exit 0, [false, false]), (.ret, [true, true])], F⟩
@[reducible] def i : Sh := .sl false 30 (.sc (.int .u8) (.sl false 5 (.sc (.int .u8) .nil) .nil)) .nil
@[reducible] def o : Sh := .sc (.int .u32) (.sc .bool .nil)
abbrev FT := ((List (Int × List (Int)))) → Option ((Int × Bool) × Unit)
theorem tabS : AllS Tryd.prog (tab) := trivial
theorem plsP : AllP Tryd.prog (pls) := trivial
theorem mixed : Tryd.prog.follows .mixedOrders = true := by kernel_rfl
def r1P : ((List (Int × List (Int)))) → Int → Option (Int ⊕ ((Int × Int × Bool) × Unit)) := fun l i_2 =>
    bif decide (i_2 < (↑l.length : Int)) then
      bif decide ((0 : Int) ≤ i_2 ∧ i_2 < (↑l.length : Int) ∧ (0 : Nat) < l.length) then
       bif decide ((0 : Nat) + i_2.toNat < l.length) then
       bif decide ((0 : Int) ≤ i_2 ∧ i_2 < (↑l.length : Int) ∧ (0 : Nat) < l.length) then
       bif decide ((0 : Nat) + i_2.toNat < l.length) then
       bif (l.getD ((0 : Nat) + i_2.toNat) ((0 : Int), [])).fst == (65 : Int) then
       bif (↑(List.length (l.getD ((0 : Nat) + i_2.toNat) ((0 : Int), [])).snd) : Int) == (4 : Int) then
       bif
       decide
       ((0 : Int) ≤ (0 : Int) ∧
       (0 : Int) < (↑(List.length (l.getD ((0 : Nat) + i_2.toNat) ((0 : Int), [])).snd) : Int) ∧
       (0 : Nat) < List.length (l.getD ((0 : Nat) + i_2.toNat) ((0 : Int), [])).snd) then
       bif decide ((0 : Nat) < List.length (l.getD ((0 : Nat) + i_2.toNat) ((0 : Int), [])).snd) then
       bif
       decide
       ((0 : Int) ≤ (1 : Int) ∧
       (1 : Int) < (↑(List.length (l.getD ((0 : Nat) + i_2.toNat) ((0 : Int), [])).snd) : Int) ∧
       (0 : Nat) < List.length (l.getD ((0 : Nat) + i_2.toNat) ((0 : Int), [])).snd) then
       bif decide ((1 : Nat) < List.length (l.getD ((0 : Nat) + i_2.toNat) ((0 : Int), [])).snd) then
       bif
       decide
       ((0 : Int) ≤ (2 : Int) ∧
       (2 : Int) <
       (↑(List.length (l.getD ((0 : Nat) + i_2.toNat) ((0 : Int), [])).snd) : Int) ∧
       (0 : Nat) < List.length (l.getD ((0 : Nat) + i_2.toNat) ((0 : Int), [])).snd) then
       bif decide ((2 : Nat) < List.length (l.getD ((0 : Nat) + i_2.toNat) ((0 : Int), [])).snd) then
       bif
       decide
       ((0 : Int) ≤ (3 : Int) ∧
       (3 : Int) <
       (↑(List.length (l.getD ((0 : Nat) + i_2.toNat) ((0 : Int), [])).snd) : Int) ∧
       (0 : Nat) < List.length (l.getD ((0 : Nat) + i_2.toNat) ((0 : Int), [])).snd) then
       bif
       decide
       ((3 : Nat) < List.length (l.getD ((0 : Nat) + i_2.toNat) ((0 : Int), [])).snd) then
       some
       (Sum.inr
       (((1 : Int),
       IntKind.u32.wrap
       (IntKind.u32.wrap
       (IntKind.u32.wrap
       (IntKind.u32.wrap
       (IntKind.u32.wrap
       (List.getD
       (l.getD ((0 : Nat) + i_2.toNat) ((0 : Int), [])).snd
       (0 : Nat) (0 : Int)) *
       (16777216 : Int)) +
       IntKind.u32.wrap
       (IntKind.u32.wrap
       (List.getD
       (l.getD ((0 : Nat) + i_2.toNat) ((0 : Int), [])).snd
       (1 : Nat) (0 : Int)) *
       (65536 : Int))) +
       IntKind.u32.wrap
       (IntKind.u32.wrap
       (List.getD (l.getD ((0 : Nat) + i_2.toNat) ((0 : Int), [])).snd
       (2 : Nat) (0 : Int)) *
       (256 : Int))) +
       IntKind.u32.wrap
       (List.getD (l.getD ((0 : Nat) + i_2.toNat) ((0 : Int), [])).snd (3 : Nat)
       (0 : Int))),
       true),
       PUnit.unit))
       else none
       else none
       else none
       else none
       else none
       else none
       else none
       else none
       else some (Sum.inl (IntKind.i64.wrap (i_2 + (1 : Int))))
       else some (Sum.inl (IntKind.i64.wrap (i_2 + (1 : Int))))
       else none
       else none
       else none
      else none
    else some (Sum.inr (((0 : Int), (0 : Int), false), PUnit.unit))
theorem r1e (kd : (List (Int × List (Int)))) (d : Int) : roundF (tabC Tryd.prog (tab) (pls) 100 14) 100 .none (u1 fun _ _ => none) (codeAt [1, 0, 1, 0, 0] (bodyOf Tryd.prog 54)) kd d = r1P kd d := by kernel_rfl
noncomputable def r1 : ((List (Int × List (Int)))) → Int → Option (Int ⊕ ((Int × Int × Bool) × Unit)) := r1P
noncomputable def l1 : G1 := fun kd d => iterO (r1 kd) d
theorem ok1 : UnOk Tryd.prog (u1 l1) (codeAt [1, 0, 1, 0] (bodyOf Tryd.prog 54)) :=
  loopT (p := .none) (c := codeAt [1, 0, 1, 0, 0] (bodyOf Tryd.prog 54)) (fuel := 100) (depth := 14) mixed tabS plsP (by kernel_rfl) trivial (by kernel_rfl) (fun kd d => r1e  kd d) rfl
def fP (l1 : G1) : FT := fun l =>
    bif decide ((0 : Nat) + l.length ≤ l.length) && true then
      (l1 (List.take l.length l) (OfNat.ofNat (0 : Nat))).bind fun r0 =>
       bif decide (r0.fst.fst = (0 : Int)) then some (((0 : Int), false), PUnit.unit)
       else bif decide (r0.fst.fst = (1 : Int)) then some ((r0.fst.snd.fst, r0.fst.snd.snd), PUnit.unit) else none
    else none
theorem fe (l1 : G1) (d : (List (Int × List (Int)))) : bodyF (tabC Tryd.prog (tab) ((54, (.node .none (.node (.node .none (.node (.unit (u1 l1)) .none)) .none))) :: pls) 100 14) 100 54 i o d = fP l1 d := by kernel_rfl
noncomputable def f : FT := fP l1
def plan (l1 : G1) : Plan := (.node .none (.node (.node .none (.node (.unit (u1 l1)) .none)) .none))
theorem planOk : PlanOk Tryd.prog (plan l1) (bodyOf Tryd.prog 54) := (planOk_of (plan l1) _ [([1, 0, 1, 0], u1 l1)] rfl ⟨ok1, trivial⟩)
theorem meets : MeetsF Tryd.prog 54 ⟨i, o, f⟩ :=
  funcT (fuel := 100) (depth := 14) (pl := (54, plan l1) :: pls) mixed tabS ⟨planOk, plsP⟩ (fun d =>  fe l1 d)
theorem spec : SpecOk Tryd.prog (fun _ => none) 54 (specF ⟨i, o, f⟩) := specF_ok (by kernel_rfl) meets
end Go.Proofs.YtpfbpcaehmhefaaDoorB.F54

/- What comes of function 9 of this program, consulate.consulateref15.Agree, as the engine gives it. -/
namespace Go.Proofs.YtpfbpcaehmhefaaDoorB.F9
open Go Go.Proofs Go.Proofs.YtpfbpcaehmhefaaDoor Go.RowKit Go.Proofs.YtpfbpcaehmhefaaDoorB.Sx
set_option linter.unusedVariables false
set_option maxRecDepth 100000
def tab (x52 : F52.FT) (x53 : F53.FT) (x54 : F54.FT) : List (FuncId × Sx.Spec) := [(52, specF ⟨F52.i, F52.o, x52⟩), (53, specF ⟨F53.i, F53.o, x53⟩), (54, specF ⟨F54.i, F54.o, x54⟩)]
def pls (x52 : F52.FT) (x53 : F53.FT) (x54 : F54.FT) : List (FuncId × Plan) := []
@[reducible] def i : Sh := .sc (.int .i64) (.sc (.int .i64) (.sc (.int .u16) (.sl false 30 (.sc (.int .u8) (.sl false 5 (.sc (.int .u8) .nil) .nil)) .nil)))
@[reducible] def o : Sh := .ag none (.sc (.int .i64) (.sc (.int .i64) (.sc .bool (.sc .bool (.sc (.int .u32) .nil))))) .nil
abbrev FT := (Int × Int × Int × (List (Int × List (Int)))) → Option (((Int × Int × Bool × Bool × Int)) × Unit)
theorem tabS : AllS Tryd.prog (tab F52.f F53.f F54.f) := ⟨F52.spec, F53.spec, F54.spec, trivial⟩
theorem plsP : AllP Tryd.prog (pls F52.f F53.f F54.f) := trivial
theorem mixed : Tryd.prog.follows .mixedOrders = true := by kernel_rfl
def fP (x52 : F52.FT) (x53 : F53.FT) (x54 : F54.FT) : FT := fun (ours, theirs, field, l) =>
    (x52 (ours, theirs)).bind fun r0 =>
      bif decide ((0 : Nat) + l.length ≤ l.length) && true then
       (x53 (List.take l.length l)).bind fun r1 =>
       bif decide ((0 : Nat) + l.length ≤ l.length) && true then
       (x54 (List.take l.length l)).bind fun r2 =>
       bif r2.fst.snd then some ((r0.fst.fst, r0.fst.snd, true, r1.fst, r2.fst.fst), PUnit.unit)
       else some ((r0.fst.fst, r0.fst.snd, false, r1.fst, IntKind.u32.wrap field), PUnit.unit)
       else none
      else none
theorem fe (x52 : F52.FT) (x53 : F53.FT) (x54 : F54.FT) (d : Int × Int × Int × (List (Int × List (Int)))) : bodyF (tabC Tryd.prog (tab x52 x53 x54) ((9, .none) :: pls x52 x53 x54) 100 14) 100 9 i o d = fP x52 x53 x54 d := by kernel_rfl
noncomputable def f : FT := fP F52.f F53.f F54.f
def plan : Plan := .none
theorem planOk : PlanOk Tryd.prog (plan) (bodyOf Tryd.prog 9) := (planOk_of (plan) _ [] (by kernel_rfl) trivial)
theorem meets : MeetsF Tryd.prog 9 ⟨i, o, f⟩ :=
  funcT (fuel := 100) (depth := 14) (pl := (9, plan) :: pls F52.f F53.f F54.f) mixed tabS ⟨planOk, plsP⟩ (fun d =>  fe F52.f F53.f F54.f d)
theorem spec : SpecOk Tryd.prog (fun _ => none) 9 (specF ⟨i, o, f⟩) := specF_ok (by kernel_rfl) meets
end Go.Proofs.YtpfbpcaehmhefaaDoorB.F9

/- What stands on its own: function 10 says true. -/
namespace Go.Proofs.YtpfbpcaehmhefaaDoorB.KA
open Go Go.Proofs Go.Proofs.YtpfbpcaehmhefaaDoor Go.RowKit Go.Proofs.YtpfbpcaehmhefaaDoorB.Sx
theorem mixed : Tryd.prog.follows .mixedOrders = true := by kernel_rfl
theorem tells (W : World) (hW : GlobW W) : Calls Tryd.prog 10 #[] W (Law.Told W) :=
  closed_law (C := tower (base Tryd.prog) [] 100 12) (tower_ok (base_ok _) (noPlans _ rfl) mixed (fun _ _ h => by cases h) 12) rfl (by kernel_rfl) W hW
end Go.Proofs.YtpfbpcaehmhefaaDoorB.KA

/- What comes of function 3 of this program, consulate.consulatelaw15.PeerAgrees, as the engine gives it. -/
namespace Go.Proofs.YtpfbpcaehmhefaaDoorB.F3
open Go Go.Proofs Go.Proofs.YtpfbpcaehmhefaaDoor Go.RowKit Go.Proofs.YtpfbpcaehmhefaaDoorB.Sx
set_option linter.unusedVariables false
set_option maxRecDepth 100000
def tab (x8 : F8.FT) (x9 : F9.FT) : List (FuncId × Sx.Spec) := [(8, specF ⟨F8.i, F8.o, x8⟩), (9, specF ⟨F9.i, F9.o, x9⟩), (10, pureS saysS)]
def pls (x8 : F8.FT) (x9 : F9.FT) : List (FuncId × Plan) := []
@[reducible] def k1 : Sh := .sl false 29 (.sc (.int .u8) (.sl false 5 (.sc (.int .u8) .nil) .nil)) (.sc (.int .i64) .nil)
@[reducible] def i1 : Sh := .sl true 29 (.sc (.int .u8) (.sl false 5 (.sc (.int .u8) .nil) .nil)) (.sl true 30 (.sc (.int .u8) (.sl false 5 (.sc (.int .u8) .nil) .nil)) (.sc (.int .i64) .nil))
@[reducible] def o1 : Sh := .sl true 29 (.sc (.int .u8) (.sl false 5 (.sc (.int .u8) .nil) .nil)) (.sl true 30 (.sc (.int .u8) (.sl false 5 (.sc (.int .u8) .nil) .nil)) .nil)
abbrev G1 := ((List (Int × List (Int))) × Int) → ((List (Int × List (Int))) × (List (Int × List (Int))) × Int) → Option (((List (Int × List (Int))) × (List (Int × List (Int)))) × Unit)
def u1 (F : G1) : Un := ⟨88, [12, 13], k1, [5, 6, 14], i1, [5, 6], o1, [0, 3, 12, 13], [(.exit 0, [true, true])], F⟩
@[reducible] def i : Sh := .sc (.int .i64) (.ag none (.sc (.int .i64) (.sc (.int .u16) (.sl false 29 (.sc (.int .u8) (.sl false 5 (.sc (.int .u8) .nil) .nil)) .nil))) .nil)
@[reducible] def o : Sh := .sc .bool .nil
abbrev FT := (Int × (Int × Int × (List (Int × List (Int))))) → Option (Bool × Unit)
theorem tabS : AllS Tryd.prog (tab F8.f F9.f) := ⟨F8.spec, F9.spec, says_ok (by kernel_rfl) KA.tells, trivial⟩
theorem plsP : AllP Tryd.prog (pls F8.f F9.f) := trivial
theorem mixed : Tryd.prog.follows .mixedOrders = true := by kernel_rfl
def r1P (x8 : F8.FT) (x9 : F9.FT) : ((List (Int × List (Int))) × Int) → ((List (Int × List (Int))) × (List (Int × List (Int))) × Int) → Option (((List (Int × List (Int))) × (List (Int × List (Int))) × Int) ⊕ (((List (Int × List (Int))) × (List (Int × List (Int)))) × Unit)) := fun (t12, t13) (l, w, t14) =>
    bif decide (t14 < t13) then
      bif decide ((0 : Int) ≤ t14 ∧ t14 < (↑t12.length : Int) ∧ (0 : Nat) < t12.length) then
       bif decide ((0 : Nat) + t14.toNat < t12.length) then
       bif decide (t14 < (20 : Int)) then
       bif
       decide
       ((0 : Int) ≤
       (some
       (if
       (60 : Int) <
       (↑(List.length (t12.getD ((0 : Nat) + t14.toNat) ((0 : Int), [])).snd) : Int) then
       (60 : Int)
       else (↑(List.length (t12.getD ((0 : Nat) + t14.toNat) ((0 : Int), [])).snd) : Int))).getD
       (↑(List.length (t12.getD ((0 : Nat) + t14.toNat) ((0 : Int), [])).snd) : Int) ∧
       (some
       (if
       (60 : Int) <
       (↑(List.length (t12.getD ((0 : Nat) + t14.toNat) ((0 : Int), [])).snd) : Int) then
       (60 : Int)
       else (↑(List.length (t12.getD ((0 : Nat) + t14.toNat) ((0 : Int), [])).snd) : Int))).getD
       (↑(List.length (t12.getD ((0 : Nat) + t14.toNat) ((0 : Int), [])).snd) : Int) ≤
       (↑(List.length (t12.getD ((0 : Nat) + t14.toNat) ((0 : Int), [])).snd) : Int) ∧
       (0 : Nat) + List.length (t12.getD ((0 : Nat) + t14.toNat) ((0 : Int), [])).snd ≤
       List.length (t12.getD ((0 : Nat) + t14.toNat) ((0 : Int), [])).snd) then
       bif decide (l.length + (2 : Nat) / OfNat.ofNat (2 : Nat) ≤ (1073741824 : Nat)) then
       bif decide ((0 : Nat) + l.length ≤ l.length) then
       bif
       decide
       ((0 : Nat) +
       ((some
       (if
       (60 : Int) <
       (↑(List.length (t12.getD ((0 : Nat) + t14.toNat) ((0 : Int), [])).snd) :
       Int) then
       (60 : Int)
       else
       (↑(List.length (t12.getD ((0 : Nat) + t14.toNat) ((0 : Int), [])).snd) :
       Int))).getD
       (↑(List.length (t12.getD ((0 : Nat) + t14.toNat) ((0 : Int), [])).snd) : Int)).toNat ≤
       List.length (t12.getD ((0 : Nat) + t14.toNat) ((0 : Int), [])).snd) &&
       true then
       bif decide (w.length + (2 : Nat) / OfNat.ofNat (2 : Nat) ≤ (1073741824 : Nat)) then
       bif decide ((0 : Nat) + w.length ≤ w.length) then
       bif
       decide
       ((0 : Nat) +
       ((some
       (if
       (60 : Int) <
       (↑(List.length (t12.getD ((0 : Nat) + t14.toNat) ((0 : Int), [])).snd) :
       Int) then
       (60 : Int)
       else
       (↑(List.length (t12.getD ((0 : Nat) + t14.toNat) ((0 : Int), [])).snd) :
       Int))).getD
       (↑(List.length (t12.getD ((0 : Nat) + t14.toNat) ((0 : Int), [])).snd) :
       Int)).toNat ≤
       List.length (t12.getD ((0 : Nat) + t14.toNat) ((0 : Int), [])).snd) &&
       true then
       bif
       decide
       ((0 : Nat) + (l.length + (2 : Nat) / OfNat.ofNat (2 : Nat)) ≤
       (List.take l.length l ++
       [((t12.getD ((0 : Nat) + t14.toNat) ((0 : Int), [])).fst,
       List.take
       ((some
       (if
       (60 : Int) <
       (↑(List.length
       (t12.getD ((0 : Nat) + t14.toNat)
       ((0 : Int), [])).snd) :
       Int) then
       (60 : Int)
       else
       (↑(List.length
       (t12.getD ((0 : Nat) + t14.toNat) ((0 : Int), [])).snd) :
       Int))).getD
       (↑(List.length (t12.getD ((0 : Nat) + t14.toNat) ((0 : Int), [])).snd) :
       Int)).toNat
       (List.drop (0 : Nat)
       (t12.getD ((0 : Nat) + t14.toNat) ((0 : Int), [])).snd))]).length) &&
       true then
       bif
       decide
       ((0 : Nat) + (w.length + (2 : Nat) / OfNat.ofNat (2 : Nat)) ≤
       (List.take w.length w ++
       [((t12.getD ((0 : Nat) + t14.toNat) ((0 : Int), [])).fst,
       List.take
       ((some
       (if
       (60 : Int) <
       (↑(List.length
       (t12.getD ((0 : Nat) + t14.toNat)
       ((0 : Int), [])).snd) :
       Int) then
       (60 : Int)
       else
       (↑(List.length
       (t12.getD ((0 : Nat) + t14.toNat) ((0 : Int), [])).snd) :
       Int))).getD
       (↑(List.length
       (t12.getD ((0 : Nat) + t14.toNat) ((0 : Int), [])).snd) :
       Int)).toNat
       (List.drop (0 : Nat)
       (t12.getD ((0 : Nat) + t14.toNat) ((0 : Int), [])).snd))]).length) &&
       true then
       some
       (Sum.inl
       (List.take (l.length + (2 : Nat) / OfNat.ofNat (2 : Nat))
       (List.drop (0 : Nat)
       (List.take l.length l ++
       [((t12.getD ((0 : Nat) + t14.toNat) ((0 : Int), [])).fst,
       List.take
       ((some
       (if
       (60 : Int) <
       (↑(List.length
       (t12.getD ((0 : Nat) + t14.toNat)
       ((0 : Int), [])).snd) :
       Int) then
       (60 : Int)
       else
       (↑(List.length
       (t12.getD ((0 : Nat) + t14.toNat) ((0 : Int), [])).snd) :
       Int))).getD
       (↑(List.length
       (t12.getD ((0 : Nat) + t14.toNat) ((0 : Int), [])).snd) :
       Int)).toNat
       (List.drop (0 : Nat)
       (t12.getD ((0 : Nat) + t14.toNat) ((0 : Int), [])).snd))])),
       List.take (w.length + (2 : Nat) / OfNat.ofNat (2 : Nat))
       (List.drop (0 : Nat)
       (List.take w.length w ++
       [((t12.getD ((0 : Nat) + t14.toNat) ((0 : Int), [])).fst,
       List.take
       ((some
       (if
       (60 : Int) <
       (↑(List.length
       (t12.getD ((0 : Nat) + t14.toNat)
       ((0 : Int), [])).snd) :
       Int) then
       (60 : Int)
       else
       (↑(List.length
       (t12.getD ((0 : Nat) + t14.toNat) ((0 : Int), [])).snd) :
       Int))).getD
       (↑(List.length
       (t12.getD ((0 : Nat) + t14.toNat) ((0 : Int), [])).snd) :
       Int)).toNat
       (List.drop (0 : Nat)
       (t12.getD ((0 : Nat) + t14.toNat) ((0 : Int), [])).snd))])),
       IntKind.i64.wrap (t14 + (1 : Int))))
       else none
       else none
       else none
       else none
       else none
       else none
       else none
       else none
       else none
       else
       bif decide ((0 : Nat) + l.length ≤ l.length) && true then
       bif decide ((0 : Nat) + w.length ≤ w.length) && true then
       some (Sum.inl (List.take l.length l, List.take w.length w, IntKind.i64.wrap (t14 + (1 : Int))))
       else none
       else none
       else none
      else none
    else
      bif decide ((0 : Nat) + l.length ≤ l.length) && true then
       bif decide ((0 : Nat) + w.length ≤ w.length) && true then
       some (Sum.inr ((List.take l.length l, List.take w.length w), PUnit.unit))
       else none
      else none
theorem r1e (x8 : F8.FT) (x9 : F9.FT) (kd : (List (Int × List (Int))) × Int) (d : (List (Int × List (Int))) × (List (Int × List (Int))) × Int) : roundF (tabC Tryd.prog (tab x8 x9) (pls x8 x9) 100 14) 100 .none (u1 fun _ _ => none) (codeAt [1, 1, 1, 0, 1, 0, 0] (bodyOf Tryd.prog 3)) kd d = r1P x8 x9 kd d := by kernel_rfl
noncomputable def r1 : ((List (Int × List (Int))) × Int) → ((List (Int × List (Int))) × (List (Int × List (Int))) × Int) → Option (((List (Int × List (Int))) × (List (Int × List (Int))) × Int) ⊕ (((List (Int × List (Int))) × (List (Int × List (Int)))) × Unit)) := r1P F8.f F9.f
noncomputable def l1 : G1 := fun kd d => iterO (r1 kd) d
theorem ok1 : UnOk Tryd.prog (u1 l1) (codeAt [1, 1, 1, 0, 1, 0] (bodyOf Tryd.prog 3)) :=
  loopT (p := .none) (c := codeAt [1, 1, 1, 0, 1, 0, 0] (bodyOf Tryd.prog 3)) (fuel := 100) (depth := 14) mixed tabS plsP (by kernel_rfl) trivial (by kernel_rfl) (fun kd d => r1e F8.f F9.f kd d) rfl
def fP (x8 : F8.FT) (x9 : F9.FT) (l1 : G1) : FT := fun (ours, (x0_2, x1_2, x2_2)) =>
    bif decide ((0 : Nat) + x2_2.length ≤ x2_2.length) && true then
      (l1 (List.take x2_2.length x2_2, (↑x2_2.length : Int)) ([], [], (0 : Int))).bind fun r0 =>
       bif decide ((0 : Nat) + r0.fst.fst.length ≤ r0.fst.fst.length) && true then
       (x8 (ours, x0_2, x1_2, List.take r0.fst.fst.length (List.drop (0 : Nat) r0.fst.fst))).bind fun r1 =>
       bif decide ((0 : Nat) + List.length r0.fst.snd ≤ List.length r0.fst.snd) && true then
       (x9 (ours, x0_2, x1_2, List.take (List.length r0.fst.snd) (List.drop (0 : Nat) r0.fst.snd))).bind fun r2 =>
       bif r1.fst.fst == r2.fst.fst then
       bif r1.fst.snd.fst == r2.fst.snd.fst then
       bif r1.fst.snd.snd.fst == r2.fst.snd.snd.fst then
       bif r1.fst.snd.snd.snd.fst == r2.fst.snd.snd.snd.fst then
       bif r1.fst.snd.snd.snd.snd == r2.fst.snd.snd.snd.snd then some (true, PUnit.unit)
       else some (false, PUnit.unit)
       else some (false, PUnit.unit)
       else some (false, PUnit.unit)
       else some (false, PUnit.unit)
       else some (false, PUnit.unit)
       else none
       else none
    else none
theorem fe (x8 : F8.FT) (x9 : F9.FT) (l1 : G1) (d : Int × (Int × Int × (List (Int × List (Int))))) : bodyF (tabC Tryd.prog (tab x8 x9) ((3, (.node .none (.node .none (.node .none (.node (.node .none (.node (.unit (u1 l1)) .none)) .none))))) :: pls x8 x9) 100 14) 100 3 i o d = fP x8 x9 l1 d := by kernel_rfl
noncomputable def f : FT := fP F8.f F9.f l1
def plan (l1 : G1) : Plan := (.node .none (.node .none (.node .none (.node (.node .none (.node (.unit (u1 l1)) .none)) .none))))
theorem planOk : PlanOk Tryd.prog (plan l1) (bodyOf Tryd.prog 3) := (planOk_of (plan l1) _ [([1, 1, 1, 0, 1, 0], u1 l1)] rfl ⟨ok1, trivial⟩)
theorem meets : MeetsF Tryd.prog 3 ⟨i, o, f⟩ :=
  funcT (fuel := 100) (depth := 14) (pl := (3, plan l1) :: pls F8.f F9.f) mixed tabS ⟨planOk, plsP⟩ (fun d =>  fe F8.f F9.f l1 d)
theorem spec : SpecOk Tryd.prog (fun _ => none) 3 (specF ⟨i, o, f⟩) := specF_ok (by kernel_rfl) meets
end Go.Proofs.YtpfbpcaehmhefaaDoorB.F3
