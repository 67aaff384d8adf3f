/- What comes of function 36 of this program, slices.Clone[[]byte,byte], as the engine gives it. -/
import Derived.Test.YtnmgbheaabdhlaaDoorChecked
import Derived.Test.YtnmgbheaabdhlaaDoorZO
import Derived.Test.YtnmgbheaabdhlaaDoorZP
import Derived.IntWalk
namespace Go.Proofs.YtnmgbheaabdhlaaDoor.F36
open Go Go.Proofs Go.Proofs.YtnmgbheaabdhlaaDoor Go.RowKit Go.Proofs.YtnmgbheaabdhlaaDoor.Sx
set_option linter.unusedVariables false
set_option maxRecDepth 100000
def tab : List (FuncId × Sx.Spec) := []
def pls : List (FuncId × Plan) := []
@[reducible] def i : Sh := .sl false 5 (.sc (.int .u8) .nil) .nil
@[reducible] def o : Sh := .sl true 5 (.sc (.int .u8) .nil) .nil
abbrev FT := List (Int) → Option (List (Int) × Unit)
theorem tabS : AllS Tryd.prog (tab) := trivial
theorem plsP : AllP Tryd.prog (pls) := trivial
theorem mixed : Tryd.prog.follows .mixedOrders = true := by kernel_rfl
def fP : FT := fun s =>
    bif decide (0 < s.length) then
      bif decide (0 + s.length ≤ s.length) then
       bif decide (0 + (List.take s.length s).length ≤ 1073741824) then
       bif decide (0 + (0 + (List.take s.length s).length) ≤ ([] ++ List.take s.length s).length) && true then
       some (List.take (0 + (List.take s.length s).length) (List.drop 0 ([] ++ List.take s.length s)), PUnit.unit)
       else none
       else none
      else none
    else none
theorem fe (d : List (Int)) : bodyF (tabC Tryd.prog (tab) ((36, .none) :: pls) 100 12) 100 36 i o d = fP d := by kernel_rfl
noncomputable def f : FT := fun d => if 0 < d.length then fP d else some ([], ())
def plan : Plan := .none
theorem planOk : PlanOk Tryd.prog (plan) (bodyOf Tryd.prog 36) := (planOk_of (plan) _ [] (by kernel_rfl) trivial)
theorem meets : MeetsF Tryd.prog 36 ⟨i, o, f⟩ :=
  sliceT (fuel := 100) (depth := 12) (pl := (36, plan) :: pls) (z := (show Den o from [])) mixed tabS ⟨planOk, plsP⟩ (fun (d : List (Int)) hd => (fe  d).trans (show fP d = f d from (if_pos (c := 0 < d.length) hd).symm)) (fun (d : List (Int)) h => (show f d = _ from if_neg (c := 0 < d.length) (by have h : d.length = 0 := h; omega))) (fun c => by kernel_rfl) (fun a c => by kernel_rfl)
theorem spec : SpecOk Tryd.prog (fun _ => none) 36 (specF ⟨i, o, f⟩) := specF_ok (by kernel_rfl) meets
end Go.Proofs.YtnmgbheaabdhlaaDoor.F36

/- What comes of function 27 of this program, consulate.scroll.New, as the engine gives it. -/
namespace Go.Proofs.YtnmgbheaabdhlaaDoor.F27
open Go Go.Proofs Go.Proofs.YtnmgbheaabdhlaaDoor Go.RowKit Go.Proofs.YtnmgbheaabdhlaaDoor.Sx
set_option linter.unusedVariables false
set_option maxRecDepth 100000
def tab (x36 : F36.FT) : List (FuncId × Sx.Spec) := [(36, specF ⟨F36.i, F36.o, x36⟩)]
def pls (x36 : F36.FT) : List (FuncId × Plan) := []
@[reducible] def i : Sh := .sl false 5 (.sc (.int .u8) .nil) .nil
@[reducible] def o : Sh := .pt true 83 (.sl true 5 (.sc (.int .u8) .nil) (.sc (.int .i64) (.sl true 3 (.sc (.int .i64) .nil) (.sc (.int .i64) .nil)))) .nil
abbrev FT := List (Int) → Option (((List (Int) × Int × List (Int) × Int)) × Unit)
theorem tabS : AllS Tryd.prog (tab F36.f) := ⟨F36.spec, trivial⟩
theorem plsP : AllP Tryd.prog (pls F36.f) := trivial
theorem mixed : Tryd.prog.follows .mixedOrders = true := by kernel_rfl
def fP (x36 : F36.FT) : FT := fun b =>
    bif decide (0 + b.length ≤ b.length) && true then
      (x36 (List.take b.length b)).bind fun r0 =>
       bif decide (0 + List.length r0.fst ≤ List.length r0.fst) && true then
       some ((List.take (List.length r0.fst) (List.drop 0 r0.fst), 0, [(↑b.length : Int)], 0), PUnit.unit)
       else none
    else none
theorem fe (x36 : F36.FT) (d : List (Int)) : bodyF (tabC Tryd.prog (tab x36) ((27, .none) :: pls x36) 100 12) 100 27 i o d = fP x36 d := by kernel_rfl
noncomputable def f : FT := fP F36.f
def plan : Plan := .none
theorem planOk : PlanOk Tryd.prog (plan) (bodyOf Tryd.prog 27) := (planOk_of (plan) _ [] (by kernel_rfl) trivial)
theorem meets : MeetsF Tryd.prog 27 ⟨i, o, f⟩ :=
  funcT (fuel := 100) (depth := 12) (pl := (27, plan) :: pls F36.f) mixed tabS ⟨planOk, plsP⟩ (fun d => fe F36.f d)
theorem spec : SpecOk Tryd.prog (fun _ => none) 27 (specF ⟨i, o, f⟩) := specF_ok (by kernel_rfl) meets
end Go.Proofs.YtnmgbheaabdhlaaDoor.F27

/- What comes of function 29 of this program, (*consulate.scroll.Reader).Take, as the engine gives it. -/
namespace Go.Proofs.YtnmgbheaabdhlaaDoor.F29
open Go Go.Proofs Go.Proofs.YtnmgbheaabdhlaaDoor Go.RowKit Go.Proofs.YtnmgbheaabdhlaaDoor.Sx
set_option linter.unusedVariables false
set_option maxRecDepth 100000
def tab (x36 : F36.FT) : List (FuncId × Sx.Spec) := [(36, specF ⟨F36.i, F36.o, x36⟩)]
def pls (x36 : F36.FT) : List (FuncId × Plan) := []
@[reducible] def i : Sh := .pt true 83 (.sl true 5 (.sc (.int .u8) .nil) (.sc (.int .i64) (.sl true 3 (.sc (.int .i64) .nil) (.sc (.int .i64) .nil)))) (.sc (.int .i64) .nil)
@[reducible] def o : Sh := .sl true 5 (.sc (.int .u8) .nil) .nil
abbrev FT := ((List (Int) × Int × List (Int) × Int) × Int) → Option (List (Int) × ((List (Int) × Int × List (Int) × Int)))
theorem tabS : AllS Tryd.prog (tab F36.f) := ⟨F36.spec, trivial⟩
theorem plsP : AllP Tryd.prog (pls F36.f) := trivial
theorem mixed : Tryd.prog.follows .mixedOrders = true := by kernel_rfl
def fP (x36 : F36.FT) : FT := fun ((r0_2, r1_2, r2_2, r3_2), n) =>
    bif decide (n < 0) then
      bif (↑r2_2.length : Int) == 0 then
       bif (↑r2_2.length : Int) == 0 then
       bif decide (0 + r0_2.length ≤ r0_2.length) && true then
       bif decide (0 + r2_2.length ≤ r2_2.length) && true then
       some ([], List.take r0_2.length r0_2, r1_2, List.take r2_2.length r2_2, r3_2)
       else none
       else none
       else
       bif !r3_2 == 0 then
       bif decide (0 + r0_2.length ≤ r0_2.length) && true then
       bif decide (0 + r2_2.length ≤ r2_2.length) && true then
       some ([], List.take r0_2.length r0_2, r1_2, List.take r2_2.length r2_2, r3_2)
       else none
       else none
       else
       bif
       decide
       (0 ≤ IntKind.i64.wrap (IntKind.i64.wrap (r1_2 + n) - n) ∧
       IntKind.i64.wrap (IntKind.i64.wrap (r1_2 + n) - n) ≤
       (some (IntKind.i64.wrap (r1_2 + n))).getD (↑r0_2.length : Int) ∧
       (some (IntKind.i64.wrap (r1_2 + n))).getD (↑r0_2.length : Int) ≤ (↑r0_2.length : Int) ∧
       0 + r0_2.length ≤ r0_2.length) then
       bif decide (IntKind.i64.wrap (IntKind.i64.wrap (r1_2 + n) - n) = (↑r0_2.length : Int)) then
       bif decide (0 ≤ 0 + r0_2.length ∧ 0 + r0_2.length ≤ r0_2.length) then
       (x36 []).bind fun r0 =>
       bif decide (0 + List.length r0.fst ≤ List.length r0.fst) && true then
       bif decide (0 + r0_2.length ≤ r0_2.length) && true then
       bif decide (0 + r2_2.length ≤ r2_2.length) && true then
       some
       (List.take (List.length r0.fst) (List.drop 0 r0.fst), List.take r0_2.length r0_2,
       IntKind.i64.wrap (r1_2 + n), List.take r2_2.length r2_2, r3_2)
       else none
       else none
       else none
       else none
       else
       bif
       decide
       (0 + (IntKind.i64.wrap (IntKind.i64.wrap (r1_2 + n) - n)).toNat +
       ((some (IntKind.i64.wrap (r1_2 + n))).getD (↑r0_2.length : Int) -
       IntKind.i64.wrap (IntKind.i64.wrap (r1_2 + n) - n)).toNat ≤
       r0_2.length) &&
       true then
       (x36
       (List.take
       ((some (IntKind.i64.wrap (r1_2 + n))).getD (↑r0_2.length : Int) -
       IntKind.i64.wrap (IntKind.i64.wrap (r1_2 + n) - n)).toNat
       (List.drop (0 + (IntKind.i64.wrap (IntKind.i64.wrap (r1_2 + n) - n)).toNat) r0_2))).bind
       fun r0 =>
       bif decide (0 + List.length r0.fst ≤ List.length r0.fst) && true then
       bif decide (0 + r0_2.length ≤ r0_2.length) && true then
       bif decide (0 + r2_2.length ≤ r2_2.length) && true then
       some
       (List.take (List.length r0.fst) (List.drop 0 r0.fst), List.take r0_2.length r0_2,
       IntKind.i64.wrap (r1_2 + n), List.take r2_2.length r2_2, r3_2)
       else none
       else none
       else none
       else none
       else none
      else
       bif r3_2 == 0 then
       bif (↑r2_2.length : Int) == 0 then
       bif decide (0 + r0_2.length ≤ r0_2.length) && true then
       bif decide (0 + r2_2.length ≤ r2_2.length) && true then
       some ([], List.take r0_2.length r0_2, r1_2, List.take r2_2.length r2_2, 4)
       else none
       else none
       else
       bif decide (0 + r0_2.length ≤ r0_2.length) && true then
       bif decide (0 + r2_2.length ≤ r2_2.length) && true then
       some ([], List.take r0_2.length r0_2, r1_2, List.take r2_2.length r2_2, 4)
       else none
       else none
       else
       bif (↑r2_2.length : Int) == 0 then
       bif decide (0 + r0_2.length ≤ r0_2.length) && true then
       bif decide (0 + r2_2.length ≤ r2_2.length) && true then
       some ([], List.take r0_2.length r0_2, r1_2, List.take r2_2.length r2_2, r3_2)
       else none
       else none
       else
       bif !r3_2 == 0 then
       bif decide (0 + r0_2.length ≤ r0_2.length) && true then
       bif decide (0 + r2_2.length ≤ r2_2.length) && true then
       some ([], List.take r0_2.length r0_2, r1_2, List.take r2_2.length r2_2, r3_2)
       else none
       else none
       else
       bif
       decide
       (0 ≤ IntKind.i64.wrap (IntKind.i64.wrap (r1_2 + n) - n) ∧
       IntKind.i64.wrap (IntKind.i64.wrap (r1_2 + n) - n) ≤
       (some (IntKind.i64.wrap (r1_2 + n))).getD (↑r0_2.length : Int) ∧
       (some (IntKind.i64.wrap (r1_2 + n))).getD (↑r0_2.length : Int) ≤ (↑r0_2.length : Int) ∧
       0 + r0_2.length ≤ r0_2.length) then
       bif decide (IntKind.i64.wrap (IntKind.i64.wrap (r1_2 + n) - n) = (↑r0_2.length : Int)) then
       bif decide (0 ≤ 0 + r0_2.length ∧ 0 + r0_2.length ≤ r0_2.length) then
       (x36 []).bind fun r0 =>
       bif decide (0 + List.length r0.fst ≤ List.length r0.fst) && true then
       bif decide (0 + r0_2.length ≤ r0_2.length) && true then
       bif decide (0 + r2_2.length ≤ r2_2.length) && true then
       some
       (List.take (List.length r0.fst) (List.drop 0 r0.fst), List.take r0_2.length r0_2,
       IntKind.i64.wrap (r1_2 + n), List.take r2_2.length r2_2, r3_2)
       else none
       else none
       else none
       else none
       else
       bif
       decide
       (0 + (IntKind.i64.wrap (IntKind.i64.wrap (r1_2 + n) - n)).toNat +
       ((some (IntKind.i64.wrap (r1_2 + n))).getD (↑r0_2.length : Int) -
       IntKind.i64.wrap (IntKind.i64.wrap (r1_2 + n) - n)).toNat ≤
       r0_2.length) &&
       true then
       (x36
       (List.take
       ((some (IntKind.i64.wrap (r1_2 + n))).getD (↑r0_2.length : Int) -
       IntKind.i64.wrap (IntKind.i64.wrap (r1_2 + n) - n)).toNat
       (List.drop (0 + (IntKind.i64.wrap (IntKind.i64.wrap (r1_2 + n) - n)).toNat) r0_2))).bind
       fun r0 =>
       bif decide (0 + List.length r0.fst ≤ List.length r0.fst) && true then
       bif decide (0 + r0_2.length ≤ r0_2.length) && true then
       bif decide (0 + r2_2.length ≤ r2_2.length) && true then
       some
       (List.take (List.length r0.fst) (List.drop 0 r0.fst), List.take r0_2.length r0_2,
       IntKind.i64.wrap (r1_2 + n), List.take r2_2.length r2_2, r3_2)
       else none
       else none
       else none
       else none
       else none
    else
      bif (↑r2_2.length : Int) == 0 then
       bif decide (n > 0) then
       bif (↑r2_2.length : Int) == 0 then
       bif (↑r2_2.length : Int) == 0 then
       bif decide (0 + r0_2.length ≤ r0_2.length) && true then
       bif decide (0 + r2_2.length ≤ r2_2.length) && true then
       some ([], List.take r0_2.length r0_2, r1_2, List.take r2_2.length r2_2, r3_2)
       else none
       else none
       else
       bif !r3_2 == 0 then
       bif decide (0 + r0_2.length ≤ r0_2.length) && true then
       bif decide (0 + r2_2.length ≤ r2_2.length) && true then
       some ([], List.take r0_2.length r0_2, r1_2, List.take r2_2.length r2_2, r3_2)
       else none
       else none
       else
       bif
       decide
       (0 ≤ IntKind.i64.wrap (IntKind.i64.wrap (r1_2 + n) - n) ∧
       IntKind.i64.wrap (IntKind.i64.wrap (r1_2 + n) - n) ≤
       (some (IntKind.i64.wrap (r1_2 + n))).getD (↑r0_2.length : Int) ∧
       (some (IntKind.i64.wrap (r1_2 + n))).getD (↑r0_2.length : Int) ≤ (↑r0_2.length : Int) ∧
       0 + r0_2.length ≤ r0_2.length) then
       bif decide (IntKind.i64.wrap (IntKind.i64.wrap (r1_2 + n) - n) = (↑r0_2.length : Int)) then
       bif decide (0 ≤ 0 + r0_2.length ∧ 0 + r0_2.length ≤ r0_2.length) then
       (x36 []).bind fun r0 =>
       bif decide (0 + List.length r0.fst ≤ List.length r0.fst) && true then
       bif decide (0 + r0_2.length ≤ r0_2.length) && true then
       bif decide (0 + r2_2.length ≤ r2_2.length) && true then
       some
       (List.take (List.length r0.fst) (List.drop 0 r0.fst), List.take r0_2.length r0_2,
       IntKind.i64.wrap (r1_2 + n), List.take r2_2.length r2_2, r3_2)
       else none
       else none
       else none
       else none
       else
       bif
       decide
       (0 + (IntKind.i64.wrap (IntKind.i64.wrap (r1_2 + n) - n)).toNat +
       ((some (IntKind.i64.wrap (r1_2 + n))).getD (↑r0_2.length : Int) -
       IntKind.i64.wrap (IntKind.i64.wrap (r1_2 + n) - n)).toNat ≤
       r0_2.length) &&
       true then
       (x36
       (List.take
       ((some (IntKind.i64.wrap (r1_2 + n))).getD (↑r0_2.length : Int) -
       IntKind.i64.wrap (IntKind.i64.wrap (r1_2 + n) - n)).toNat
       (List.drop (0 + (IntKind.i64.wrap (IntKind.i64.wrap (r1_2 + n) - n)).toNat) r0_2))).bind
       fun r0 =>
       bif decide (0 + List.length r0.fst ≤ List.length r0.fst) && true then
       bif decide (0 + r0_2.length ≤ r0_2.length) && true then
       bif decide (0 + r2_2.length ≤ r2_2.length) && true then
       some
       (List.take (List.length r0.fst) (List.drop 0 r0.fst), List.take r0_2.length r0_2,
       IntKind.i64.wrap (r1_2 + n), List.take r2_2.length r2_2, r3_2)
       else none
       else none
       else none
       else none
       else none
       else
       bif r3_2 == 0 then
       bif (↑r2_2.length : Int) == 0 then
       bif decide (0 + r0_2.length ≤ r0_2.length) && true then
       bif decide (0 + r2_2.length ≤ r2_2.length) && true then
       some ([], List.take r0_2.length r0_2, r1_2, List.take r2_2.length r2_2, 4)
       else none
       else none
       else
       bif decide (0 + r0_2.length ≤ r0_2.length) && true then
       bif decide (0 + r2_2.length ≤ r2_2.length) && true then
       some ([], List.take r0_2.length r0_2, r1_2, List.take r2_2.length r2_2, 4)
       else none
       else none
       else
       bif (↑r2_2.length : Int) == 0 then
       bif decide (0 + r0_2.length ≤ r0_2.length) && true then
       bif decide (0 + r2_2.length ≤ r2_2.length) && true then
       some ([], List.take r0_2.length r0_2, r1_2, List.take r2_2.length r2_2, r3_2)
       else none
       else none
       else
       bif !r3_2 == 0 then
       bif decide (0 + r0_2.length ≤ r0_2.length) && true then
       bif decide (0 + r2_2.length ≤ r2_2.length) && true then
       some ([], List.take r0_2.length r0_2, r1_2, List.take r2_2.length r2_2, r3_2)
       else none
       else none
       else
       bif
       decide
       (0 ≤ IntKind.i64.wrap (IntKind.i64.wrap (r1_2 + n) - n) ∧
       IntKind.i64.wrap (IntKind.i64.wrap (r1_2 + n) - n) ≤
       (some (IntKind.i64.wrap (r1_2 + n))).getD (↑r0_2.length : Int) ∧
       (some (IntKind.i64.wrap (r1_2 + n))).getD (↑r0_2.length : Int) ≤ (↑r0_2.length : Int) ∧
       0 + r0_2.length ≤ r0_2.length) then
       bif decide (IntKind.i64.wrap (IntKind.i64.wrap (r1_2 + n) - n) = (↑r0_2.length : Int)) then
       bif decide (0 ≤ 0 + r0_2.length ∧ 0 + r0_2.length ≤ r0_2.length) then
       (x36 []).bind fun r0 =>
       bif decide (0 + List.length r0.fst ≤ List.length r0.fst) && true then
       bif decide (0 + r0_2.length ≤ r0_2.length) && true then
       bif decide (0 + r2_2.length ≤ r2_2.length) && true then
       some
       (List.take (List.length r0.fst) (List.drop 0 r0.fst), List.take r0_2.length r0_2,
       IntKind.i64.wrap (r1_2 + n), List.take r2_2.length r2_2, r3_2)
       else none
       else none
       else none
       else none
       else
       bif
       decide
       (0 + (IntKind.i64.wrap (IntKind.i64.wrap (r1_2 + n) - n)).toNat +
       ((some (IntKind.i64.wrap (r1_2 + n))).getD (↑r0_2.length : Int) -
       IntKind.i64.wrap (IntKind.i64.wrap (r1_2 + n) - n)).toNat ≤
       r0_2.length) &&
       true then
       (x36
       (List.take
       ((some (IntKind.i64.wrap (r1_2 + n))).getD (↑r0_2.length : Int) -
       IntKind.i64.wrap (IntKind.i64.wrap (r1_2 + n) - n)).toNat
       (List.drop (0 + (IntKind.i64.wrap (IntKind.i64.wrap (r1_2 + n) - n)).toNat) r0_2))).bind
       fun r0 =>
       bif decide (0 + List.length r0.fst ≤ List.length r0.fst) && true then
       bif decide (0 + r0_2.length ≤ r0_2.length) && true then
       bif decide (0 + r2_2.length ≤ r2_2.length) && true then
       some
       (List.take (List.length r0.fst) (List.drop 0 r0.fst), List.take r0_2.length r0_2,
       IntKind.i64.wrap (r1_2 + n), List.take r2_2.length r2_2, r3_2)
       else none
       else none
       else none
       else none
       else none
       else
       bif (↑r2_2.length : Int) == 0 then
       bif decide (0 + r0_2.length ≤ r0_2.length) && true then
       bif decide (0 + r2_2.length ≤ r2_2.length) && true then
       some ([], List.take r0_2.length r0_2, r1_2, List.take r2_2.length r2_2, r3_2)
       else none
       else none
       else
       bif !r3_2 == 0 then
       bif decide (0 + r0_2.length ≤ r0_2.length) && true then
       bif decide (0 + r2_2.length ≤ r2_2.length) && true then
       some ([], List.take r0_2.length r0_2, r1_2, List.take r2_2.length r2_2, r3_2)
       else none
       else none
       else
       bif
       decide
       (0 ≤ IntKind.i64.wrap (IntKind.i64.wrap (r1_2 + n) - n) ∧
       IntKind.i64.wrap (IntKind.i64.wrap (r1_2 + n) - n) ≤
       (some (IntKind.i64.wrap (r1_2 + n))).getD (↑r0_2.length : Int) ∧
       (some (IntKind.i64.wrap (r1_2 + n))).getD (↑r0_2.length : Int) ≤ (↑r0_2.length : Int) ∧
       0 + r0_2.length ≤ r0_2.length) then
       bif decide (IntKind.i64.wrap (IntKind.i64.wrap (r1_2 + n) - n) = (↑r0_2.length : Int)) then
       bif decide (0 ≤ 0 + r0_2.length ∧ 0 + r0_2.length ≤ r0_2.length) then
       (x36 []).bind fun r0 =>
       bif decide (0 + List.length r0.fst ≤ List.length r0.fst) && true then
       bif decide (0 + r0_2.length ≤ r0_2.length) && true then
       bif decide (0 + r2_2.length ≤ r2_2.length) && true then
       some
       (List.take (List.length r0.fst) (List.drop 0 r0.fst), List.take r0_2.length r0_2,
       IntKind.i64.wrap (r1_2 + n), List.take r2_2.length r2_2, r3_2)
       else none
       else none
       else none
       else none
       else
       bif
       decide
       (0 + (IntKind.i64.wrap (IntKind.i64.wrap (r1_2 + n) - n)).toNat +
       ((some (IntKind.i64.wrap (r1_2 + n))).getD (↑r0_2.length : Int) -
       IntKind.i64.wrap (IntKind.i64.wrap (r1_2 + n) - n)).toNat ≤
       r0_2.length) &&
       true then
       (x36
       (List.take
       ((some (IntKind.i64.wrap (r1_2 + n))).getD (↑r0_2.length : Int) -
       IntKind.i64.wrap (IntKind.i64.wrap (r1_2 + n) - n)).toNat
       (List.drop (0 + (IntKind.i64.wrap (IntKind.i64.wrap (r1_2 + n) - n)).toNat) r0_2))).bind
       fun r0 =>
       bif decide (0 + List.length r0.fst ≤ List.length r0.fst) && true then
       bif decide (0 + r0_2.length ≤ r0_2.length) && true then
       bif decide (0 + r2_2.length ≤ r2_2.length) && true then
       some
       (List.take (List.length r0.fst) (List.drop 0 r0.fst), List.take r0_2.length r0_2,
       IntKind.i64.wrap (r1_2 + n), List.take r2_2.length r2_2, r3_2)
       else none
       else none
       else none
       else none
       else none
      else
       bif r3_2 != 0 then
       bif decide (n > 0) then
       bif (↑r2_2.length : Int) == 0 then
       bif (↑r2_2.length : Int) == 0 then
       bif decide (0 + r0_2.length ≤ r0_2.length) && true then
       bif decide (0 + r2_2.length ≤ r2_2.length) && true then
       some ([], List.take r0_2.length r0_2, r1_2, List.take r2_2.length r2_2, r3_2)
       else none
       else none
       else
       bif !r3_2 == 0 then
       bif decide (0 + r0_2.length ≤ r0_2.length) && true then
       bif decide (0 + r2_2.length ≤ r2_2.length) && true then
       some ([], List.take r0_2.length r0_2, r1_2, List.take r2_2.length r2_2, r3_2)
       else none
       else none
       else
       bif
       decide
       (0 ≤ IntKind.i64.wrap (IntKind.i64.wrap (r1_2 + n) - n) ∧
       IntKind.i64.wrap (IntKind.i64.wrap (r1_2 + n) - n) ≤
       (some (IntKind.i64.wrap (r1_2 + n))).getD (↑r0_2.length : Int) ∧
       (some (IntKind.i64.wrap (r1_2 + n))).getD (↑r0_2.length : Int) ≤ (↑r0_2.length : Int) ∧
       0 + r0_2.length ≤ r0_2.length) then
       bif decide (IntKind.i64.wrap (IntKind.i64.wrap (r1_2 + n) - n) = (↑r0_2.length : Int)) then
       bif decide (0 ≤ 0 + r0_2.length ∧ 0 + r0_2.length ≤ r0_2.length) then
       (x36 []).bind fun r0 =>
       bif decide (0 + List.length r0.fst ≤ List.length r0.fst) && true then
       bif decide (0 + r0_2.length ≤ r0_2.length) && true then
       bif decide (0 + r2_2.length ≤ r2_2.length) && true then
       some
       (List.take (List.length r0.fst) (List.drop 0 r0.fst), List.take r0_2.length r0_2,
       IntKind.i64.wrap (r1_2 + n), List.take r2_2.length r2_2, r3_2)
       else none
       else none
       else none
       else none
       else
       bif
       decide
       (0 + (IntKind.i64.wrap (IntKind.i64.wrap (r1_2 + n) - n)).toNat +
       ((some (IntKind.i64.wrap (r1_2 + n))).getD (↑r0_2.length : Int) -
       IntKind.i64.wrap (IntKind.i64.wrap (r1_2 + n) - n)).toNat ≤
       r0_2.length) &&
       true then
       (x36
       (List.take
       ((some (IntKind.i64.wrap (r1_2 + n))).getD (↑r0_2.length : Int) -
       IntKind.i64.wrap (IntKind.i64.wrap (r1_2 + n) - n)).toNat
       (List.drop (0 + (IntKind.i64.wrap (IntKind.i64.wrap (r1_2 + n) - n)).toNat) r0_2))).bind
       fun r0 =>
       bif decide (0 + List.length r0.fst ≤ List.length r0.fst) && true then
       bif decide (0 + r0_2.length ≤ r0_2.length) && true then
       bif decide (0 + r2_2.length ≤ r2_2.length) && true then
       some
       (List.take (List.length r0.fst) (List.drop 0 r0.fst), List.take r0_2.length r0_2,
       IntKind.i64.wrap (r1_2 + n), List.take r2_2.length r2_2, r3_2)
       else none
       else none
       else none
       else none
       else none
       else
       bif r3_2 == 0 then
       bif (↑r2_2.length : Int) == 0 then
       bif decide (0 + r0_2.length ≤ r0_2.length) && true then
       bif decide (0 + r2_2.length ≤ r2_2.length) && true then
       some ([], List.take r0_2.length r0_2, r1_2, List.take r2_2.length r2_2, 4)
       else none
       else none
       else
       bif decide (0 + r0_2.length ≤ r0_2.length) && true then
       bif decide (0 + r2_2.length ≤ r2_2.length) && true then
       some ([], List.take r0_2.length r0_2, r1_2, List.take r2_2.length r2_2, 4)
       else none
       else none
       else
       bif (↑r2_2.length : Int) == 0 then
       bif decide (0 + r0_2.length ≤ r0_2.length) && true then
       bif decide (0 + r2_2.length ≤ r2_2.length) && true then
       some ([], List.take r0_2.length r0_2, r1_2, List.take r2_2.length r2_2, r3_2)
       else none
       else none
       else
       bif !r3_2 == 0 then
       bif decide (0 + r0_2.length ≤ r0_2.length) && true then
       bif decide (0 + r2_2.length ≤ r2_2.length) && true then
       some ([], List.take r0_2.length r0_2, r1_2, List.take r2_2.length r2_2, r3_2)
       else none
       else none
       else
       bif
       decide
       (0 ≤ IntKind.i64.wrap (IntKind.i64.wrap (r1_2 + n) - n) ∧
       IntKind.i64.wrap (IntKind.i64.wrap (r1_2 + n) - n) ≤
       (some (IntKind.i64.wrap (r1_2 + n))).getD (↑r0_2.length : Int) ∧
       (some (IntKind.i64.wrap (r1_2 + n))).getD (↑r0_2.length : Int) ≤ (↑r0_2.length : Int) ∧
       0 + r0_2.length ≤ r0_2.length) then
       bif decide (IntKind.i64.wrap (IntKind.i64.wrap (r1_2 + n) - n) = (↑r0_2.length : Int)) then
       bif decide (0 ≤ 0 + r0_2.length ∧ 0 + r0_2.length ≤ r0_2.length) then
       (x36 []).bind fun r0 =>
       bif decide (0 + List.length r0.fst ≤ List.length r0.fst) && true then
       bif decide (0 + r0_2.length ≤ r0_2.length) && true then
       bif decide (0 + r2_2.length ≤ r2_2.length) && true then
       some
       (List.take (List.length r0.fst) (List.drop 0 r0.fst), List.take r0_2.length r0_2,
       IntKind.i64.wrap (r1_2 + n), List.take r2_2.length r2_2, r3_2)
       else none
       else none
       else none
       else none
       else
       bif
       decide
       (0 + (IntKind.i64.wrap (IntKind.i64.wrap (r1_2 + n) - n)).toNat +
       ((some (IntKind.i64.wrap (r1_2 + n))).getD (↑r0_2.length : Int) -
       IntKind.i64.wrap (IntKind.i64.wrap (r1_2 + n) - n)).toNat ≤
       r0_2.length) &&
       true then
       (x36
       (List.take
       ((some (IntKind.i64.wrap (r1_2 + n))).getD (↑r0_2.length : Int) -
       IntKind.i64.wrap (IntKind.i64.wrap (r1_2 + n) - n)).toNat
       (List.drop (0 + (IntKind.i64.wrap (IntKind.i64.wrap (r1_2 + n) - n)).toNat) r0_2))).bind
       fun r0 =>
       bif decide (0 + List.length r0.fst ≤ List.length r0.fst) && true then
       bif decide (0 + r0_2.length ≤ r0_2.length) && true then
       bif decide (0 + r2_2.length ≤ r2_2.length) && true then
       some
       (List.take (List.length r0.fst) (List.drop 0 r0.fst), List.take r0_2.length r0_2,
       IntKind.i64.wrap (r1_2 + n), List.take r2_2.length r2_2, r3_2)
       else none
       else none
       else none
       else none
       else none
       else
       bif (↑r2_2.length : Int) == 0 then
       bif decide (0 + r0_2.length ≤ r0_2.length) && true then
       bif decide (0 + r2_2.length ≤ r2_2.length) && true then
       some ([], List.take r0_2.length r0_2, r1_2, List.take r2_2.length r2_2, r3_2)
       else none
       else none
       else
       bif !r3_2 == 0 then
       bif decide (0 + r0_2.length ≤ r0_2.length) && true then
       bif decide (0 + r2_2.length ≤ r2_2.length) && true then
       some ([], List.take r0_2.length r0_2, r1_2, List.take r2_2.length r2_2, r3_2)
       else none
       else none
       else
       bif
       decide
       (0 ≤ IntKind.i64.wrap (IntKind.i64.wrap (r1_2 + n) - n) ∧
       IntKind.i64.wrap (IntKind.i64.wrap (r1_2 + n) - n) ≤
       (some (IntKind.i64.wrap (r1_2 + n))).getD (↑r0_2.length : Int) ∧
       (some (IntKind.i64.wrap (r1_2 + n))).getD (↑r0_2.length : Int) ≤ (↑r0_2.length : Int) ∧
       0 + r0_2.length ≤ r0_2.length) then
       bif decide (IntKind.i64.wrap (IntKind.i64.wrap (r1_2 + n) - n) = (↑r0_2.length : Int)) then
       bif decide (0 ≤ 0 + r0_2.length ∧ 0 + r0_2.length ≤ r0_2.length) then
       (x36 []).bind fun r0 =>
       bif decide (0 + List.length r0.fst ≤ List.length r0.fst) && true then
       bif decide (0 + r0_2.length ≤ r0_2.length) && true then
       bif decide (0 + r2_2.length ≤ r2_2.length) && true then
       some
       (List.take (List.length r0.fst) (List.drop 0 r0.fst), List.take r0_2.length r0_2,
       IntKind.i64.wrap (r1_2 + n), List.take r2_2.length r2_2, r3_2)
       else none
       else none
       else none
       else none
       else
       bif
       decide
       (0 + (IntKind.i64.wrap (IntKind.i64.wrap (r1_2 + n) - n)).toNat +
       ((some (IntKind.i64.wrap (r1_2 + n))).getD (↑r0_2.length : Int) -
       IntKind.i64.wrap (IntKind.i64.wrap (r1_2 + n) - n)).toNat ≤
       r0_2.length) &&
       true then
       (x36
       (List.take
       ((some (IntKind.i64.wrap (r1_2 + n))).getD (↑r0_2.length : Int) -
       IntKind.i64.wrap (IntKind.i64.wrap (r1_2 + n) - n)).toNat
       (List.drop (0 + (IntKind.i64.wrap (IntKind.i64.wrap (r1_2 + n) - n)).toNat) r0_2))).bind
       fun r0 =>
       bif decide (0 + List.length r0.fst ≤ List.length r0.fst) && true then
       bif decide (0 + r0_2.length ≤ r0_2.length) && true then
       bif decide (0 + r2_2.length ≤ r2_2.length) && true then
       some
       (List.take (List.length r0.fst) (List.drop 0 r0.fst), List.take r0_2.length r0_2,
       IntKind.i64.wrap (r1_2 + n), List.take r2_2.length r2_2, r3_2)
       else none
       else none
       else none
       else none
       else none
       else
       bif
       decide
       (0 ≤ IntKind.i64.wrap ((↑r2_2.length : Int) - 1) ∧
       IntKind.i64.wrap ((↑r2_2.length : Int) - 1) < (↑r2_2.length : Int) ∧ 0 < r2_2.length) then
       bif decide (0 + (IntKind.i64.wrap ((↑r2_2.length : Int) - 1)).toNat < r2_2.length) then
       bif
       decide
       (n >
       IntKind.i64.wrap
       (r2_2.getD (0 + (IntKind.i64.wrap ((↑r2_2.length : Int) - 1)).toNat) 0 - r1_2)) then
       bif (↑r2_2.length : Int) == 0 then
       bif (↑r2_2.length : Int) == 0 then
       bif decide (0 + r0_2.length ≤ r0_2.length) && true then
       bif decide (0 + r2_2.length ≤ r2_2.length) && true then
       some ([], List.take r0_2.length r0_2, r1_2, List.take r2_2.length r2_2, r3_2)
       else none
       else none
       else
       bif !r3_2 == 0 then
       bif decide (0 + r0_2.length ≤ r0_2.length) && true then
       bif decide (0 + r2_2.length ≤ r2_2.length) && true then
       some ([], List.take r0_2.length r0_2, r1_2, List.take r2_2.length r2_2, r3_2)
       else none
       else none
       else
       bif
       decide
       (0 ≤ IntKind.i64.wrap (IntKind.i64.wrap (r1_2 + n) - n) ∧
       IntKind.i64.wrap (IntKind.i64.wrap (r1_2 + n) - n) ≤
       (some (IntKind.i64.wrap (r1_2 + n))).getD (↑r0_2.length : Int) ∧
       (some (IntKind.i64.wrap (r1_2 + n))).getD (↑r0_2.length : Int) ≤ (↑r0_2.length : Int) ∧
       0 + r0_2.length ≤ r0_2.length) then
       bif decide (IntKind.i64.wrap (IntKind.i64.wrap (r1_2 + n) - n) = (↑r0_2.length : Int)) then
       bif decide (0 ≤ 0 + r0_2.length ∧ 0 + r0_2.length ≤ r0_2.length) then
       (x36 []).bind fun r0 =>
       bif decide (0 + List.length r0.fst ≤ List.length r0.fst) && true then
       bif decide (0 + r0_2.length ≤ r0_2.length) && true then
       bif decide (0 + r2_2.length ≤ r2_2.length) && true then
       some
       (List.take (List.length r0.fst) (List.drop 0 r0.fst), List.take r0_2.length r0_2,
       IntKind.i64.wrap (r1_2 + n), List.take r2_2.length r2_2, r3_2)
       else none
       else none
       else none
       else none
       else
       bif
       decide
       (0 + (IntKind.i64.wrap (IntKind.i64.wrap (r1_2 + n) - n)).toNat +
       ((some (IntKind.i64.wrap (r1_2 + n))).getD (↑r0_2.length : Int) -
       IntKind.i64.wrap (IntKind.i64.wrap (r1_2 + n) - n)).toNat ≤
       r0_2.length) &&
       true then
       (x36
       (List.take
       ((some (IntKind.i64.wrap (r1_2 + n))).getD (↑r0_2.length : Int) -
       IntKind.i64.wrap (IntKind.i64.wrap (r1_2 + n) - n)).toNat
       (List.drop (0 + (IntKind.i64.wrap (IntKind.i64.wrap (r1_2 + n) - n)).toNat)
       r0_2))).bind
       fun r0 =>
       bif decide (0 + List.length r0.fst ≤ List.length r0.fst) && true then
       bif decide (0 + r0_2.length ≤ r0_2.length) && true then
       bif decide (0 + r2_2.length ≤ r2_2.length) && true then
       some
       (List.take (List.length r0.fst) (List.drop 0 r0.fst), List.take r0_2.length r0_2,
       IntKind.i64.wrap (r1_2 + n), List.take r2_2.length r2_2, r3_2)
       else none
       else none
       else none
       else none
       else none
       else
       bif r3_2 == 0 then
       bif (↑r2_2.length : Int) == 0 then
       bif decide (0 + r0_2.length ≤ r0_2.length) && true then
       bif decide (0 + r2_2.length ≤ r2_2.length) && true then
       some ([], List.take r0_2.length r0_2, r1_2, List.take r2_2.length r2_2, 4)
       else none
       else none
       else
       bif decide (0 + r0_2.length ≤ r0_2.length) && true then
       bif decide (0 + r2_2.length ≤ r2_2.length) && true then
       some ([], List.take r0_2.length r0_2, r1_2, List.take r2_2.length r2_2, 4)
       else none
       else none
       else
       bif (↑r2_2.length : Int) == 0 then
       bif decide (0 + r0_2.length ≤ r0_2.length) && true then
       bif decide (0 + r2_2.length ≤ r2_2.length) && true then
       some ([], List.take r0_2.length r0_2, r1_2, List.take r2_2.length r2_2, r3_2)
       else none
       else none
       else
       bif !r3_2 == 0 then
       bif decide (0 + r0_2.length ≤ r0_2.length) && true then
       bif decide (0 + r2_2.length ≤ r2_2.length) && true then
       some ([], List.take r0_2.length r0_2, r1_2, List.take r2_2.length r2_2, r3_2)
       else none
       else none
       else
       bif
       decide
       (0 ≤ IntKind.i64.wrap (IntKind.i64.wrap (r1_2 + n) - n) ∧
       IntKind.i64.wrap (IntKind.i64.wrap (r1_2 + n) - n) ≤
       (some (IntKind.i64.wrap (r1_2 + n))).getD (↑r0_2.length : Int) ∧
       (some (IntKind.i64.wrap (r1_2 + n))).getD (↑r0_2.length : Int) ≤ (↑r0_2.length : Int) ∧
       0 + r0_2.length ≤ r0_2.length) then
       bif decide (IntKind.i64.wrap (IntKind.i64.wrap (r1_2 + n) - n) = (↑r0_2.length : Int)) then
       bif decide (0 ≤ 0 + r0_2.length ∧ 0 + r0_2.length ≤ r0_2.length) then
       (x36 []).bind fun r0 =>
       bif decide (0 + List.length r0.fst ≤ List.length r0.fst) && true then
       bif decide (0 + r0_2.length ≤ r0_2.length) && true then
       bif decide (0 + r2_2.length ≤ r2_2.length) && true then
       some
       (List.take (List.length r0.fst) (List.drop 0 r0.fst), List.take r0_2.length r0_2,
       IntKind.i64.wrap (r1_2 + n), List.take r2_2.length r2_2, r3_2)
       else none
       else none
       else none
       else none
       else
       bif
       decide
       (0 + (IntKind.i64.wrap (IntKind.i64.wrap (r1_2 + n) - n)).toNat +
       ((some (IntKind.i64.wrap (r1_2 + n))).getD (↑r0_2.length : Int) -
       IntKind.i64.wrap (IntKind.i64.wrap (r1_2 + n) - n)).toNat ≤
       r0_2.length) &&
       true then
       (x36
       (List.take
       ((some (IntKind.i64.wrap (r1_2 + n))).getD (↑r0_2.length : Int) -
       IntKind.i64.wrap (IntKind.i64.wrap (r1_2 + n) - n)).toNat
       (List.drop (0 + (IntKind.i64.wrap (IntKind.i64.wrap (r1_2 + n) - n)).toNat)
       r0_2))).bind
       fun r0 =>
       bif decide (0 + List.length r0.fst ≤ List.length r0.fst) && true then
       bif decide (0 + r0_2.length ≤ r0_2.length) && true then
       bif decide (0 + r2_2.length ≤ r2_2.length) && true then
       some
       (List.take (List.length r0.fst) (List.drop 0 r0.fst), List.take r0_2.length r0_2,
       IntKind.i64.wrap (r1_2 + n), List.take r2_2.length r2_2, r3_2)
       else none
       else none
       else none
       else none
       else none
       else
       bif (↑r2_2.length : Int) == 0 then
       bif decide (0 + r0_2.length ≤ r0_2.length) && true then
       bif decide (0 + r2_2.length ≤ r2_2.length) && true then
       some ([], List.take r0_2.length r0_2, r1_2, List.take r2_2.length r2_2, r3_2)
       else none
       else none
       else
       bif !r3_2 == 0 then
       bif decide (0 + r0_2.length ≤ r0_2.length) && true then
       bif decide (0 + r2_2.length ≤ r2_2.length) && true then
       some ([], List.take r0_2.length r0_2, r1_2, List.take r2_2.length r2_2, r3_2)
       else none
       else none
       else
       bif
       decide
       (0 ≤ IntKind.i64.wrap (IntKind.i64.wrap (r1_2 + n) - n) ∧
       IntKind.i64.wrap (IntKind.i64.wrap (r1_2 + n) - n) ≤
       (some (IntKind.i64.wrap (r1_2 + n))).getD (↑r0_2.length : Int) ∧
       (some (IntKind.i64.wrap (r1_2 + n))).getD (↑r0_2.length : Int) ≤ (↑r0_2.length : Int) ∧
       0 + r0_2.length ≤ r0_2.length) then
       bif decide (IntKind.i64.wrap (IntKind.i64.wrap (r1_2 + n) - n) = (↑r0_2.length : Int)) then
       bif decide (0 ≤ 0 + r0_2.length ∧ 0 + r0_2.length ≤ r0_2.length) then
       (x36 []).bind fun r0 =>
       bif decide (0 + List.length r0.fst ≤ List.length r0.fst) && true then
       bif decide (0 + r0_2.length ≤ r0_2.length) && true then
       bif decide (0 + r2_2.length ≤ r2_2.length) && true then
       some
       (List.take (List.length r0.fst) (List.drop 0 r0.fst), List.take r0_2.length r0_2,
       IntKind.i64.wrap (r1_2 + n), List.take r2_2.length r2_2, r3_2)
       else none
       else none
       else none
       else none
       else
       bif
       decide
       (0 + (IntKind.i64.wrap (IntKind.i64.wrap (r1_2 + n) - n)).toNat +
       ((some (IntKind.i64.wrap (r1_2 + n))).getD (↑r0_2.length : Int) -
       IntKind.i64.wrap (IntKind.i64.wrap (r1_2 + n) - n)).toNat ≤
       r0_2.length) &&
       true then
       (x36
       (List.take
       ((some (IntKind.i64.wrap (r1_2 + n))).getD (↑r0_2.length : Int) -
       IntKind.i64.wrap (IntKind.i64.wrap (r1_2 + n) - n)).toNat
       (List.drop (0 + (IntKind.i64.wrap (IntKind.i64.wrap (r1_2 + n) - n)).toNat) r0_2))).bind
       fun r0 =>
       bif decide (0 + List.length r0.fst ≤ List.length r0.fst) && true then
       bif decide (0 + r0_2.length ≤ r0_2.length) && true then
       bif decide (0 + r2_2.length ≤ r2_2.length) && true then
       some
       (List.take (List.length r0.fst) (List.drop 0 r0.fst), List.take r0_2.length r0_2,
       IntKind.i64.wrap (r1_2 + n), List.take r2_2.length r2_2, r3_2)
       else none
       else none
       else none
       else none
       else none
       else none
       else none
theorem fe (x36 : F36.FT) (d : (List (Int) × Int × List (Int) × Int) × Int) : bodyF (tabC Tryd.prog (tab x36) ((29, .none) :: pls x36) 100 12) 100 29 i o d = fP x36 d := by kernel_rfl
noncomputable def f : FT := fP F36.f
def plan : Plan := .none
theorem planOk : PlanOk Tryd.prog (plan) (bodyOf Tryd.prog 29) := (planOk_of (plan) _ [] (by kernel_rfl) trivial)
theorem meets : MeetsF Tryd.prog 29 ⟨i, o, f⟩ :=
  funcT (fuel := 100) (depth := 12) (pl := (29, plan) :: pls F36.f) mixed tabS ⟨planOk, plsP⟩ (fun d => fe F36.f d)
theorem spec : SpecOk Tryd.prog (fun _ => none) 29 (specF ⟨i, o, f⟩) := specF_ok (by kernel_rfl) meets
end Go.Proofs.YtnmgbheaabdhlaaDoor.F29

/- What comes of function 46 of this program, consulate.scroll.number[uint16], as the engine gives it. -/
namespace Go.Proofs.YtnmgbheaabdhlaaDoor.F46
open Go Go.Proofs Go.Proofs.YtnmgbheaabdhlaaDoor Go.RowKit Go.Proofs.YtnmgbheaabdhlaaDoor.Sx
set_option linter.unusedVariables false
set_option maxRecDepth 100000
def tab (x29 : F29.FT) : List (FuncId × Sx.Spec) := [(29, specF ⟨F29.i, F29.o, x29⟩)]
def pls (x29 : F29.FT) : List (FuncId × Plan) := []
@[reducible] def k1 : Sh := .sl true 5 (.sc (.int .u8) .nil) (.sc (.int .i64) .nil)
@[reducible] def i1 : Sh := .sc (.int .u16) (.sc (.int .i64) .nil)
@[reducible] def o1 : Sh := .sc (.int .u16) .nil
abbrev G1 := (List (Int) × Int) → (Int × Int) → Option (Int × Unit)
def u1 (F : G1) : Un := ⟨24, [10, 11], k1, [5, 12], i1, [5], o1, [10, 11], [(.exit 0, [true])], F⟩
@[reducible] def i : Sh := .pt true 83 (.sl true 5 (.sc (.int .u8) .nil) (.sc (.int .i64) (.sl true 3 (.sc (.int .i64) .nil) (.sc (.int .i64) .nil)))) (.sc (.int .i64) .nil)
@[reducible] def o : Sh := .sc (.int .u16) .nil
abbrev FT := ((List (Int) × Int × List (Int) × Int) × Int) → Option (Int × ((List (Int) × Int × List (Int) × Int)))
theorem tabS : AllS Tryd.prog (tab F29.f) := ⟨F29.spec, trivial⟩
theorem plsP : AllP Tryd.prog (pls F29.f) := trivial
theorem mixed : Tryd.prog.follows .mixedOrders = true := by kernel_rfl
def r1P (x29 : F29.FT) : (List (Int) × Int) → (Int × Int) → Option ((Int × Int) ⊕ (Int × Unit)) := fun (t10, t11) (n, t12) =>
    bif decide (t12 < t11) then
      bif decide (0 ≤ t12 ∧ t12 < (↑t10.length : Int) ∧ 0 < t10.length) then
       bif decide (0 + t12.toNat < t10.length) then
       some
       (Sum.inl
       (IntKind.u16.wrap
       (↑((IntKind.u16.wrap (IntKind.u16.wrap (n * 128) * 2) % 65536).toNat |||
       (IntKind.u16.wrap (t10.getD (0 + t12.toNat) 0) % 65536).toNat) :
       Int),
       IntKind.i64.wrap (t12 + 1)))
       else none
      else none
    else some (Sum.inr (n, PUnit.unit))
theorem r1e (x29 : F29.FT) (kd : List (Int) × Int) (d : Int × Int) : roundF (tabC Tryd.prog (tab x29) (pls x29) 100 12) 100 .none (u1 fun _ _ => none) (codeAt [1, 1, 0, 1, 0, 0] (bodyOf Tryd.prog 46)) kd d = r1P x29 kd d := by kernel_rfl
noncomputable def r1 : (List (Int) × Int) → (Int × Int) → Option ((Int × Int) ⊕ (Int × Unit)) := r1P F29.f
noncomputable def l1 : G1 := fun kd d => iterO (r1 kd) d
theorem ok1 : UnOk Tryd.prog (u1 l1) (codeAt [1, 1, 0, 1, 0] (bodyOf Tryd.prog 46)) :=
  loopT (p := .none) (c := codeAt [1, 1, 0, 1, 0, 0] (bodyOf Tryd.prog 46)) (fuel := 100) (depth := 12) mixed tabS plsP (by kernel_rfl) trivial (by kernel_rfl) (fun kd d => r1e F29.f kd d) rfl
def fP (x29 : F29.FT) (l1 : G1) : FT := fun ((r0_2, r1_2, r2_2, r3_2), wide) =>
    (x29 ((r0_2, r1_2, r2_2, r3_2), wide)).bind fun r0 =>
      bif decide (0 + List.length r0.fst ≤ List.length r0.fst) && true then
       (l1 (List.take (List.length r0.fst) (List.drop 0 r0.fst), (↑(List.length r0.fst) : Int)) (0, 0)).bind fun r1 =>
       some (r1.fst, r0.snd)
      else none
theorem fe (x29 : F29.FT) (l1 : G1) (d : (List (Int) × Int × List (Int) × Int) × Int) : bodyF (tabC Tryd.prog (tab x29) ((46, (.node .none (.node .none (.node (.node .none (.node (.unit (u1 l1)) .none)) .none)))) :: pls x29) 100 12) 100 46 i o d = fP x29 l1 d := by kernel_rfl
noncomputable def f : FT := fP F29.f l1
def plan (l1 : G1) : Plan := (.node .none (.node .none (.node (.node .none (.node (.unit (u1 l1)) .none)) .none)))
theorem planOk : PlanOk Tryd.prog (plan l1) (bodyOf Tryd.prog 46) := (planOk_of (plan l1) _ [([1, 1, 0, 1, 0], u1 l1)] rfl ⟨ok1, trivial⟩)
theorem meets : MeetsF Tryd.prog 46 ⟨i, o, f⟩ :=
  funcT (fuel := 100) (depth := 12) (pl := (46, plan l1) :: pls F29.f) mixed tabS ⟨planOk, plsP⟩ (fun d => fe F29.f l1 d)
theorem spec : SpecOk Tryd.prog (fun _ => none) 46 (specF ⟨i, o, f⟩) := specF_ok (by kernel_rfl) meets
end Go.Proofs.YtnmgbheaabdhlaaDoor.F46

/- What comes of function 32 of this program, (*consulate.scroll.Reader).Two, as the engine gives it. -/
namespace Go.Proofs.YtnmgbheaabdhlaaDoor.F32
open Go Go.Proofs Go.Proofs.YtnmgbheaabdhlaaDoor Go.RowKit Go.Proofs.YtnmgbheaabdhlaaDoor.Sx
set_option linter.unusedVariables false
set_option maxRecDepth 100000
def tab (x29 : F29.FT) (l46_1 : F46.G1) : List (FuncId × Sx.Spec) := [(29, specF ⟨F29.i, F29.o, x29⟩)]
def pls (x29 : F29.FT) (l46_1 : F46.G1) : List (FuncId × Plan) := [(46, F46.plan l46_1)]
@[reducible] def i : Sh := .pt true 83 (.sl true 5 (.sc (.int .u8) .nil) (.sc (.int .i64) (.sl true 3 (.sc (.int .i64) .nil) (.sc (.int .i64) .nil)))) .nil
@[reducible] def o : Sh := .sc (.int .u16) .nil
abbrev FT := ((List (Int) × Int × List (Int) × Int)) → Option (Int × ((List (Int) × Int × List (Int) × Int)))
theorem tabS : AllS Tryd.prog (tab F29.f F46.l1) := ⟨F29.spec, trivial⟩
theorem plsP : AllP Tryd.prog (pls F29.f F46.l1) := ⟨F46.planOk, trivial⟩
theorem mixed : Tryd.prog.follows .mixedOrders = true := by kernel_rfl
def fP (x29 : F29.FT) (l46_1 : F46.G1) : FT := fun (r0_2, r1_2, r2_2, r3_2) =>
    (x29 ((r0_2, r1_2, r2_2, r3_2), 2)).bind fun r0 =>
      bif decide (0 + List.length r0.fst ≤ List.length r0.fst) && true then
       (l46_1 (List.take (List.length r0.fst) (List.drop 0 r0.fst), (↑(List.length r0.fst) : Int)) (0, 0)).bind fun r1 =>
       some (r1.fst, r0.snd)
      else none
theorem fe (x29 : F29.FT) (l46_1 : F46.G1) (d : (List (Int) × Int × List (Int) × Int)) : bodyF (tabC Tryd.prog (tab x29 l46_1) ((32, .none) :: pls x29 l46_1) 100 12) 100 32 i o d = fP x29 l46_1 d := by kernel_rfl
noncomputable def f : FT := fP F29.f F46.l1
def plan : Plan := .none
theorem planOk : PlanOk Tryd.prog (plan) (bodyOf Tryd.prog 32) := (planOk_of (plan) _ [] (by kernel_rfl) trivial)
theorem meets : MeetsF Tryd.prog 32 ⟨i, o, f⟩ :=
  funcT (fuel := 100) (depth := 12) (pl := (32, plan) :: pls F29.f F46.l1) mixed tabS ⟨planOk, plsP⟩ (fun d => fe F29.f F46.l1 d)
theorem spec : SpecOk Tryd.prog (fun _ => none) 32 (specF ⟨i, o, f⟩) := specF_ok (by kernel_rfl) meets
end Go.Proofs.YtnmgbheaabdhlaaDoor.F32

/- What comes of function 47 of this program, consulate.scroll.number[byte], as the engine gives it. -/
namespace Go.Proofs.YtnmgbheaabdhlaaDoor.F47
open Go Go.Proofs Go.Proofs.YtnmgbheaabdhlaaDoor Go.RowKit Go.Proofs.YtnmgbheaabdhlaaDoor.Sx
set_option linter.unusedVariables false
set_option maxRecDepth 100000
def tab (x29 : F29.FT) : List (FuncId × Sx.Spec) := [(29, specF ⟨F29.i, F29.o, x29⟩)]
def pls (x29 : F29.FT) : List (FuncId × Plan) := []
@[reducible] def k1 : Sh := .sl true 5 (.sc (.int .u8) .nil) (.sc (.int .i64) .nil)
@[reducible] def i1 : Sh := .sc (.int .u8) (.sc (.int .i64) .nil)
@[reducible] def o1 : Sh := .sc (.int .u8) .nil
abbrev G1 := (List (Int) × Int) → (Int × Int) → Option (Int × Unit)
def u1 (F : G1) : Un := ⟨23, [10, 11], k1, [5, 12], i1, [5], o1, [10, 11], [(.exit 0, [true])], F⟩
@[reducible] def i : Sh := .pt true 83 (.sl true 5 (.sc (.int .u8) .nil) (.sc (.int .i64) (.sl true 3 (.sc (.int .i64) .nil) (.sc (.int .i64) .nil)))) (.sc (.int .i64) .nil)
@[reducible] def o : Sh := .sc (.int .u8) .nil
abbrev FT := ((List (Int) × Int × List (Int) × Int) × Int) → Option (Int × ((List (Int) × Int × List (Int) × Int)))
theorem tabS : AllS Tryd.prog (tab F29.f) := ⟨F29.spec, trivial⟩
theorem plsP : AllP Tryd.prog (pls F29.f) := trivial
theorem mixed : Tryd.prog.follows .mixedOrders = true := by kernel_rfl
def r1P (x29 : F29.FT) : (List (Int) × Int) → (Int × Int) → Option ((Int × Int) ⊕ (Int × Unit)) := fun (t10, t11) (n, t12) =>
    bif decide (t12 < t11) then
      bif decide (0 ≤ t12 ∧ t12 < (↑t10.length : Int) ∧ 0 < t10.length) then
       bif decide (0 + t12.toNat < t10.length) then
       some
       (Sum.inl
       (IntKind.u8.wrap
       (↑((IntKind.u8.wrap (IntKind.u8.wrap (n * 128) * 2) % 256).toNat |||
       (t10.getD (0 + t12.toNat) 0 % 256).toNat) :
       Int),
       IntKind.i64.wrap (t12 + 1)))
       else none
      else none
    else some (Sum.inr (n, PUnit.unit))
theorem r1e (x29 : F29.FT) (kd : List (Int) × Int) (d : Int × Int) : roundF (tabC Tryd.prog (tab x29) (pls x29) 100 12) 100 .none (u1 fun _ _ => none) (codeAt [1, 1, 0, 1, 0, 0] (bodyOf Tryd.prog 47)) kd d = r1P x29 kd d := by kernel_rfl
noncomputable def r1 : (List (Int) × Int) → (Int × Int) → Option ((Int × Int) ⊕ (Int × Unit)) := r1P F29.f
noncomputable def l1 : G1 := fun kd d => iterO (r1 kd) d
theorem ok1 : UnOk Tryd.prog (u1 l1) (codeAt [1, 1, 0, 1, 0] (bodyOf Tryd.prog 47)) :=
  loopT (p := .none) (c := codeAt [1, 1, 0, 1, 0, 0] (bodyOf Tryd.prog 47)) (fuel := 100) (depth := 12) mixed tabS plsP (by kernel_rfl) trivial (by kernel_rfl) (fun kd d => r1e F29.f kd d) rfl
def fP (x29 : F29.FT) (l1 : G1) : FT := fun ((r0_2, r1_2, r2_2, r3_2), wide) =>
    (x29 ((r0_2, r1_2, r2_2, r3_2), wide)).bind fun r0 =>
      bif decide (0 + List.length r0.fst ≤ List.length r0.fst) && true then
       (l1 (List.take (List.length r0.fst) (List.drop 0 r0.fst), (↑(List.length r0.fst) : Int)) (0, 0)).bind fun r1 =>
       some (r1.fst, r0.snd)
      else none
theorem fe (x29 : F29.FT) (l1 : G1) (d : (List (Int) × Int × List (Int) × Int) × Int) : bodyF (tabC Tryd.prog (tab x29) ((47, (.node .none (.node .none (.node (.node .none (.node (.unit (u1 l1)) .none)) .none)))) :: pls x29) 100 12) 100 47 i o d = fP x29 l1 d := by kernel_rfl
noncomputable def f : FT := fP F29.f l1
def plan (l1 : G1) : Plan := (.node .none (.node .none (.node (.node .none (.node (.unit (u1 l1)) .none)) .none)))
theorem planOk : PlanOk Tryd.prog (plan l1) (bodyOf Tryd.prog 47) := (planOk_of (plan l1) _ [([1, 1, 0, 1, 0], u1 l1)] rfl ⟨ok1, trivial⟩)
theorem meets : MeetsF Tryd.prog 47 ⟨i, o, f⟩ :=
  funcT (fuel := 100) (depth := 12) (pl := (47, plan l1) :: pls F29.f) mixed tabS ⟨planOk, plsP⟩ (fun d => fe F29.f l1 d)
theorem spec : SpecOk Tryd.prog (fun _ => none) 47 (specF ⟨i, o, f⟩) := specF_ok (by kernel_rfl) meets
end Go.Proofs.YtnmgbheaabdhlaaDoor.F47

/- What comes of function 33 of this program, (*consulate.scroll.Reader).Byte, as the engine gives it. -/
namespace Go.Proofs.YtnmgbheaabdhlaaDoor.F33
open Go Go.Proofs Go.Proofs.YtnmgbheaabdhlaaDoor Go.RowKit Go.Proofs.YtnmgbheaabdhlaaDoor.Sx
set_option linter.unusedVariables false
set_option maxRecDepth 100000
def tab (x29 : F29.FT) (l47_1 : F47.G1) : List (FuncId × Sx.Spec) := [(29, specF ⟨F29.i, F29.o, x29⟩)]
def pls (x29 : F29.FT) (l47_1 : F47.G1) : List (FuncId × Plan) := [(47, F47.plan l47_1)]
@[reducible] def i : Sh := .pt true 83 (.sl true 5 (.sc (.int .u8) .nil) (.sc (.int .i64) (.sl true 3 (.sc (.int .i64) .nil) (.sc (.int .i64) .nil)))) .nil
@[reducible] def o : Sh := .sc (.int .u8) .nil
abbrev FT := ((List (Int) × Int × List (Int) × Int)) → Option (Int × ((List (Int) × Int × List (Int) × Int)))
theorem tabS : AllS Tryd.prog (tab F29.f F47.l1) := ⟨F29.spec, trivial⟩
theorem plsP : AllP Tryd.prog (pls F29.f F47.l1) := ⟨F47.planOk, trivial⟩
theorem mixed : Tryd.prog.follows .mixedOrders = true := by kernel_rfl
def fP (x29 : F29.FT) (l47_1 : F47.G1) : FT := fun (r0_2, r1_2, r2_2, r3_2) =>
    (x29 ((r0_2, r1_2, r2_2, r3_2), 1)).bind fun r0 =>
      bif decide (0 + List.length r0.fst ≤ List.length r0.fst) && true then
       (l47_1 (List.take (List.length r0.fst) (List.drop 0 r0.fst), (↑(List.length r0.fst) : Int)) (0, 0)).bind fun r1 =>
       some (r1.fst, r0.snd)
      else none
theorem fe (x29 : F29.FT) (l47_1 : F47.G1) (d : (List (Int) × Int × List (Int) × Int)) : bodyF (tabC Tryd.prog (tab x29 l47_1) ((33, .none) :: pls x29 l47_1) 100 12) 100 33 i o d = fP x29 l47_1 d := by kernel_rfl
noncomputable def f : FT := fP F29.f F47.l1
def plan : Plan := .none
theorem planOk : PlanOk Tryd.prog (plan) (bodyOf Tryd.prog 33) := (planOk_of (plan) _ [] (by kernel_rfl) trivial)
theorem meets : MeetsF Tryd.prog 33 ⟨i, o, f⟩ :=
  funcT (fuel := 100) (depth := 12) (pl := (33, plan) :: pls F29.f F47.l1) mixed tabS ⟨planOk, plsP⟩ (fun d => fe F29.f F47.l1 d)
theorem spec : SpecOk Tryd.prog (fun _ => none) 33 (specF ⟨i, o, f⟩) := specF_ok (by kernel_rfl) meets
end Go.Proofs.YtnmgbheaabdhlaaDoor.F33

/- What comes of function 44 of this program, slices.IndexFunc[[]byte,byte], as the engine gives it. -/
namespace Go.Proofs.YtnmgbheaabdhlaaDoor.F44
open Go Go.Proofs Go.Proofs.YtnmgbheaabdhlaaDoor Go.RowKit Go.Proofs.YtnmgbheaabdhlaaDoor.Sx
set_option linter.unusedVariables false
set_option maxRecDepth 100000
def tab : List (FuncId × Sx.Spec) := []
def pls : List (FuncId × Plan) := []
@[reducible] def k1 : Sh := .sl false 5 (.sc (.int .u8) .nil) (.sc (.fn 30) (.sc (.int .i64) .nil))
@[reducible] def i1 : Sh := .sc (.int .i64) .nil
@[reducible] def o1 : Sh := .sc (.int .i64) (.sc (.int .i64) .nil)
abbrev G1 := (List (Int) × Unit × Int) → Int → Option ((Int × Int) × Unit)
def u1 (F : G1) : Un := ⟨19, [0, 1, 7], k1, [8], i1, [4], o1, [0, 1, 7], [(.exit 0, [false]), (.ret, [true])], F⟩
@[reducible] def i : Sh := .sl false 5 (.sc (.int .u8) .nil) (.sc (.fn 30) .nil)
@[reducible] def o : Sh := .sc (.int .i64) .nil
abbrev FT := (List (Int) × Unit) → Option (Int × Unit)
theorem tabS : AllS Tryd.prog (tab) := trivial
theorem plsP : AllP Tryd.prog (pls) := trivial
theorem mixed : Tryd.prog.follows .mixedOrders = true := by kernel_rfl
def r1P : (List (Int) × Unit × Int) → Int → Option (Int ⊕ ((Int × Int) × Unit)) := fun (s, f_2, t7) t8 =>
    bif decide (t8 < t7) then
      bif decide (0 ≤ t8 ∧ t8 < (↑s.length : Int) ∧ 0 < s.length) then
       bif decide (0 + t8.toNat < s.length) then
       bif s.getD (0 + t8.toNat) 0 != 255 then some (Sum.inr ((1, t8), PUnit.unit))
       else some (Sum.inl (IntKind.i64.wrap (t8 + 1)))
       else none
      else none
    else some (Sum.inr ((0, 0), PUnit.unit))
theorem r1e (kd : List (Int) × Unit × Int) (d : Int) : roundF (tabC Tryd.prog (tab) (pls) 100 12) 100 .none (u1 fun _ _ => none) (codeAt [1, 0, 1, 0, 0] (bodyOf Tryd.prog 44)) kd d = r1P kd d := by kernel_rfl
noncomputable def r1 : (List (Int) × Unit × Int) → Int → Option (Int ⊕ ((Int × Int) × Unit)) := r1P
noncomputable def l1 : G1 := fun kd d => iterO (r1 kd) d
theorem ok1 : UnOk Tryd.prog (u1 l1) (codeAt [1, 0, 1, 0] (bodyOf Tryd.prog 44)) :=
  loopT (p := .none) (c := codeAt [1, 0, 1, 0, 0] (bodyOf Tryd.prog 44)) (fuel := 100) (depth := 12) mixed tabS plsP (by kernel_rfl) trivial (by kernel_rfl) (fun kd d => r1e  kd d) rfl
def fP (l1 : G1) : FT := fun (s, f_2) =>
    bif decide (0 + s.length ≤ s.length) && true then
      (l1 (List.take s.length s, PUnit.unit, (↑s.length : Int)) (OfNat.ofNat 0)).bind fun r0 =>
       bif decide (r0.fst.fst = 0) then some (-1, PUnit.unit)
       else bif decide (r0.fst.fst = 1) then some (r0.fst.snd, PUnit.unit) else none
    else none
theorem fe (l1 : G1) (d : List (Int) × Unit) : bodyF (tabC Tryd.prog (tab) ((44, (.node .none (.node (.node .none (.node (.unit (u1 l1)) .none)) .none))) :: pls) 100 12) 100 44 i o d = fP l1 d := by kernel_rfl
noncomputable def f : FT := fP l1
def plan (l1 : G1) : Plan := (.node .none (.node (.node .none (.node (.unit (u1 l1)) .none)) .none))
theorem planOk : PlanOk Tryd.prog (plan l1) (bodyOf Tryd.prog 44) := (planOk_of (plan l1) _ [([1, 0, 1, 0], u1 l1)] rfl ⟨ok1, trivial⟩)
theorem meets : MeetsF Tryd.prog 44 ⟨i, o, f⟩ :=
  funcT (fuel := 100) (depth := 12) (pl := (44, plan l1) :: pls) mixed tabS ⟨planOk, plsP⟩ (fun d => fe l1 d)
theorem spec : SpecOk Tryd.prog (fun _ => none) 44 (specF ⟨i, o, f⟩) := specF_ok (by kernel_rfl) meets
end Go.Proofs.YtnmgbheaabdhlaaDoor.F44

/- What comes of function 10 of this program, (*consulate.frame.Intake).Feed, as the engine gives it. -/
namespace Go.Proofs.YtnmgbheaabdhlaaDoor.F10
open Go Go.Proofs Go.Proofs.YtnmgbheaabdhlaaDoor Go.RowKit Go.Proofs.YtnmgbheaabdhlaaDoor.Sx
set_option linter.unusedVariables false
set_option maxRecDepth 100000
def tab (x27 : F27.FT) (x29 : F29.FT) (x32 : F32.FT) (x33 : F33.FT) (x36 : F36.FT) (l44_1 : F44.G1) : List (FuncId × Sx.Spec) := [(27, specF ⟨F27.i, F27.o, x27⟩), (29, specF ⟨F29.i, F29.o, x29⟩), (32, specF ⟨F32.i, F32.o, x32⟩), (33, specF ⟨F33.i, F33.o, x33⟩), (36, specF ⟨F36.i, F36.o, x36⟩)]
def pls (x27 : F27.FT) (x29 : F29.FT) (x32 : F32.FT) (x33 : F33.FT) (x36 : F36.FT) (l44_1 : F44.G1) : List (FuncId × Plan) := [(44, F44.plan l44_1)]
@[reducible] def k1 : Sh := .pt true 61 (.sl true 5 (.sc (.int .u8) .nil) (.sc (.int .u8) (.sc (.int .u8) (.sl true 5 (.sc (.int .u8) .nil) (.sc .bool .nil))))) .nil
@[reducible] def i1 : Sh := .nil
@[reducible] def o1 : Sh := .pt true 83 (.sl true 5 (.sc (.int .u8) .nil) (.sc (.int .i64) (.sl true 3 (.sc (.int .i64) .nil) (.sc (.int .i64) .nil)))) .nil
abbrev G1 := ((List (Int) × Int × Int × List (Int) × Bool)) → Unit → Option (((List (Int) × Int × List (Int) × Int)) × Unit)
def u1 (F : G1) : Un := ⟨104, [0], k1, [], i1, [6], o1, [0, 5], [(.normal, [true])], F⟩
@[reducible] def k2 : Sh := .nil
@[reducible] def i2 : Sh := .pt true 83 (.sl true 5 (.sc (.int .u8) .nil) (.sc (.int .i64) (.sl true 3 (.sc (.int .i64) .nil) (.sc (.int .i64) .nil)))) .nil
@[reducible] def o2 : Sh := .sc .bool .nil
abbrev G2 := Unit → ((List (Int) × Int × List (Int) × Int)) → Option (Bool × ((List (Int) × Int × List (Int) × Int)))
def u2 (F : G2) : Un := ⟨104, [], k2, [6], i2, [42], o2, [0, 5, 6], [(.normal, [true])], F⟩
@[reducible] def k3 : Sh := .nil
@[reducible] def i3 : Sh := .pt true 61 (.sl true 5 (.sc (.int .u8) .nil) (.sc (.int .u8) (.sc (.int .u8) (.sl true 5 (.sc (.int .u8) .nil) (.sc .bool .nil))))) .nil
@[reducible] def o3 : Sh := .nil
abbrev G3 := Unit → ((List (Int) × Int × Int × List (Int) × Bool)) → Option (Unit × ((List (Int) × Int × Int × List (Int) × Bool)))
def u3 (F : G3) : Un := ⟨104, [], k3, [0], i3, [], o3, [5], [(.normal, [])], F⟩
@[reducible] def k4 : Sh := .nil
@[reducible] def i4 : Sh := .pt true 83 (.sl true 5 (.sc (.int .u8) .nil) (.sc (.int .i64) (.sl true 3 (.sc (.int .i64) .nil) (.sc (.int .i64) .nil)))) .nil
@[reducible] def o4 : Sh := .sc (.int .i64) .nil
abbrev G4 := Unit → ((List (Int) × Int × List (Int) × Int)) → Option (Int × ((List (Int) × Int × List (Int) × Int)))
def u4 (F : G4) : Un := ⟨104, [], k4, [6], i4, [7], o4, [0, 5, 6], [(.normal, [true])], F⟩
@[reducible] def k5 : Sh := .nil
@[reducible] def i5 : Sh := .pt true 83 (.sl true 5 (.sc (.int .u8) .nil) (.sc (.int .i64) (.sl true 3 (.sc (.int .i64) .nil) (.sc (.int .i64) .nil)))) .nil
@[reducible] def o5 : Sh := .sc (.int .u8) .nil
abbrev G5 := Unit → ((List (Int) × Int × List (Int) × Int)) → Option (Int × ((List (Int) × Int × List (Int) × Int)))
def u5 (F : G5) : Un := ⟨104, [], k5, [6], i5, [8], o5, [0, 5, 7], [(.normal, [true])], F⟩
@[reducible] def k6 : Sh := .sc (.int .u8) .nil
@[reducible] def i6 : Sh := .pt true 61 (.sl true 5 (.sc (.int .u8) .nil) (.sc (.int .u8) (.sc (.int .u8) (.sl true 5 (.sc (.int .u8) .nil) (.sc .bool .nil))))) .nil
@[reducible] def o6 : Sh := .nil
abbrev G6 := Int → ((List (Int) × Int × Int × List (Int) × Bool)) → Option (Unit × ((List (Int) × Int × Int × List (Int) × Bool)))
def u6 (F : G6) : Un := ⟨104, [8], k6, [0], i6, [], o6, [5], [(.normal, [])], F⟩
@[reducible] def k7 : Sh := .sc (.int .i64) (.sc (.int .u8) .nil)
@[reducible] def i7 : Sh := .nil
@[reducible] def o7 : Sh := .sc .bool .nil
abbrev G7 := (Int × Int) → Unit → Option (Bool × Unit)
def u7 (F : G7) : Un := ⟨104, [7, 8], k7, [], i7, [66], o7, [0, 5, 7, 8], [(.normal, [true])], F⟩
@[reducible] def k8 : Sh := .pt true 61 (.sl true 5 (.sc (.int .u8) .nil) (.sc (.int .u8) (.sc (.int .u8) (.sl true 5 (.sc (.int .u8) .nil) (.sc .bool .nil))))) (.sc (.int .i64) (.sc (.int .u8) .nil))
@[reducible] def i8 : Sh := .sl true 52 (.sc (.int .u8) (.sl true 5 (.sc (.int .u8) .nil) .nil)) .nil
@[reducible] def o8 : Sh := .sl true 52 (.sc (.int .u8) (.sl true 5 (.sc (.int .u8) .nil) .nil)) .nil
abbrev G8 := ((List (Int) × Int × Int × List (Int) × Bool) × Int × Int) → ((List (Int × List (Int)))) → Option (((List (Int × List (Int)))) × Unit)
def u8 (F : G8) : Un := ⟨104, [0, 7, 8], k8, [5], i8, [5], o8, [0, 7], [(.normal, [true])], F⟩
@[reducible] def k9 : Sh := .sc (.int .i64) .nil
@[reducible] def i9 : Sh := .pt true 61 (.sl true 5 (.sc (.int .u8) .nil) (.sc (.int .u8) (.sc (.int .u8) (.sl true 5 (.sc (.int .u8) .nil) (.sc .bool .nil))))) .nil
@[reducible] def o9 : Sh := .nil
abbrev G9 := Int → ((List (Int) × Int × Int × List (Int) × Bool)) → Option (Unit × ((List (Int) × Int × Int × List (Int) × Bool)))
def u9 (F : G9) : Un := ⟨104, [7], k9, [0], i9, [], o9, [0, 5], [(.normal, [])], F⟩
@[reducible] def k10 : Sh := .sc (.int .i64) .nil
@[reducible] def i10 : Sh := .pt true 61 (.sl true 5 (.sc (.int .u8) .nil) (.sc (.int .u8) (.sc (.int .u8) (.sl true 5 (.sc (.int .u8) .nil) (.sc .bool .nil))))) .nil
@[reducible] def o10 : Sh := .nil
abbrev G10 := Int → ((List (Int) × Int × Int × List (Int) × Bool)) → Option (Unit × ((List (Int) × Int × Int × List (Int) × Bool)))
def u10 (F : G10) : Un := ⟨104, [7], k10, [0], i10, [], o10, [5], [(.normal, [])], F⟩
@[reducible] def k11 : Sh := .nil
@[reducible] def i11 : Sh := .pt true 61 (.sl true 5 (.sc (.int .u8) .nil) (.sc (.int .u8) (.sc (.int .u8) (.sl true 5 (.sc (.int .u8) .nil) (.sc .bool .nil))))) (.sl false 5 (.sc (.int .u8) .nil) .nil)
@[reducible] def o11 : Sh := .sl true 52 (.sc (.int .u8) (.sl true 5 (.sc (.int .u8) .nil) .nil)) .nil
abbrev G11 := Unit → ((List (Int) × Int × Int × List (Int) × Bool) × List (Int)) → Option (((List (Int × List (Int)))) × ((List (Int) × Int × Int × List (Int) × Bool)))
@[reducible] def v11 : Sh := .pt true 61 (.sl true 5 (.sc (.int .u8) .nil) (.sc (.int .u8) (.sc (.int .u8) (.sl true 5 (.sc (.int .u8) .nil) (.sc .bool .nil))))) (.sl true 52 (.sc (.int .u8) (.sl true 5 (.sc (.int .u8) .nil) .nil)) .nil)
def u11 (F : G11) : Un := ⟨104, [], k11, [0, 1], i11, [4], o11, [], [(.ret, [true])], F⟩
@[reducible] def i : Sh := .pt true 61 (.sl true 5 (.sc (.int .u8) .nil) (.sc (.int .u8) (.sc (.int .u8) (.sl true 5 (.sc (.int .u8) .nil) (.sc .bool .nil))))) (.sl false 5 (.sc (.int .u8) .nil) .nil)
@[reducible] def o : Sh := .sl true 52 (.sc (.int .u8) (.sl true 5 (.sc (.int .u8) .nil) .nil)) .nil
abbrev FT := ((List (Int) × Int × Int × List (Int) × Bool) × List (Int)) → Option (((List (Int × List (Int)))) × ((List (Int) × Int × Int × List (Int) × Bool)))
theorem tabS : AllS Tryd.prog (tab F27.f F29.f F32.f F33.f F36.f F44.l1) := ⟨F27.spec, F29.spec, F32.spec, F33.spec, F36.spec, trivial⟩
theorem plsP : AllP Tryd.prog (pls F27.f F29.f F32.f F33.f F36.f F44.l1) := ⟨F44.planOk, trivial⟩
theorem mixed : Tryd.prog.follows .mixedOrders = true := by kernel_rfl
def r1P (x27 : F27.FT) (x29 : F29.FT) (x32 : F32.FT) (x33 : F33.FT) (x36 : F36.FT) (l44_1 : F44.G1) : G1 := fun (i0_2, i1_2, i2_2, i3_2, i4_2) () =>
    bif
       decide
       ((0 : Int) ≤ (some (19 : Int)).getD (↑i0_2.length : Int) ∧
       (some (19 : Int)).getD (↑i0_2.length : Int) ≤ (↑i0_2.length : Int) ∧
       (0 : Nat) + i0_2.length ≤ i0_2.length) then
      bif decide ((0 : Nat) + ((some (19 : Int)).getD (↑i0_2.length : Int)).toNat ≤ i0_2.length) && true then
       (x27 (List.take ((some (19 : Int)).getD (↑i0_2.length : Int)).toNat i0_2)).bind fun r0 =>
       some (r0.fst, PUnit.unit)
      else none
    else none
theorem r1e (x27 : F27.FT) (x29 : F29.FT) (x32 : F32.FT) (x33 : F33.FT) (x36 : F36.FT) (l44_1 : F44.G1) (kd : (List (Int) × Int × Int × List (Int) × Bool)) (d : Unit) : unitF (tabC Tryd.prog (tab x27 x29 x32 x33 x36 l44_1) (pls x27 x29 x32 x33 x36 l44_1) 100 12) 100 .none (u1 fun _ _ => none) (codeAt [1, 0, 1, 1, 1, 1, 1, 1, 1, 1, 0] (bodyOf Tryd.prog 10)) kd d = r1P x27 x29 x32 x33 x36 l44_1 kd d := by kernel_rfl
noncomputable def r1 : G1 := r1P F27.f F29.f F32.f F33.f F36.f F44.l1
noncomputable def l1 : G1 := r1
theorem ok1 : UnOk Tryd.prog (u1 l1) (codeAt [1, 0, 1, 1, 1, 1, 1, 1, 1, 1, 0] (bodyOf Tryd.prog 10)) :=
  blockT (p := .none) (fuel := 100) (depth := 12) mixed tabS plsP trivial (fun kd d => r1e F27.f F29.f F32.f F33.f F36.f F44.l1 kd d)
def r2P (x27 : F27.FT) (x29 : F29.FT) (x32 : F32.FT) (x33 : F33.FT) (x36 : F36.FT) (l44_1 : F44.G1) : G2 := fun () (r0_2, r1_2, r2_2, r3_2) =>
    (x29 ((r0_2, r1_2, r2_2, r3_2), (16 : Int))).bind fun r0 =>
      bif decide ((0 : Nat) + List.length r0.fst ≤ List.length r0.fst) && true then
       (l44_1 (List.take (List.length r0.fst) (List.drop (0 : Nat) r0.fst), PUnit.unit, (↑(List.length r0.fst) : Int))
       (OfNat.ofNat (0 : Nat))).bind
       fun r1 =>
       bif decide (r1.fst.fst = (0 : Int)) then some (false, r0.snd)
       else bif decide (r1.fst.fst = (1 : Int)) then some (decide (r1.fst.snd ≥ (0 : Int)), r0.snd) else none
      else none
theorem r2e (x27 : F27.FT) (x29 : F29.FT) (x32 : F32.FT) (x33 : F33.FT) (x36 : F36.FT) (l44_1 : F44.G1) (kd : Unit) (d : (List (Int) × Int × List (Int) × Int)) : unitF (tabC Tryd.prog (tab x27 x29 x32 x33 x36 l44_1) (pls x27 x29 x32 x33 x36 l44_1) 100 12) 100 .none (u2 fun _ _ => none) (codeAt [1, 0, 1, 1, 1, 1, 1, 1, 1, 1, 1, 0, 0] (bodyOf Tryd.prog 10)) kd d = r2P x27 x29 x32 x33 x36 l44_1 kd d := by kernel_rfl
noncomputable def r2 : G2 := r2P F27.f F29.f F32.f F33.f F36.f F44.l1
noncomputable def l2 : G2 := r2
theorem ok2 : UnOk Tryd.prog (u2 l2) (codeAt [1, 0, 1, 1, 1, 1, 1, 1, 1, 1, 1, 0, 0] (bodyOf Tryd.prog 10)) :=
  blockT (p := .none) (fuel := 100) (depth := 12) mixed tabS plsP trivial (fun kd d => r2e F27.f F29.f F32.f F33.f F36.f F44.l1 kd d)
def r3P (x27 : F27.FT) (x29 : F29.FT) (x32 : F32.FT) (x33 : F33.FT) (x36 : F36.FT) (l44_1 : F44.G1) : G3 := fun () (i0_2, i1_2, i2_2, i3_2, i4_2) =>
   some (PUnit.unit, [], (1 : Int), (1 : Int), [], i4_2)
theorem r3e (x27 : F27.FT) (x29 : F29.FT) (x32 : F32.FT) (x33 : F33.FT) (x36 : F36.FT) (l44_1 : F44.G1) (kd : Unit) (d : (List (Int) × Int × Int × List (Int) × Bool)) : unitF (tabC Tryd.prog (tab x27 x29 x32 x33 x36 l44_1) (pls x27 x29 x32 x33 x36 l44_1) 100 12) 100 .none (u3 fun _ _ => none) (codeAt [1, 0, 1, 1, 1, 1, 1, 1, 1, 1, 1, 0, 1, 0, 0] (bodyOf Tryd.prog 10)) kd d = r3P x27 x29 x32 x33 x36 l44_1 kd d := by kernel_rfl
noncomputable def r3 : G3 := r3P F27.f F29.f F32.f F33.f F36.f F44.l1
noncomputable def l3 : G3 := r3
theorem ok3 : UnOk Tryd.prog (u3 l3) (codeAt [1, 0, 1, 1, 1, 1, 1, 1, 1, 1, 1, 0, 1, 0, 0] (bodyOf Tryd.prog 10)) :=
  blockT (p := .none) (fuel := 100) (depth := 12) mixed tabS plsP trivial (fun kd d => r3e F27.f F29.f F32.f F33.f F36.f F44.l1 kd d)
def r4P (x27 : F27.FT) (x29 : F29.FT) (x32 : F32.FT) (x33 : F33.FT) (x36 : F36.FT) (l44_1 : F44.G1) : G4 := fun () (r0_2, r1_2, r2_2, r3_2) =>
    (x32 (r0_2, r1_2, r2_2, r3_2)).bind fun r0 => some (IntKind.i64.wrap r0.fst, r0.snd)
theorem r4e (x27 : F27.FT) (x29 : F29.FT) (x32 : F32.FT) (x33 : F33.FT) (x36 : F36.FT) (l44_1 : F44.G1) (kd : Unit) (d : (List (Int) × Int × List (Int) × Int)) : unitF (tabC Tryd.prog (tab x27 x29 x32 x33 x36 l44_1) (pls x27 x29 x32 x33 x36 l44_1) 100 12) 100 .none (u4 fun _ _ => none) (codeAt [1, 0, 1, 1, 1, 1, 1, 1, 1, 1, 1, 1, 0] (bodyOf Tryd.prog 10)) kd d = r4P x27 x29 x32 x33 x36 l44_1 kd d := by kernel_rfl
noncomputable def r4 : G4 := r4P F27.f F29.f F32.f F33.f F36.f F44.l1
noncomputable def l4 : G4 := r4
theorem ok4 : UnOk Tryd.prog (u4 l4) (codeAt [1, 0, 1, 1, 1, 1, 1, 1, 1, 1, 1, 1, 0] (bodyOf Tryd.prog 10)) :=
  blockT (p := .none) (fuel := 100) (depth := 12) mixed tabS plsP trivial (fun kd d => r4e F27.f F29.f F32.f F33.f F36.f F44.l1 kd d)
def r5P (x27 : F27.FT) (x29 : F29.FT) (x32 : F32.FT) (x33 : F33.FT) (x36 : F36.FT) (l44_1 : F44.G1) : G5 := fun () (r0_2, r1_2, r2_2, r3_2) =>
   (x33 (r0_2, r1_2, r2_2, r3_2)).bind fun r0 => some (r0.fst, r0.snd)
theorem r5e (x27 : F27.FT) (x29 : F29.FT) (x32 : F32.FT) (x33 : F33.FT) (x36 : F36.FT) (l44_1 : F44.G1) (kd : Unit) (d : (List (Int) × Int × List (Int) × Int)) : unitF (tabC Tryd.prog (tab x27 x29 x32 x33 x36 l44_1) (pls x27 x29 x32 x33 x36 l44_1) 100 12) 100 .none (u5 fun _ _ => none) (codeAt [1, 0, 1, 1, 1, 1, 1, 1, 1, 1, 1, 1, 1, 0, 0] (bodyOf Tryd.prog 10)) kd d = r5P x27 x29 x32 x33 x36 l44_1 kd d := by kernel_rfl
noncomputable def r5 : G5 := r5P F27.f F29.f F32.f F33.f F36.f F44.l1
noncomputable def l5 : G5 := r5
theorem ok5 : UnOk Tryd.prog (u5 l5) (codeAt [1, 0, 1, 1, 1, 1, 1, 1, 1, 1, 1, 1, 1, 0, 0] (bodyOf Tryd.prog 10)) :=
  blockT (p := .none) (fuel := 100) (depth := 12) mixed tabS plsP trivial (fun kd d => r5e F27.f F29.f F32.f F33.f F36.f F44.l1 kd d)
def r6P (x27 : F27.FT) (x29 : F29.FT) (x32 : F32.FT) (x33 : F33.FT) (x36 : F36.FT) (l44_1 : F44.G1) : G6 := fun t (i0_2, i1_2, i2_2, i3_2, i4_2) =>
   some (PUnit.unit, [], (1 : Int), (3 : Int), [t], i4_2)
theorem r6e (x27 : F27.FT) (x29 : F29.FT) (x32 : F32.FT) (x33 : F33.FT) (x36 : F36.FT) (l44_1 : F44.G1) (kd : Int) (d : (List (Int) × Int × Int × List (Int) × Bool)) : unitF (tabC Tryd.prog (tab x27 x29 x32 x33 x36 l44_1) (pls x27 x29 x32 x33 x36 l44_1) 100 12) 100 .none (u6 fun _ _ => none) (codeAt [1, 0, 1, 1, 1, 1, 1, 1, 1, 1, 1, 1, 1, 1, 0, 1, 0, 0] (bodyOf Tryd.prog 10)) kd d = r6P x27 x29 x32 x33 x36 l44_1 kd d := by kernel_rfl
noncomputable def r6 : G6 := r6P F27.f F29.f F32.f F33.f F36.f F44.l1
noncomputable def l6 : G6 := r6
theorem ok6 : UnOk Tryd.prog (u6 l6) (codeAt [1, 0, 1, 1, 1, 1, 1, 1, 1, 1, 1, 1, 1, 1, 0, 1, 0, 0] (bodyOf Tryd.prog 10)) :=
  blockT (p := .none) (fuel := 100) (depth := 12) mixed tabS plsP trivial (fun kd d => r6e F27.f F29.f F32.f F33.f F36.f F44.l1 kd d)
def r7P (x27 : F27.FT) (x29 : F29.FT) (x32 : F32.FT) (x33 : F33.FT) (x36 : F36.FT) (l44_1 : F44.G1) : G7 := fun (n, t) () =>
    bif decide ((0 : Int) ≤ t ∧ t < (6 : Int)) then
      bif t.toNat.beq (0 : Nat) then
       bif decide (n ≥ (0 : Int)) then
       bif decide ((0 : Int) ≤ t ∧ t < (6 : Int)) then
       bif t.toNat.beq (0 : Nat) then some (!decide (n ≤ (0 : Int)), PUnit.unit)
       else
       bif t.toNat.beq (1 : Nat) then some (!decide (n ≤ (4096 : Int)), PUnit.unit)
       else
       bif t.toNat.beq (2 : Nat) then some (!decide (n ≤ (4096 : Int)), PUnit.unit)
       else
       bif t.toNat.beq (3 : Nat) then some (!decide (n ≤ (4096 : Int)), PUnit.unit)
       else
       bif t.toNat.beq (4 : Nat) then some (!decide (n ≤ (19 : Int)), PUnit.unit)
       else bif t.toNat.beq (5 : Nat) then some (!decide (n ≤ (23 : Int)), PUnit.unit) else none
       else none
       else some (true, PUnit.unit)
      else
       bif t.toNat.beq (1 : Nat) then
       bif decide (n ≥ (29 : Int)) then
       bif decide ((0 : Int) ≤ t ∧ t < (6 : Int)) then
       bif t.toNat.beq (0 : Nat) then some (!decide (n ≤ (0 : Int)), PUnit.unit)
       else
       bif t.toNat.beq (1 : Nat) then some (!decide (n ≤ (4096 : Int)), PUnit.unit)
       else
       bif t.toNat.beq (2 : Nat) then some (!decide (n ≤ (4096 : Int)), PUnit.unit)
       else
       bif t.toNat.beq (3 : Nat) then some (!decide (n ≤ (4096 : Int)), PUnit.unit)
       else
       bif t.toNat.beq (4 : Nat) then some (!decide (n ≤ (19 : Int)), PUnit.unit)
       else bif t.toNat.beq (5 : Nat) then some (!decide (n ≤ (23 : Int)), PUnit.unit) else none
       else none
       else some (true, PUnit.unit)
       else
       bif t.toNat.beq (2 : Nat) then
       bif decide (n ≥ (23 : Int)) then
       bif decide ((0 : Int) ≤ t ∧ t < (6 : Int)) then
       bif t.toNat.beq (0 : Nat) then some (!decide (n ≤ (0 : Int)), PUnit.unit)
       else
       bif t.toNat.beq (1 : Nat) then some (!decide (n ≤ (4096 : Int)), PUnit.unit)
       else
       bif t.toNat.beq (2 : Nat) then some (!decide (n ≤ (4096 : Int)), PUnit.unit)
       else
       bif t.toNat.beq (3 : Nat) then some (!decide (n ≤ (4096 : Int)), PUnit.unit)
       else
       bif t.toNat.beq (4 : Nat) then some (!decide (n ≤ (19 : Int)), PUnit.unit)
       else bif t.toNat.beq (5 : Nat) then some (!decide (n ≤ (23 : Int)), PUnit.unit) else none
       else none
       else some (true, PUnit.unit)
       else
       bif t.toNat.beq (3 : Nat) then
       bif decide (n ≥ (21 : Int)) then
       bif decide ((0 : Int) ≤ t ∧ t < (6 : Int)) then
       bif t.toNat.beq (0 : Nat) then some (!decide (n ≤ (0 : Int)), PUnit.unit)
       else
       bif t.toNat.beq (1 : Nat) then some (!decide (n ≤ (4096 : Int)), PUnit.unit)
       else
       bif t.toNat.beq (2 : Nat) then some (!decide (n ≤ (4096 : Int)), PUnit.unit)
       else
       bif t.toNat.beq (3 : Nat) then some (!decide (n ≤ (4096 : Int)), PUnit.unit)
       else
       bif t.toNat.beq (4 : Nat) then some (!decide (n ≤ (19 : Int)), PUnit.unit)
       else bif t.toNat.beq (5 : Nat) then some (!decide (n ≤ (23 : Int)), PUnit.unit) else none
       else none
       else some (true, PUnit.unit)
       else
       bif t.toNat.beq (4 : Nat) then
       bif decide (n ≥ (19 : Int)) then
       bif decide ((0 : Int) ≤ t ∧ t < (6 : Int)) then
       bif t.toNat.beq (0 : Nat) then some (!decide (n ≤ (0 : Int)), PUnit.unit)
       else
       bif t.toNat.beq (1 : Nat) then some (!decide (n ≤ (4096 : Int)), PUnit.unit)
       else
       bif t.toNat.beq (2 : Nat) then some (!decide (n ≤ (4096 : Int)), PUnit.unit)
       else
       bif t.toNat.beq (3 : Nat) then some (!decide (n ≤ (4096 : Int)), PUnit.unit)
       else
       bif t.toNat.beq (4 : Nat) then some (!decide (n ≤ (19 : Int)), PUnit.unit)
       else bif t.toNat.beq (5 : Nat) then some (!decide (n ≤ (23 : Int)), PUnit.unit) else none
       else none
       else some (true, PUnit.unit)
       else
       bif t.toNat.beq (5 : Nat) then
       bif decide (n ≥ (23 : Int)) then
       bif decide ((0 : Int) ≤ t ∧ t < (6 : Int)) then
       bif t.toNat.beq (0 : Nat) then some (!decide (n ≤ (0 : Int)), PUnit.unit)
       else
       bif t.toNat.beq (1 : Nat) then some (!decide (n ≤ (4096 : Int)), PUnit.unit)
       else
       bif t.toNat.beq (2 : Nat) then some (!decide (n ≤ (4096 : Int)), PUnit.unit)
       else
       bif t.toNat.beq (3 : Nat) then some (!decide (n ≤ (4096 : Int)), PUnit.unit)
       else
       bif t.toNat.beq (4 : Nat) then some (!decide (n ≤ (19 : Int)), PUnit.unit)
       else bif t.toNat.beq (5 : Nat) then some (!decide (n ≤ (23 : Int)), PUnit.unit) else none
       else none
       else some (true, PUnit.unit)
       else none
    else none
theorem r7e (x27 : F27.FT) (x29 : F29.FT) (x32 : F32.FT) (x33 : F33.FT) (x36 : F36.FT) (l44_1 : F44.G1) (kd : Int × Int) (d : Unit) : unitF (tabC Tryd.prog (tab x27 x29 x32 x33 x36 l44_1) (pls x27 x29 x32 x33 x36 l44_1) 100 12) 100 .none (u7 fun _ _ => none) (codeAt [1, 0, 1, 1, 1, 1, 1, 1, 1, 1, 1, 1, 1, 1, 1, 0, 0] (bodyOf Tryd.prog 10)) kd d = r7P x27 x29 x32 x33 x36 l44_1 kd d := by kernel_rfl
noncomputable def r7 : G7 := r7P F27.f F29.f F32.f F33.f F36.f F44.l1
noncomputable def l7 : G7 := r7
theorem ok7 : UnOk Tryd.prog (u7 l7) (codeAt [1, 0, 1, 1, 1, 1, 1, 1, 1, 1, 1, 1, 1, 1, 1, 0, 0] (bodyOf Tryd.prog 10)) :=
  blockT (p := .none) (fuel := 100) (depth := 12) mixed tabS plsP trivial (fun kd d => r7e F27.f F29.f F32.f F33.f F36.f F44.l1 kd d)
def r8P (x27 : F27.FT) (x29 : F29.FT) (x32 : F32.FT) (x33 : F33.FT) (x36 : F36.FT) (l44_1 : F44.G1) : G8 := fun ((i0_2, i1_2, i2_2, i3_2, i4_2), n, t) out =>
    bif
       decide
       ((0 : Int) ≤ (19 : Int) ∧
       (19 : Int) ≤ (some n).getD (↑i0_2.length : Int) ∧
       (some n).getD (↑i0_2.length : Int) ≤ (↑i0_2.length : Int) ∧ (0 : Nat) + i0_2.length ≤ i0_2.length) then
      bif decide ((19 : Nat) + ((some n).getD (↑i0_2.length : Int) - (19 : Int)).toNat ≤ i0_2.length) then
       bif
       decide
       ((0 : Nat) + ((some n).getD (↑i0_2.length : Int) - (19 : Int)).toNat ≤
       (List.take ((some n).getD (↑i0_2.length : Int) - (19 : Int)).toNat
       (List.drop (19 : Nat) i0_2)).length) &&
       true then
       (x36
       (List.take ((some n).getD (↑i0_2.length : Int) - (19 : Int)).toNat
       (List.drop (0 : Nat)
       (List.take ((some n).getD (↑i0_2.length : Int) - (19 : Int)).toNat
       (List.drop (19 : Nat) i0_2))))).bind
       fun r0 =>
       bif decide (out.length + (2 : Nat) / OfNat.ofNat (2 : Nat) ≤ (1073741824 : Nat)) then
       bif decide ((0 : Nat) + out.length ≤ out.length) then
       bif decide ((0 : Nat) + List.length r0.fst ≤ List.length r0.fst) && true then
       bif
       decide
       ((0 : Nat) + (out.length + (2 : Nat) / OfNat.ofNat (2 : Nat)) ≤
       (List.take out.length out ++
       [(t, List.take (List.length r0.fst) (List.drop (0 : Nat) r0.fst))]).length) &&
       true then
       some
       (List.take (out.length + (2 : Nat) / OfNat.ofNat (2 : Nat))
       (List.drop (0 : Nat)
       (List.take out.length out ++
       [(t, List.take (List.length r0.fst) (List.drop (0 : Nat) r0.fst))])),
       PUnit.unit)
       else none
       else none
       else none
       else none
       else none
      else none
    else none
theorem r8e (x27 : F27.FT) (x29 : F29.FT) (x32 : F32.FT) (x33 : F33.FT) (x36 : F36.FT) (l44_1 : F44.G1) (kd : (List (Int) × Int × Int × List (Int) × Bool) × Int × Int) (d : (List (Int × List (Int)))) : unitF (tabC Tryd.prog (tab x27 x29 x32 x33 x36 l44_1) (pls x27 x29 x32 x33 x36 l44_1) 100 12) 100 .none (u8 fun _ _ => none) (codeAt [1, 0, 1, 1, 1, 1, 1, 1, 1, 1, 1, 1, 1, 1, 1, 1, 1, 0] (bodyOf Tryd.prog 10)) kd d = r8P x27 x29 x32 x33 x36 l44_1 kd d := by kernel_rfl
noncomputable def r8 : G8 := r8P F27.f F29.f F32.f F33.f F36.f F44.l1
noncomputable def l8 : G8 := r8
theorem ok8 : UnOk Tryd.prog (u8 l8) (codeAt [1, 0, 1, 1, 1, 1, 1, 1, 1, 1, 1, 1, 1, 1, 1, 1, 1, 0] (bodyOf Tryd.prog 10)) :=
  blockT (p := .none) (fuel := 100) (depth := 12) mixed tabS plsP trivial (fun kd d => r8e F27.f F29.f F32.f F33.f F36.f F44.l1 kd d)
def r9P (x27 : F27.FT) (x29 : F29.FT) (x32 : F32.FT) (x33 : F33.FT) (x36 : F36.FT) (l44_1 : F44.G1) : G9 := fun n (i0_2, i1_2, i2_2, i3_2, i4_2) =>
    bif
       decide
       ((0 : Int) ≤ n ∧
       n ≤ none.getD (↑i0_2.length : Int) ∧
       none.getD (↑i0_2.length : Int) ≤ (↑i0_2.length : Int) ∧ (0 : Nat) + i0_2.length ≤ i0_2.length) then
      bif decide (n = (↑i0_2.length : Int)) then
       bif decide ((0 : Nat) ≤ (0 : Nat) + i0_2.length ∧ (0 : Nat) + i0_2.length ≤ i0_2.length) then
       bif decide ((0 : Nat) + i3_2.length ≤ i3_2.length) && true then
       some (PUnit.unit, [], i1_2, i2_2, List.take i3_2.length i3_2, i4_2)
       else none
       else none
      else
       bif decide ((0 : Nat) + n.toNat + (none.getD (↑i0_2.length : Int) - n).toNat ≤ i0_2.length) && true then
       bif decide ((0 : Nat) + i3_2.length ≤ i3_2.length) && true then
       some
       (PUnit.unit, List.take (none.getD (↑i0_2.length : Int) - n).toNat (List.drop ((0 : Nat) + n.toNat) i0_2),
       i1_2, i2_2, List.take i3_2.length i3_2, i4_2)
       else none
       else none
    else none
theorem r9e (x27 : F27.FT) (x29 : F29.FT) (x32 : F32.FT) (x33 : F33.FT) (x36 : F36.FT) (l44_1 : F44.G1) (kd : Int) (d : (List (Int) × Int × Int × List (Int) × Bool)) : unitF (tabC Tryd.prog (tab x27 x29 x32 x33 x36 l44_1) (pls x27 x29 x32 x33 x36 l44_1) 100 12) 100 .none (u9 fun _ _ => none) (codeAt [1, 0, 1, 1, 1, 1, 1, 1, 1, 1, 1, 1, 1, 1, 1, 1, 1, 1, 0] (bodyOf Tryd.prog 10)) kd d = r9P x27 x29 x32 x33 x36 l44_1 kd d := by kernel_rfl
noncomputable def r9 : G9 := r9P F27.f F29.f F32.f F33.f F36.f F44.l1
noncomputable def l9 : G9 := r9
theorem ok9 : UnOk Tryd.prog (u9 l9) (codeAt [1, 0, 1, 1, 1, 1, 1, 1, 1, 1, 1, 1, 1, 1, 1, 1, 1, 1, 0] (bodyOf Tryd.prog 10)) :=
  blockT (p := .none) (fuel := 100) (depth := 12) mixed tabS plsP trivial (fun kd d => r9e F27.f F29.f F32.f F33.f F36.f F44.l1 kd d)
def r10P (x27 : F27.FT) (x29 : F29.FT) (x32 : F32.FT) (x33 : F33.FT) (x36 : F36.FT) (l44_1 : F44.G1) : G10 := fun n (i0_2, i1_2, i2_2, i3_2, i4_2) =>
    some (PUnit.unit, [], (1 : Int), (2 : Int), [IntKind.u8.wrap (n.fdiv (256 : Int)), IntKind.u8.wrap n], i4_2)
theorem r10e (x27 : F27.FT) (x29 : F29.FT) (x32 : F32.FT) (x33 : F33.FT) (x36 : F36.FT) (l44_1 : F44.G1) (kd : Int) (d : (List (Int) × Int × Int × List (Int) × Bool)) : unitF (tabC Tryd.prog (tab x27 x29 x32 x33 x36 l44_1) (pls x27 x29 x32 x33 x36 l44_1) 100 12) 100 .none (u10 fun _ _ => none) (codeAt [1, 0, 1, 1, 1, 1, 1, 1, 1, 1, 1, 1, 1, 1, 1, 1, 1, 1, 1, 1, 1, 0] (bodyOf Tryd.prog 10)) kd d = r10P x27 x29 x32 x33 x36 l44_1 kd d := by kernel_rfl
noncomputable def r10 : G10 := r10P F27.f F29.f F32.f F33.f F36.f F44.l1
noncomputable def l10 : G10 := r10
theorem ok10 : UnOk Tryd.prog (u10 l10) (codeAt [1, 0, 1, 1, 1, 1, 1, 1, 1, 1, 1, 1, 1, 1, 1, 1, 1, 1, 1, 1, 1, 0] (bodyOf Tryd.prog 10)) :=
  blockT (p := .none) (fuel := 100) (depth := 12) mixed tabS plsP trivial (fun kd d => r10e F27.f F29.f F32.f F33.f F36.f F44.l1 kd d)
def r11P (x27 : F27.FT) (x29 : F29.FT) (x32 : F32.FT) (x33 : F33.FT) (x36 : F36.FT) (l44_1 : F44.G1) (l1 : G1) (l2 : G2) (l3 : G3) (l4 : G4) (l5 : G5) (l6 : G6) (l7 : G7) (l8 : G8) (l9 : G9) (l10 : G10) : Unit → ((List (Int) × Int × Int × List (Int) × Bool) × List (Int)) → Option (((List (Int) × Int × Int × List (Int) × Bool) × (List (Int × List (Int)))) ⊕ (((List (Int × List (Int)))) × ((List (Int) × Int × Int × List (Int) × Bool)))) := fun () ((i0_2, i1_2, i2_2, i3_2, i4_2), b) =>
    bif !i4_2 then some (Sum.inr ([], i0_2, i1_2, i2_2, i3_2, i4_2))
    else
      bif i1_2 != (0 : Int) then some (Sum.inr ([], i0_2, i1_2, i2_2, i3_2, i4_2))
      else
       bif decide ((0 : Nat) + b.length ≤ b.length) then
       bif decide (i0_2.length + (List.take b.length b).length ≤ (1073741824 : Nat)) then
       bif decide ((0 : Nat) + i0_2.length ≤ i0_2.length) then
       bif decide ((↑(i0_2.length + (List.take b.length b).length) : Int) < (19 : Int)) then
       bif
       decide
       ((0 : Nat) + (i0_2.length + (List.take b.length b).length) ≤
       (List.take i0_2.length i0_2 ++ List.take b.length b).length) &&
       true then
       bif decide ((0 : Nat) + i3_2.length ≤ i3_2.length) && true then
       some
       (Sum.inr
       ([],
       List.take (i0_2.length + (List.take b.length b).length)
       (List.drop (0 : Nat) (List.take i0_2.length i0_2 ++ List.take b.length b)),
       i1_2, i2_2, List.take i3_2.length i3_2, i4_2))
       else none
       else none
       else
       bif
       decide
       ((0 : Nat) + (i0_2.length + (List.take b.length b).length) ≤
       (List.take i0_2.length i0_2 ++ List.take b.length b).length) &&
       true then
       bif decide ((0 : Nat) + i3_2.length ≤ i3_2.length) && true then
       (l1
       (List.take (i0_2.length + (List.take b.length b).length)
       (List.drop (0 : Nat) (List.take i0_2.length i0_2 ++ List.take b.length b)),
       i1_2, i2_2, List.take i3_2.length i3_2, i4_2)
       PUnit.unit).bind
       fun r0 =>
       (l2 PUnit.unit r0.fst).bind fun r1 =>
       bif r1.fst then
       bif
       decide
       ((0 : Nat) + (i0_2.length + (List.take b.length b).length) ≤
       (List.take i0_2.length i0_2 ++ List.take b.length b).length) &&
       true then
       bif decide ((0 : Nat) + i3_2.length ≤ i3_2.length) && true then
       (l3 PUnit.unit
       (List.take (i0_2.length + (List.take b.length b).length)
       (List.drop (0 : Nat) (List.take i0_2.length i0_2 ++ List.take b.length b)),
       i1_2, i2_2, List.take i3_2.length i3_2, i4_2)).bind
       fun r2 => some (Sum.inr ([], r2.snd))
       else none
       else none
       else
       (l4 PUnit.unit r1.snd).bind fun r2 =>
       (l5 PUnit.unit r2.snd).bind fun r3 =>
       bif decide (r2.fst < (19 : Int)) then
       some
       (Sum.inr
       ([], [], (1 : Int), (2 : Int),
       [IntKind.u8.wrap (Int.fdiv r2.fst (256 : Int)), IntKind.u8.wrap r2.fst], i4_2))
       else
       bif decide (r2.fst > (4096 : Int)) then
       some
       (Sum.inr
       ([], [], (1 : Int), (2 : Int),
       [IntKind.u8.wrap (Int.fdiv r2.fst (256 : Int)), IntKind.u8.wrap r2.fst], i4_2))
       else
       bif decide (r3.fst ≥ (1 : Int)) then
       bif !decide (r3.fst ≤ (5 : Int)) then
       bif
       decide
       ((0 : Nat) + (i0_2.length + (List.take b.length b).length) ≤
       (List.take i0_2.length i0_2 ++ List.take b.length b).length) &&
       true then
       bif decide ((0 : Nat) + i3_2.length ≤ i3_2.length) && true then
       (l6 r3.fst
       (List.take (i0_2.length + (List.take b.length b).length)
       (List.drop (0 : Nat)
       (List.take i0_2.length i0_2 ++ List.take b.length b)),
       i1_2, i2_2, List.take i3_2.length i3_2, i4_2)).bind
       fun r4 => some (Sum.inr ([], r4.snd))
       else none
       else none
       else
       (l7 (r2.fst, r3.fst) PUnit.unit).bind fun r4 =>
       bif r4.fst then
       some
       (Sum.inr
       ([], [], (1 : Int), (2 : Int),
       [IntKind.u8.wrap (Int.fdiv r2.fst (256 : Int)), IntKind.u8.wrap r2.fst],
       i4_2))
       else
       bif
       decide
       ((↑(i0_2.length + (List.take b.length b).length) : Int) < r2.fst) then
       bif
       decide
       ((0 : Nat) + (i0_2.length + (List.take b.length b).length) ≤
       (List.take i0_2.length i0_2 ++ List.take b.length b).length) &&
       true then
       bif decide ((0 : Nat) + i3_2.length ≤ i3_2.length) && true then
       some
       (Sum.inr
       ([],
       List.take (i0_2.length + (List.take b.length b).length)
       (List.drop (0 : Nat)
       (List.take i0_2.length i0_2 ++ List.take b.length b)),
       i1_2, i2_2, List.take i3_2.length i3_2, i4_2))
       else none
       else none
       else
       bif
       decide
       ((0 : Nat) + (i0_2.length + (List.take b.length b).length) ≤
       (List.take i0_2.length i0_2 ++ List.take b.length b).length) &&
       true then
       bif decide ((0 : Nat) + i3_2.length ≤ i3_2.length) && true then
       (l8
       ((List.take (i0_2.length + (List.take b.length b).length)
       (List.drop (0 : Nat)
       (List.take i0_2.length i0_2 ++ List.take b.length b)),
       i1_2, i2_2, List.take i3_2.length i3_2, i4_2),
       r2.fst, r3.fst)
       []).bind
       fun r5 =>
       bif
       decide
       ((0 : Nat) + (i0_2.length + (List.take b.length b).length) ≤
       (List.take i0_2.length i0_2 ++
       List.take b.length b).length) &&
       true then
       bif decide ((0 : Nat) + i3_2.length ≤ i3_2.length) && true then
       (l9 r2.fst
       (List.take (i0_2.length + (List.take b.length b).length)
       (List.drop (0 : Nat)
       (List.take i0_2.length i0_2 ++ List.take b.length b)),
       i1_2, i2_2, List.take i3_2.length i3_2, i4_2)).bind
       fun r6 =>
       bif
       decide
       ((0 : Nat) + List.length r5.fst ≤ List.length r5.fst) &&
       true then
       some
       (Sum.inl
       (r6.snd,
       List.take (List.length r5.fst)
       (List.drop (0 : Nat) r5.fst)))
       else none
       else none
       else none
       else none
       else none
       else
       bif
       decide
       ((0 : Nat) + (i0_2.length + (List.take b.length b).length) ≤
       (List.take i0_2.length i0_2 ++ List.take b.length b).length) &&
       true then
       bif decide ((0 : Nat) + i3_2.length ≤ i3_2.length) && true then
       (l6 r3.fst
       (List.take (i0_2.length + (List.take b.length b).length)
       (List.drop (0 : Nat)
       (List.take i0_2.length i0_2 ++ List.take b.length b)),
       i1_2, i2_2, List.take i3_2.length i3_2, i4_2)).bind
       fun r4 => some (Sum.inr ([], r4.snd))
       else none
       else none
       else none
       else none
       else none
       else none
       else none
theorem r11e (x27 : F27.FT) (x29 : F29.FT) (x32 : F32.FT) (x33 : F33.FT) (x36 : F36.FT) (l44_1 : F44.G1) (l1 : G1) (l2 : G2) (l3 : G3) (l4 : G4) (l5 : G5) (l6 : G6) (l7 : G7) (l8 : G8) (l9 : G9) (l10 : G10) (kd : Unit) (d : (List (Int) × Int × Int × List (Int) × Bool) × List (Int)) : jumpF (tabC Tryd.prog (tab x27 x29 x32 x33 x36 l44_1) (pls x27 x29 x32 x33 x36 l44_1) 100 12) 100 4 (.node .none (.node .none (.node .none (.node .none (.node .none (.node .none (.node .none (.node .none (.node (.unit (u1 l1)) (.node (.node (.unit (u2 l2)) (.node (.node (.unit (u3 l3)) .none) .none)) (.node (.unit (u4 l4)) (.node (.node (.unit (u5 l5)) .none) (.node (.node .none (.node (.node (.unit (u6 l6)) .none) .none)) (.node (.node (.unit (u7 l7)) .none) (.node .none (.node (.unit (u8 l8)) (.node (.unit (u9 l9)) (.node .none (.node .none (.node (.unit (u10 l10)) .none)))))))))))))))))))) (u11 fun _ _ => none) (Un.at (u11 fun _ _ => none) [0, 5] v11) (codeAt [1, 0] (bodyOf Tryd.prog 10)) (codeAt [1, 0] (bodyOf Tryd.prog 10)) 1 kd d = r11P x27 x29 x32 x33 x36 l44_1 l1 l2 l3 l4 l5 l6 l7 l8 l9 l10 kd d := by kernel_rfl
noncomputable def r11 : Unit → ((List (Int) × Int × Int × List (Int) × Bool) × List (Int)) → Option (((List (Int) × Int × Int × List (Int) × Bool) × (List (Int × List (Int)))) ⊕ (((List (Int × List (Int)))) × ((List (Int) × Int × Int × List (Int) × Bool)))) := r11P F27.f F29.f F32.f F33.f F36.f F44.l1 l1 l2 l3 l4 l5 l6 l7 l8 l9 l10
def s11P (x27 : F27.FT) (x29 : F29.FT) (x32 : F32.FT) (x33 : F33.FT) (x36 : F36.FT) (l44_1 : F44.G1) (l1 : G1) (l2 : G2) (l3 : G3) (l4 : G4) (l5 : G5) (l6 : G6) (l7 : G7) (l8 : G8) (l9 : G9) (l10 : G10) : Unit → ((List (Int) × Int × Int × List (Int) × Bool) × (List (Int × List (Int)))) → Option (((List (Int) × Int × Int × List (Int) × Bool) × (List (Int × List (Int)))) ⊕ (((List (Int × List (Int)))) × ((List (Int) × Int × Int × List (Int) × Bool)))) := fun () ((i0_2, i1_2, i2_2, i3_2, i4_2), out) =>
    bif decide ((↑i0_2.length : Int) < (19 : Int)) then
      bif decide ((0 : Nat) + out.length ≤ out.length) && true then
       bif decide ((0 : Nat) + i0_2.length ≤ i0_2.length) && true then
       bif decide ((0 : Nat) + i3_2.length ≤ i3_2.length) && true then
       some
       (Sum.inr
       (List.take out.length out, List.take i0_2.length i0_2, i1_2, i2_2, List.take i3_2.length i3_2, i4_2))
       else none
       else none
      else none
    else
      bif decide ((0 : Nat) + i0_2.length ≤ i0_2.length) && true then
       bif decide ((0 : Nat) + i3_2.length ≤ i3_2.length) && true then
       (l1 (List.take i0_2.length i0_2, i1_2, i2_2, List.take i3_2.length i3_2, i4_2) PUnit.unit).bind fun r0 =>
       (l2 PUnit.unit r0.fst).bind fun r1 =>
       bif r1.fst then
       bif decide ((0 : Nat) + i0_2.length ≤ i0_2.length) && true then
       bif decide ((0 : Nat) + i3_2.length ≤ i3_2.length) && true then
       (l3 PUnit.unit (List.take i0_2.length i0_2, i1_2, i2_2, List.take i3_2.length i3_2, i4_2)).bind
       fun r2 =>
       bif decide ((0 : Nat) + out.length ≤ out.length) && true then
       some (Sum.inr (List.take out.length out, r2.snd))
       else none
       else none
       else none
       else
       (l4 PUnit.unit r1.snd).bind fun r2 =>
       (l5 PUnit.unit r2.snd).bind fun r3 =>
       bif decide (r2.fst < (19 : Int)) then
       bif decide ((0 : Nat) + out.length ≤ out.length) && true then
       some
       (Sum.inr
       (List.take out.length out, [], (1 : Int), (2 : Int),
       [IntKind.u8.wrap (Int.fdiv r2.fst (256 : Int)), IntKind.u8.wrap r2.fst], i4_2))
       else none
       else
       bif decide (r2.fst > (4096 : Int)) then
       bif decide ((0 : Nat) + out.length ≤ out.length) && true then
       some
       (Sum.inr
       (List.take out.length out, [], (1 : Int), (2 : Int),
       [IntKind.u8.wrap (Int.fdiv r2.fst (256 : Int)), IntKind.u8.wrap r2.fst], i4_2))
       else none
       else
       bif decide (r3.fst ≥ (1 : Int)) then
       bif !decide (r3.fst ≤ (5 : Int)) then
       bif decide ((0 : Nat) + i0_2.length ≤ i0_2.length) && true then
       bif decide ((0 : Nat) + i3_2.length ≤ i3_2.length) && true then
       (l6 r3.fst
       (List.take i0_2.length i0_2, i1_2, i2_2, List.take i3_2.length i3_2, i4_2)).bind
       fun r4 =>
       bif decide ((0 : Nat) + out.length ≤ out.length) && true then
       some (Sum.inr (List.take out.length out, r4.snd))
       else none
       else none
       else none
       else
       (l7 (r2.fst, r3.fst) PUnit.unit).bind fun r4 =>
       bif r4.fst then
       bif decide ((0 : Nat) + out.length ≤ out.length) && true then
       some
       (Sum.inr
       (List.take out.length out, [], (1 : Int), (2 : Int),
       [IntKind.u8.wrap (Int.fdiv r2.fst (256 : Int)), IntKind.u8.wrap r2.fst], i4_2))
       else none
       else
       bif decide ((↑i0_2.length : Int) < r2.fst) then
       bif decide ((0 : Nat) + out.length ≤ out.length) && true then
       bif decide ((0 : Nat) + i0_2.length ≤ i0_2.length) && true then
       bif decide ((0 : Nat) + i3_2.length ≤ i3_2.length) && true then
       some
       (Sum.inr
       (List.take out.length out, List.take i0_2.length i0_2, i1_2, i2_2,
       List.take i3_2.length i3_2, i4_2))
       else none
       else none
       else none
       else
       bif decide ((0 : Nat) + i0_2.length ≤ i0_2.length) && true then
       bif decide ((0 : Nat) + i3_2.length ≤ i3_2.length) && true then
       bif decide ((0 : Nat) + out.length ≤ out.length) && true then
       (l8
       ((List.take i0_2.length i0_2, i1_2, i2_2, List.take i3_2.length i3_2, i4_2),
       r2.fst, r3.fst)
       (List.take out.length out)).bind
       fun r5 =>
       bif decide ((0 : Nat) + i0_2.length ≤ i0_2.length) && true then
       bif decide ((0 : Nat) + i3_2.length ≤ i3_2.length) && true then
       (l9 r2.fst
       (List.take i0_2.length i0_2, i1_2, i2_2, List.take i3_2.length i3_2,
       i4_2)).bind
       fun r6 =>
       bif
       decide ((0 : Nat) + List.length r5.fst ≤ List.length r5.fst) &&
       true then
       some
       (Sum.inl
       (r6.snd,
       List.take (List.length r5.fst) (List.drop (0 : Nat) r5.fst)))
       else none
       else none
       else none
       else none
       else none
       else none
       else
       bif decide ((0 : Nat) + i0_2.length ≤ i0_2.length) && true then
       bif decide ((0 : Nat) + i3_2.length ≤ i3_2.length) && true then
       (l6 r3.fst (List.take i0_2.length i0_2, i1_2, i2_2, List.take i3_2.length i3_2, i4_2)).bind
       fun r4 =>
       bif decide ((0 : Nat) + out.length ≤ out.length) && true then
       some (Sum.inr (List.take out.length out, r4.snd))
       else none
       else none
       else none
       else none
      else none
theorem s11e (x27 : F27.FT) (x29 : F29.FT) (x32 : F32.FT) (x33 : F33.FT) (x36 : F36.FT) (l44_1 : F44.G1) (l1 : G1) (l2 : G2) (l3 : G3) (l4 : G4) (l5 : G5) (l6 : G6) (l7 : G7) (l8 : G8) (l9 : G9) (l10 : G10) (kd : Unit) (d : (List (Int) × Int × Int × List (Int) × Bool) × (List (Int × List (Int)))) : jumpF (tabC Tryd.prog (tab x27 x29 x32 x33 x36 l44_1) (pls x27 x29 x32 x33 x36 l44_1) 100 12) 100 4 (.node .none (.node .none (.node (.unit (u1 l1)) (.node (.node (.unit (u2 l2)) (.node (.node (.unit (u3 l3)) .none) .none)) (.node (.unit (u4 l4)) (.node (.node (.unit (u5 l5)) .none) (.node (.node .none (.node (.node (.unit (u6 l6)) .none) .none)) (.node (.node (.unit (u7 l7)) .none) (.node .none (.node (.unit (u8 l8)) (.node (.unit (u9 l9)) (.node .none (.node .none (.node (.unit (u10 l10)) .none)))))))))))))) (Un.at (u11 fun _ _ => none) [0, 5] v11) (Un.at (u11 fun _ _ => none) [0, 5] v11) (codeAt [1, 0] (bodyOf Tryd.prog 10)) (restOf (codeAt [1, 0] (bodyOf Tryd.prog 10)) 1) 1 kd d = s11P x27 x29 x32 x33 x36 l44_1 l1 l2 l3 l4 l5 l6 l7 l8 l9 l10 kd d := by kernel_rfl
noncomputable def s11 : Unit → ((List (Int) × Int × Int × List (Int) × Bool) × (List (Int × List (Int)))) → Option (((List (Int) × Int × Int × List (Int) × Bool) × (List (Int × List (Int)))) ⊕ (((List (Int × List (Int)))) × ((List (Int) × Int × Int × List (Int) × Bool)))) := s11P F27.f F29.f F32.f F33.f F36.f F44.l1 l1 l2 l3 l4 l5 l6 l7 l8 l9 l10
noncomputable def l11 : G11 := fun kd d => scR (r11 kd d) fun d => (iterO (s11 kd) d).map fun r => r
theorem ok11 : UnOk Tryd.prog (u11 l11) (codeAt [1] (bodyOf Tryd.prog 10)) :=
  scopeT (m := 4) (p := (.node .none (.node .none (.node .none (.node .none (.node .none (.node .none (.node .none (.node .none (.node (.unit (u1 l1)) (.node (.node (.unit (u2 l2)) (.node (.node (.unit (u3 l3)) .none) .none)) (.node (.unit (u4 l4)) (.node (.node (.unit (u5 l5)) .none) (.node (.node .none (.node (.node (.unit (u6 l6)) .none) .none)) (.node (.node (.unit (u7 l7)) .none) (.node .none (.node (.unit (u8 l8)) (.node (.unit (u9 l9)) (.node .none (.node .none (.node (.unit (u10 l10)) .none))))))))))))))))))))) (q := (.node .none (.node .none (.node (.unit (u1 l1)) (.node (.node (.unit (u2 l2)) (.node (.node (.unit (u3 l3)) .none) .none)) (.node (.unit (u4 l4)) (.node (.node (.unit (u5 l5)) .none) (.node (.node .none (.node (.node (.unit (u6 l6)) .none) .none)) (.node (.node (.unit (u7 l7)) .none) (.node .none (.node (.unit (u8 l8)) (.node (.unit (u9 l9)) (.node .none (.node .none (.node (.unit (u10 l10)) .none))))))))))))))) (fuel := 100) (depth := 12) (ins := [0, 5]) (i := v11) (c := (codeAt [1, 0] (bodyOf Tryd.prog 10))) (rest := (restOf (codeAt [1, 0] (bodyOf Tryd.prog 10)) 1)) (hd := 1) (cs := fun r => r) mixed tabS plsP rfl (by kernel_rfl) (planOk_of (.node .none (.node .none (.node .none (.node .none (.node .none (.node .none (.node .none (.node .none (.node (.unit (u1 l1)) (.node (.node (.unit (u2 l2)) (.node (.node (.unit (u3 l3)) .none) .none)) (.node (.unit (u4 l4)) (.node (.node (.unit (u5 l5)) .none) (.node (.node .none (.node (.node (.unit (u6 l6)) .none) .none)) (.node (.node (.unit (u7 l7)) .none) (.node .none (.node (.unit (u8 l8)) (.node (.unit (u9 l9)) (.node .none (.node .none (.node (.unit (u10 l10)) .none)))))))))))))))))))) _ [([1, 1, 1, 1, 1, 1, 1, 1, 0], u1 l1), ([1, 1, 1, 1, 1, 1, 1, 1, 1, 0, 0], u2 l2), ([1, 1, 1, 1, 1, 1, 1, 1, 1, 0, 1, 0, 0], u3 l3), ([1, 1, 1, 1, 1, 1, 1, 1, 1, 1, 0], u4 l4), ([1, 1, 1, 1, 1, 1, 1, 1, 1, 1, 1, 0, 0], u5 l5), ([1, 1, 1, 1, 1, 1, 1, 1, 1, 1, 1, 1, 0, 1, 0, 0], u6 l6), ([1, 1, 1, 1, 1, 1, 1, 1, 1, 1, 1, 1, 1, 0, 0], u7 l7), ([1, 1, 1, 1, 1, 1, 1, 1, 1, 1, 1, 1, 1, 1, 1, 0], u8 l8), ([1, 1, 1, 1, 1, 1, 1, 1, 1, 1, 1, 1, 1, 1, 1, 1, 0], u9 l9), ([1, 1, 1, 1, 1, 1, 1, 1, 1, 1, 1, 1, 1, 1, 1, 1, 1, 1, 1, 0], u10 l10)] rfl ⟨ok1, ok2, ok3, ok4, ok5, ok6, ok7, ok8, ok9, ok10, trivial⟩) (planOk_of (.node .none (.node .none (.node (.unit (u1 l1)) (.node (.node (.unit (u2 l2)) (.node (.node (.unit (u3 l3)) .none) .none)) (.node (.unit (u4 l4)) (.node (.node (.unit (u5 l5)) .none) (.node (.node .none (.node (.node (.unit (u6 l6)) .none) .none)) (.node (.node (.unit (u7 l7)) .none) (.node .none (.node (.unit (u8 l8)) (.node (.unit (u9 l9)) (.node .none (.node .none (.node (.unit (u10 l10)) .none)))))))))))))) _ [([1, 1, 0], u1 l1), ([1, 1, 1, 0, 0], u2 l2), ([1, 1, 1, 0, 1, 0, 0], u3 l3), ([1, 1, 1, 1, 0], u4 l4), ([1, 1, 1, 1, 1, 0, 0], u5 l5), ([1, 1, 1, 1, 1, 1, 0, 1, 0, 0], u6 l6), ([1, 1, 1, 1, 1, 1, 1, 0, 0], u7 l7), ([1, 1, 1, 1, 1, 1, 1, 1, 1, 0], u8 l8), ([1, 1, 1, 1, 1, 1, 1, 1, 1, 1, 0], u9 l9), ([1, 1, 1, 1, 1, 1, 1, 1, 1, 1, 1, 1, 1, 0], u10 l10)] rfl ⟨ok1, ok2, ok3, ok4, ok5, ok6, ok7, ok8, ok9, ok10, trivial⟩) (by kernel_rfl) (fun _ _ _ _ _ _ _ _ _ h => ⟨h.so⟩) (fun kd d => r11e F27.f F29.f F32.f F33.f F36.f F44.l1 l1 l2 l3 l4 l5 l6 l7 l8 l9 l10 kd d) (fun kd d => s11e F27.f F29.f F32.f F33.f F36.f F44.l1 l1 l2 l3 l4 l5 l6 l7 l8 l9 l10 kd d) rfl
def fP (x27 : F27.FT) (x29 : F29.FT) (x32 : F32.FT) (x33 : F33.FT) (x36 : F36.FT) (l44_1 : F44.G1) (l11 : G11) : FT := fun ((i0_2, i1_2, i2_2, i3_2, i4_2), b) =>
    bif decide ((0 : Nat) + b.length ≤ b.length) && true then
      (l11 PUnit.unit ((i0_2, i1_2, i2_2, i3_2, i4_2), List.take b.length b)).bind fun r0 =>
       bif decide ((0 : Nat) + List.length r0.fst ≤ List.length r0.fst) && true then
       some (List.take (List.length r0.fst) (List.drop (0 : Nat) r0.fst), r0.snd)
       else none
    else none
theorem fe (x27 : F27.FT) (x29 : F29.FT) (x32 : F32.FT) (x33 : F33.FT) (x36 : F36.FT) (l44_1 : F44.G1) (l11 : G11) (d : (List (Int) × Int × Int × List (Int) × Bool) × List (Int)) : bodyF (tabC Tryd.prog (tab x27 x29 x32 x33 x36 l44_1) ((10, (.node .none (.unit (u11 l11)))) :: pls x27 x29 x32 x33 x36 l44_1) 100 12) 100 10 i o d = fP x27 x29 x32 x33 x36 l44_1 l11 d := by kernel_rfl
noncomputable def f : FT := fP F27.f F29.f F32.f F33.f F36.f F44.l1 l11
def plan (l11 : G11) : Plan := (.node .none (.unit (u11 l11)))
theorem planOk : PlanOk Tryd.prog (plan l11) (bodyOf Tryd.prog 10) := (planOk_of (plan l11) _ [([1], u11 l11)] rfl ⟨ok11, trivial⟩)
theorem meets : MeetsF Tryd.prog 10 ⟨i, o, f⟩ :=
  funcT (fuel := 100) (depth := 12) (pl := (10, plan l11) :: pls F27.f F29.f F32.f F33.f F36.f F44.l1) mixed tabS ⟨planOk, plsP⟩ (fun d => fe F27.f F29.f F32.f F33.f F36.f F44.l1 l11 d)
theorem spec : SpecOk Tryd.prog (fun _ => none) 10 (specF ⟨i, o, f⟩) := specF_ok (by kernel_rfl) meets
end Go.Proofs.YtnmgbheaabdhlaaDoor.F10

/- What comes of function 11 of this program, (*consulate.frame.Intake).Fault, as the engine gives it. -/
namespace Go.Proofs.YtnmgbheaabdhlaaDoor.F11
open Go Go.Proofs Go.Proofs.YtnmgbheaabdhlaaDoor Go.RowKit Go.Proofs.YtnmgbheaabdhlaaDoor.Sx
set_option linter.unusedVariables false
set_option maxRecDepth 100000
def tab (x36 : F36.FT) : List (FuncId × Sx.Spec) := [(36, specF ⟨F36.i, F36.o, x36⟩)]
def pls (x36 : F36.FT) : List (FuncId × Plan) := []
@[reducible] def i : Sh := .pt true 61 (.sl true 5 (.sc (.int .u8) .nil) (.sc (.int .u8) (.sc (.int .u8) (.sl true 5 (.sc (.int .u8) .nil) (.sc .bool .nil))))) .nil
@[reducible] def o : Sh := .ag none (.sc (.int .u8) (.sc (.int .u8) .nil)) (.sl true 5 (.sc (.int .u8) .nil) .nil)
abbrev FT := ((List (Int) × Int × Int × List (Int) × Bool)) → Option (((Int × Int) × List (Int)) × ((List (Int) × Int × Int × List (Int) × Bool)))
theorem tabS : AllS Tryd.prog (tab F36.f) := ⟨F36.spec, trivial⟩
theorem plsP : AllP Tryd.prog (pls F36.f) := trivial
theorem mixed : Tryd.prog.follows .mixedOrders = true := by kernel_rfl
def fP (x36 : F36.FT) : FT := fun (i0_2, i1_2, i2_2, i3_2, i4_2) =>
    bif !i4_2 then some (((0, 0), []), i0_2, i1_2, i2_2, i3_2, i4_2)
    else
      bif decide (0 + i3_2.length ≤ i3_2.length) && true then
       (x36 (List.take i3_2.length i3_2)).bind fun r0 =>
       bif decide (0 + List.length r0.fst ≤ List.length r0.fst) && true then
       bif decide (0 + i0_2.length ≤ i0_2.length) && true then
       bif decide (0 + i3_2.length ≤ i3_2.length) && true then
       some
       (((i1_2, i2_2), List.take (List.length r0.fst) (List.drop 0 r0.fst)), List.take i0_2.length i0_2, i1_2,
       i2_2, List.take i3_2.length i3_2, i4_2)
       else none
       else none
       else none
      else none
theorem fe (x36 : F36.FT) (d : (List (Int) × Int × Int × List (Int) × Bool)) : bodyF (tabC Tryd.prog (tab x36) ((11, .none) :: pls x36) 100 12) 100 11 i o d = fP x36 d := by kernel_rfl
noncomputable def f : FT := fP F36.f
def plan : Plan := .none
theorem planOk : PlanOk Tryd.prog (plan) (bodyOf Tryd.prog 11) := (planOk_of (plan) _ [] (by kernel_rfl) trivial)
theorem meets : MeetsF Tryd.prog 11 ⟨i, o, f⟩ :=
  funcT (fuel := 100) (depth := 12) (pl := (11, plan) :: pls F36.f) mixed tabS ⟨planOk, plsP⟩ (fun d => fe F36.f d)
theorem spec : SpecOk Tryd.prog (fun _ => none) 11 (specF ⟨i, o, f⟩) := specF_ok (by kernel_rfl) meets
end Go.Proofs.YtnmgbheaabdhlaaDoor.F11

/- What comes of function 14 of this program, (*consulate.frame.Intake).Waits, as the engine gives it. -/
namespace Go.Proofs.YtnmgbheaabdhlaaDoor.F14
open Go Go.Proofs Go.Proofs.YtnmgbheaabdhlaaDoor Go.RowKit Go.Proofs.YtnmgbheaabdhlaaDoor.Sx
set_option linter.unusedVariables false
set_option maxRecDepth 100000
def tab : List (FuncId × Sx.Spec) := []
def pls : List (FuncId × Plan) := []
@[reducible] def i : Sh := .pt true 61 (.sl true 5 (.sc (.int .u8) .nil) (.sc (.int .u8) (.sc (.int .u8) (.sl true 5 (.sc (.int .u8) .nil) (.sc .bool .nil))))) .nil
@[reducible] def o : Sh := .sc (.int .i64) .nil
abbrev FT := ((List (Int) × Int × Int × List (Int) × Bool)) → Option (Int × ((List (Int) × Int × Int × List (Int) × Bool)))
theorem tabS : AllS Tryd.prog (tab) := trivial
theorem plsP : AllP Tryd.prog (pls) := trivial
theorem mixed : Tryd.prog.follows .mixedOrders = true := by kernel_rfl
def fP : FT := fun (i0_2, i1_2, i2_2, i3_2, i4_2) =>
    bif !i4_2 then some (0, i0_2, i1_2, i2_2, i3_2, i4_2)
    else
      bif decide (0 + i0_2.length ≤ i0_2.length) && true then
       bif decide (0 + i3_2.length ≤ i3_2.length) && true then
       some ((↑i0_2.length : Int), List.take i0_2.length i0_2, i1_2, i2_2, List.take i3_2.length i3_2, i4_2)
       else none
      else none
theorem fe (d : (List (Int) × Int × Int × List (Int) × Bool)) : bodyF (tabC Tryd.prog (tab) ((14, .none) :: pls) 100 12) 100 14 i o d = fP d := by kernel_rfl
noncomputable def f : FT := fP
def plan : Plan := .none
theorem planOk : PlanOk Tryd.prog (plan) (bodyOf Tryd.prog 14) := (planOk_of (plan) _ [] (by kernel_rfl) trivial)
theorem meets : MeetsF Tryd.prog 14 ⟨i, o, f⟩ :=
  funcT (fuel := 100) (depth := 12) (pl := (14, plan) :: pls) mixed tabS ⟨planOk, plsP⟩ (fun d => fe  d)
theorem spec : SpecOk Tryd.prog (fun _ => none) 14 (specF ⟨i, o, f⟩) := specF_ok (by kernel_rfl) meets
end Go.Proofs.YtnmgbheaabdhlaaDoor.F14

/- What comes of function 13 of this program, bytes.Equal, as the engine gives it. -/
namespace Go.Proofs.YtnmgbheaabdhlaaDoor.F13
open Go Go.Proofs Go.Proofs.YtnmgbheaabdhlaaDoor Go.RowKit Go.Proofs.YtnmgbheaabdhlaaDoor.Sx
set_option linter.unusedVariables false
set_option maxRecDepth 100000
def tab : List (FuncId × Sx.Spec) := []
def pls : List (FuncId × Plan) := []
@[reducible] def i : Sh := .sl false 5 (.sc (.int .u8) .nil) (.sl false 5 (.sc (.int .u8) .nil) .nil)
@[reducible] def o : Sh := .sc .bool .nil
abbrev FT := (List (Int) × List (Int)) → Option (Bool × Unit)
theorem tabS : AllS Tryd.prog (tab) := trivial
theorem plsP : AllP Tryd.prog (pls) := trivial
theorem mixed : Tryd.prog.follows .mixedOrders = true := by kernel_rfl
def fP : FT := fun (a, b) =>
    bif decide (0 + a.length ≤ a.length) then
      bif decide (0 + b.length ≤ b.length) then
       some
       ((ByteArray.mk (Array.mk (List.map (fun n => UInt8.ofNat n.toNat) (List.take a.length a)))).toList ==
       (ByteArray.mk (Array.mk (List.map (fun n => UInt8.ofNat n.toNat) (List.take b.length b)))).toList,
       PUnit.unit)
      else none
    else none
theorem fe (d : List (Int) × List (Int)) : bodyF (tabC Tryd.prog (tab) ((13, .none) :: pls) 100 12) 100 13 i o d = fP d := by kernel_rfl
noncomputable def f : FT := fP
def plan : Plan := .none
theorem planOk : PlanOk Tryd.prog (plan) (bodyOf Tryd.prog 13) := (planOk_of (plan) _ [] (by kernel_rfl) trivial)
theorem meets : MeetsF Tryd.prog 13 ⟨i, o, f⟩ :=
  funcT (fuel := 100) (depth := 12) (pl := (13, plan) :: pls) mixed tabS ⟨planOk, plsP⟩ (fun d => fe  d)
theorem spec : SpecOk Tryd.prog (fun _ => none) 13 (specF ⟨i, o, f⟩) := specF_ok (by kernel_rfl) meets
end Go.Proofs.YtnmgbheaabdhlaaDoor.F13

/- Chapter 3: an intake's calls, in plain lists and numbers: the parts. -/
namespace Go.Proofs.YtnmgbheaabdhlaaDoor.PA
open Go Go.Proofs Go.Proofs.YtnmgbheaabdhlaaDoor.Sx
set_option linter.unusedSimpArgs false
set_option linter.unusedVariables false
theorem take_all {α : Type} (l : List α) : List.take l.length (List.drop 0 l) = l := by simp
theorem le_all (n : Nat) : decide (0 + n ≤ n) = true := decide_eq_true (by omega)
def Bytes (l : List Int) : Prop := ∀ x ∈ l, 0 ≤ x ∧ x ≤ 255
theorem Bytes.drop {l : List Int} (h : Bytes l) (n : Nat) : Bytes (l.drop n) := fun x hx => h x (List.mem_of_mem_drop hx)
theorem Bytes.take {l : List Int} (h : Bytes l) (n : Nat) : Bytes (l.take n) := fun x hx => h x (List.mem_of_mem_take hx)
theorem Bytes.append {l m : List Int} (h : Bytes l) (k : Bytes m) : Bytes (l ++ m) := fun x hx => (List.mem_append.1 hx).elim (h x) (k x)
theorem Bytes.getD {l : List Int} (h : Bytes l) (i : Nat) : 0 ≤ l.getD i 0 ∧ l.getD i 0 ≤ 255 := by
  rw [List.getD_eq_getElem?_getD]
  cases hx : l[i]? with
  | none => simp
  | some x => exact h x (List.mem_of_getElem? hx)
theorem clone {l : List Int} (h : l.length ≤ 1073741824) : F36.f l = some (l, ()) := by
  unfold F36.f
  by_cases h0 : 0 < l.length
  · rw [if_pos h0]
    unfold F36.fP
    have c1 : decide (0 < l.length) = true := decide_eq_true h0
    have c2 : decide (0 + (List.take l.length l).length ≤ 1073741824) = true := decide_eq_true (by rw [List.take_length]; omega)
    have c3 : decide (l.length ≤ 1073741824) = true := decide_eq_true h
    simp only [c1, c2, c3, le_all, cond_true, List.take_length, Nat.zero_add, List.nil_append, decide_true, Bool.and_true, Nat.le_refl, List.drop_zero]
  · rw [if_neg h0]
    have : l = [] := List.length_eq_zero_iff.1 (by omega)
    subst this; rfl
theorem newr {b : List Int} (h : b.length ≤ 1073741824) : F27.f b = some ((b, 0, [(b.length : Int)], 0), ()) := by
  show F27.fP F36.f b = _
  unfold F27.fP
  simp only [le_all, Bool.and_true, cond_true, List.take_length, clone h, Option.bind_some, take_all]
theorem taken {b : List Int} {a n : Nat} (h : a + n ≤ b.length) (hn : 0 < n) (hb : b.length ≤ 1000) : F29.f ((b, (a : Int), [(b.length : Int)], 0), (n : Int)) = some ((b.drop a).take n, b, ((a + n : Nat) : Int), [(b.length : Int)], 0) := by
  show F29.fP F36.f _ = _
  unfold F29.fP
  have c1 : decide ((n : Int) < 0) = false := decide_eq_false (by omega)
  have c2 : ((([(b.length : Int)].length : Nat) : Int) == 0) = false := rfl
  have c3 : decide ((n : Int) > 0) = true := decide_eq_true (by omega)
  have w1 : IntKind.i64.wrap ((a : Int) + n) = ((a + n : Nat) : Int) := by rw [wrap64_id (by omega)]; omega
  have w2 : IntKind.i64.wrap (((a + n : Nat) : Int) - n) = (a : Int) := by rw [wrap64_id (by omega)]; omega
  have z1 : ((0 : Int) != 0) = false := rfl
  have z2 : ((0 : Int) == 0) = true := rfl
  have e1 : IntKind.i64.wrap ((([(b.length : Int)].length : Nat) : Int) - 1) = 0 := rfl
  have d1 : decide ((0 : Int) ≤ 0 ∧ (0 : Int) < (([(b.length : Int)].length : Nat) : Int) ∧ 0 < [(b.length : Int)].length) = true := rfl
  have d2 : decide (0 + (0 : Int).toNat < [(b.length : Int)].length) = true := rfl
  have e2 : [(b.length : Int)].getD (0 + (0 : Int).toNat) 0 = (b.length : Int) := rfl
  have w3 : IntKind.i64.wrap ((b.length : Int) - a) = (b.length : Int) - a := wrap64_id (by omega)
  have d3 : decide ((n : Int) > (b.length : Int) - a) = false := decide_eq_false (by omega)
  have d4 : decide (0 ≤ (a : Int) ∧ (a : Int) ≤ (some ((a + n : Nat) : Int)).getD (b.length : Int) ∧ (some ((a + n : Nat) : Int)).getD (b.length : Int) ≤ (b.length : Int) ∧ 0 + b.length ≤ b.length) = true := decide_eq_true (by simp only [Option.getD_some]; omega)
  have d5 : decide ((a : Int) = (b.length : Int)) = false := decide_eq_false (by omega)
  have d6 : decide (0 + (a : Int).toNat + ((some ((a + n : Nat) : Int)).getD (b.length : Int) - a).toNat ≤ b.length) = true := decide_eq_true (by simp only [Option.getD_some]; omega)
  have e3 : ((some ((a + n : Nat) : Int)).getD (b.length : Int) - a).toNat = n := by simp only [Option.getD_some]; omega
  have e4 : 0 + (a : Int).toNat = a := by omega
  have hl : ((b.drop a).take n).length ≤ 1073741824 := by rw [List.length_take, List.length_drop]; omega
  rw [e4, e3] at d6
  simp only [c1, c2, c3, cond_false, cond_true, w1, w2, w3, z1, z2, e1, e2, e3, e4, d1, d2, d3, d4, d5, d6, le_all, Bool.and_true, Bool.not_true, clone hl, Option.bind_some, take_all, List.take_length]
theorem or_bytes (a b : Int) (ha : 0 ≤ a ∧ a ≤ 255) (hb : 0 ≤ b ∧ b ≤ 255) : ((a * 256).toNat ||| b.toNat : Nat) = (256 * a + b).toNat := by
  obtain ⟨x, rfl⟩ := Int.eq_ofNat_of_zero_le ha.1
  obtain ⟨y, rfl⟩ := Int.eq_ofNat_of_zero_le hb.1
  have h := Nat.two_pow_add_eq_or_of_lt (i := 8) (b := y) (by have := hb.2; omega) x
  have e1 : ((x : Int) * 256).toNat = 2 ^ 8 * x := by omega
  have e2 : (256 * (x : Int) + (y : Int)).toNat = 2 ^ 8 * x + y := by omega
  rw [e1, e2, h]
  rfl
theorem u16w {x : Int} (h : 0 ≤ x ∧ x ≤ 65535) : IntKind.u16.wrap x = x := by
  rw [IntKind.wrap_u16]; omega
theorem u8w {x : Int} (h : 0 ≤ x ∧ x ≤ 255) : IntKind.u8.wrap x = x := by
  rw [IntKind.wrap_u8]; omega
theorem sum16 {x y : Int} (hx : 0 ≤ x ∧ x ≤ 255) (hy : 0 ≤ y ∧ y ≤ 255) : F46.l1 ([x, y], 2) (0, 0) = some (256 * x + y, ()) := by
  refine iterO_iff.2 ⟨3, ?_⟩
  have r0 : F46.r1 ([x, y], 2) (0, 0) = some (.inl (x, 1)) := by
    show F46.r1P F29.f ([x, y], 2) (0, 0) = _
    unfold F46.r1P
    have : IntKind.u16.wrap (((IntKind.u16.wrap (IntKind.u16.wrap (0 * 128) * 2) % 65536).toNat ||| (IntKind.u16.wrap x % 65536).toNat : Nat) : Int) = x := by
      rw [u16w (x := x) (by omega), show IntKind.u16.wrap (IntKind.u16.wrap (0 * 128) * 2) % 65536 = 0 by decide, show x % 65536 = x by omega]
      simp only [Int.toNat_zero, Nat.zero_or]
      rw [u16w (by omega)]; omega
    exact congrArg (fun z : Int => (some (Sum.inl (z, (1 : Int))) : Option ((Int × Int) ⊕ (Int × Unit)))) this
  have r1 : F46.r1 ([x, y], 2) (x, 1) = some (.inl (256 * x + y, 2)) := by
    show F46.r1P F29.f ([x, y], 2) (x, 1) = _
    unfold F46.r1P
    have : IntKind.u16.wrap (((IntKind.u16.wrap (IntKind.u16.wrap (x * 128) * 2) % 65536).toNat ||| (IntKind.u16.wrap y % 65536).toNat : Nat) : Int) = 256 * x + y := by
      rw [u16w (x := y) (by omega), u16w (x := x * 128) (by omega), u16w (x := x * 128 * 2) (by omega), show x * 128 * 2 % 65536 = x * 256 by omega, show y % 65536 = y by omega, or_bytes x y hx hy, u16w (by omega)]
      omega
    exact congrArg (fun z : Int => (some (Sum.inl (z, (2 : Int))) : Option ((Int × Int) ⊕ (Int × Unit)))) this
  rw [iterN_step, r0, scR_inl, iterN_step, r1, scR_inl, iterN_step]
  rfl
theorem sum8 {x : Int} (hx : 0 ≤ x ∧ x ≤ 255) : F47.l1 ([x], 1) (0, 0) = some (x, ()) := by
  refine iterO_iff.2 ⟨2, ?_⟩
  have r0 : F47.r1 ([x], 1) (0, 0) = some (.inl (x, 1)) := by
    show F47.r1P F29.f ([x], 1) (0, 0) = _
    unfold F47.r1P
    have : IntKind.u8.wrap (((IntKind.u8.wrap (IntKind.u8.wrap (0 * 128) * 2) % 256).toNat ||| (x % 256).toNat : Nat) : Int) = x := by
      rw [show IntKind.u8.wrap (IntKind.u8.wrap (0 * 128) * 2) % 256 = 0 by decide, show x % 256 = x by omega]
      simp only [Int.toNat_zero, Nat.zero_or]
      rw [u8w (by omega)]; omega
    exact congrArg (fun z : Int => (some (Sum.inl (z, (1 : Int))) : Option ((Int × Int) ⊕ (Int × Unit)))) this
  rw [iterN_step, r0, scR_inl, iterN_step]
  rfl
theorem two_of {b : List Int} {a : Nat} (h : a + 2 ≤ b.length) : (b.drop a).take 2 = [b.getD a 0, b.getD (a + 1) 0] := by
  rw [List.getD_eq_getElem?_getD, List.getD_eq_getElem?_getD, List.getElem?_eq_getElem (by omega), List.getElem?_eq_getElem (by omega)]
  rw [List.drop_eq_getElem_cons (by omega), List.drop_eq_getElem_cons (by omega)]
  rfl
theorem one_of {b : List Int} {a : Nat} (h : a + 1 ≤ b.length) : (b.drop a).take 1 = [b.getD a 0] := by
  rw [List.getD_eq_getElem?_getD, List.getElem?_eq_getElem (by omega), List.drop_eq_getElem_cons (by omega)]
  rfl
theorem twoP {b : List Int} {a : Nat} (h : a + 2 ≤ b.length) (hb : b.length ≤ 1000) (hB : Bytes b) : F32.f (b, (a : Int), [(b.length : Int)], 0) = some (256 * b.getD a 0 + b.getD (a + 1) 0, b, ((a + 2 : Nat) : Int), [(b.length : Int)], 0) := by
  show F32.fP F29.f F46.l1 _ = _
  unfold F32.fP
  have t : F29.f ((b, (a : Int), [(b.length : Int)], 0), (2 : Int)) = some ((b.drop a).take 2, b, ((a + 2 : Nat) : Int), [(b.length : Int)], 0) := taken (b := b) (a := a) (n := 2) h (by omega) hb
  simp only [t, Option.bind_some, le_all, Bool.and_true, cond_true, take_all, two_of h]
  rw [show (([b.getD a 0, b.getD (a + 1) 0].length : Nat) : Int) = 2 from rfl, sum16 (hB.getD _) (hB.getD _)]
  rfl
theorem byteP {b : List Int} {a : Nat} (h : a + 1 ≤ b.length) (hb : b.length ≤ 1000) (hB : Bytes b) : F33.f (b, (a : Int), [(b.length : Int)], 0) = some (b.getD a 0, b, ((a + 1 : Nat) : Int), [(b.length : Int)], 0) := by
  show F33.fP F29.f F47.l1 _ = _
  unfold F33.fP
  have t : F29.f ((b, (a : Int), [(b.length : Int)], 0), (1 : Int)) = some ((b.drop a).take 1, b, ((a + 1 : Nat) : Int), [(b.length : Int)], 0) := taken (b := b) (a := a) (n := 1) h (by omega) hb
  simp only [t, Option.bind_some, le_all, Bool.and_true, cond_true, take_all, one_of h]
  rw [show (([b.getD a 0].length : Nat) : Int) = 1 from rfl, sum8 (hB.getD _)]
  rfl
end Go.Proofs.YtnmgbheaabdhlaaDoor.PA

/- Chapter 3: what an intake makes of its bytes: one message's worth, and all. -/
namespace Go.Proofs.YtnmgbheaabdhlaaDoor.PB
open Go Go.Proofs Go.Proofs.YtnmgbheaabdhlaaDoor.Sx Go.Proofs.YtnmgbheaabdhlaaDoor.PA
set_option linter.unusedSimpArgs false
set_option linter.unusedVariables false
/-- Is a length one of a type's? -/
def fit (n t : Int) : Bool := if t = 1 then decide (29 ≤ n) else if t = 2 then decide (23 ≤ n) else if t = 3 then decide (21 ≤ n) else if t = 4 then decide (n = 19) else decide (n = 23)
inductive Res where
  | wait
  | fault (sub : Int) (data : List Int)
  | msg (n : Nat) (t : Int)
def len (b : List Int) : Int := 256 * b.getD 16 0 + b.getD 17 0
/-- What the first bytes tell. -/
def hd (b : List Int) : Res :=
  if b.length < 19 then .wait
  else if (b.take 16).any (· != 255) then .fault 1 []
  else if len b < 19 ∨ 4096 < len b then .fault 2 [b.getD 16 0, b.getD 17 0]
  else if b.getD 18 0 < 1 ∨ 5 < b.getD 18 0 then .fault 3 [b.getD 18 0]
  else if fit (len b) (b.getD 18 0) = false then .fault 2 [b.getD 16 0, b.getD 17 0]
  else if b.length < (len b).toNat then .wait
  else .msg (len b).toNat (b.getD 18 0)
abbrev IS := List Int × Int × Int × List Int × Bool
theorem find {s : List Int} (hs : s.length ≤ 1000) : ∃ x k : Int, F44.l1 (s, PUnit.unit, (s.length : Int)) 0 = some ((x, k), ()) ∧ ((s.any (· != 255) = true ∧ x = 1 ∧ 0 ≤ k) ∨ (s.any (· != 255) = false ∧ x = 0)) := by
  have round : ∀ z : Int, (0 ≤ z ∧ z ≤ s.length ∧ (s.take z.toNat).any (· != 255) = false) →
      (∃ z', F44.r1 (s, PUnit.unit, (s.length : Int)) z = some (.inl z') ∧ (0 ≤ z' ∧ z' ≤ s.length ∧ (s.take z'.toNat).any (· != 255) = false) ∧ (s.length - z'.toNat) < (s.length - z.toNat)) ∨
      (∃ r, F44.r1 (s, PUnit.unit, (s.length : Int)) z = some (.inr r) ∧ ∃ x k : Int, r = ((x, k), ()) ∧ ((s.any (· != 255) = true ∧ x = 1 ∧ 0 ≤ k) ∨ (s.any (· != 255) = false ∧ x = 0))) := by
    rintro z ⟨z0, z1, hz⟩
    obtain ⟨i, rfl⟩ := Int.eq_ofNat_of_zero_le z0
    have hr : F44.r1 (s, PUnit.unit, (s.length : Int)) (i : Int) = F44.r1P (s, PUnit.unit, (s.length : Int)) (i : Int) := rfl
    rw [hr]
    unfold F44.r1P
    by_cases hi : i < s.length
    · have c1 : decide ((i : Int) < (s.length : Int)) = true := decide_eq_true (by omega)
      have c2 : decide (0 ≤ (i : Int) ∧ (i : Int) < (s.length : Int) ∧ 0 < s.length) = true := decide_eq_true (by omega)
      have c3 : decide (0 + (i : Int).toNat < s.length) = true := decide_eq_true (by omega)
      have e1 : 0 + (i : Int).toNat = i := by omega
      have eg : s.getD i 0 = s[i] := by rw [List.getD_eq_getElem?_getD, List.getElem?_eq_getElem hi]; rfl
      rw [e1] at c3
      by_cases hx : s[i] = 255
      · left
        have c4 : (s.getD i 0 != 255) = false := by rw [eg, hx]; rfl
        refine ⟨((i + 1 : Nat) : Int), ?_, ⟨by omega, by omega, ?_⟩, by omega⟩
        · simp only [c1, c2, e1, c3, c4, cond_true, cond_false]
          rw [wrap64_id (by omega)]
          rfl
        · have e2 : ((i + 1 : Nat) : Int).toNat = i + 1 := by omega
          have e3 : (i : Int).toNat = i := by omega
          rw [e3] at hz
          rw [e2, List.take_add_one, List.any_append, hz, List.getElem?_eq_getElem hi, hx]
          rfl
      · right
        have c4 : (s.getD i 0 != 255) = true := by rw [eg]; simpa using hx
        refine ⟨((1, (i : Int)), ()), ?_, 1, i, rfl, .inl ⟨?_, rfl, by omega⟩⟩
        · simp only [c1, c2, e1, c3, c4, cond_true, cond_false]
        · rw [List.any_eq_true]
          exact ⟨s[i], List.getElem_mem hi, by simpa using hx⟩
    · right
      have c1 : decide ((i : Int) < (s.length : Int)) = false := decide_eq_false (by omega)
      have e3 : (i : Int).toNat = s.length := by omega
      rw [e3, List.take_length] at hz
      exact ⟨((0, 0), ()), by simp only [c1, cond_false], 0, 0, rfl, .inr ⟨hz, rfl⟩⟩
  obtain ⟨r, e, x, k, h1, h2⟩ := iterO_inv (f := F44.r1 (s, PUnit.unit, (s.length : Int))) (fun z => 0 ≤ z ∧ z ≤ s.length ∧ (s.take z.toNat).any (· != 255) = false) (fun z => s.length - z.toNat)
    (fun r => ∃ x k : Int, r = ((x, k), ()) ∧ ((s.any (· != 255) = true ∧ x = 1 ∧ 0 ≤ k) ∨ (s.any (· != 255) = false ∧ x = 0))) round 0 ⟨by omega, by omega, by simp⟩
  subst h1
  exact ⟨x, k, e, h2⟩
abbrev Rd := List Int × Int × List Int × Int
section
variable {b : List Int} {c s : Int} {d : List Int} (h19 : 19 ≤ b.length) (hB : Bytes b)
theorem h19l (h19 : 19 ≤ b.length) : (b.take 19).length = 19 := by rw [List.length_take]; omega
theorem getD_take {i n : Nat} (h : i < n) : (b.take n).getD i 0 = b.getD i 0 := by
  rw [List.getD_eq_getElem?_getD, List.getD_eq_getElem?_getD, List.getElem?_take, if_pos h]
theorem g1 (h19 : 19 ≤ b.length) : F10.l1 (b, c, s, d, true) PUnit.unit = some ((b.take 19, (0 : Int), [(((b.take 19).length : Nat) : Int)], (0 : Int)), PUnit.unit) := by
  unfold F10.l1 F10.r1 F10.r1P
  have c1 : decide ((0 : Int) ≤ (some (19 : Int)).getD (b.length : Int) ∧ (some (19 : Int)).getD (b.length : Int) ≤ (b.length : Int) ∧ 0 + b.length ≤ b.length) = true := decide_eq_true (by simp only [Option.getD_some]; omega)
  have c2 : decide (0 + ((some (19 : Int)).getD (b.length : Int)).toNat ≤ b.length) = true := decide_eq_true (by simp only [Option.getD_some]; omega)
  have e1 : ((some (19 : Int)).getD (b.length : Int)).toNat = 19 := rfl
  rw [e1] at c2
  simp only [c1, e1, c2, cond_true, Bool.and_true, newr (b := b.take 19) (by rw [h19l h19]; omega), Option.bind_some]
theorem g2 (h19 : 19 ≤ b.length) : F10.l2 PUnit.unit (b.take 19, (0 : Int), [(((b.take 19).length : Nat) : Int)], (0 : Int)) = some ((b.take 16).any (· != 255), b.take 19, ((16 : Nat) : Int), [(((b.take 19).length : Nat) : Int)], 0) := by
  unfold F10.l2 F10.r2 F10.r2P
  have t : F29.f ((b.take 19, (0 : Int), [(((b.take 19).length : Nat) : Int)], (0 : Int)), (16 : Int)) = _ := taken (b := b.take 19) (a := 0) (n := 16) (by rw [h19l h19]; omega) (by omega) (by rw [h19l h19]; omega)
  have e16 : ((b.take 19).drop 0).take 16 = b.take 16 := by rw [List.drop_zero, List.take_take]; rfl
  rw [e16] at t
  obtain ⟨x, k, f1, f2⟩ := find (s := b.take 16) (by rw [List.length_take]; omega)
  have f1' : F44.l1 (b.take 16, PUnit.unit, ((b.take 16).length : Int)) (OfNat.ofNat (0 : Nat)) = some ((x, k), ()) := f1
  simp only [t, Option.bind_some, le_all, Bool.and_true, cond_true, take_all, f1']
  rcases f2 with ⟨f2, rfl, hk⟩ | ⟨f2, rfl⟩
  · have c1 : decide (k ≥ 0) = true := decide_eq_true hk
    rw [f2]
    simp only [c1, show decide ((1 : Int) = 0) = false from rfl, show decide ((1 : Int) = 1) = true from rfl, cond_true, cond_false]
    rfl
  · rw [f2]
    simp only [show decide ((0 : Int) = 0) = true from rfl, cond_true]
    rfl
theorem g4 (h19 : 19 ≤ b.length) (hB : Bytes b) : F10.l4 PUnit.unit (b.take 19, ((16 : Nat) : Int), [(((b.take 19).length : Nat) : Int)], 0) = some (len b, b.take 19, ((18 : Nat) : Int), [(((b.take 19).length : Nat) : Int)], 0) := by
  unfold F10.l4 F10.r4 F10.r4P
  have h1 := hB.getD 16
  have h2 := hB.getD (16 + 1)
  simp only [twoP (b := b.take 19) (a := 16) (by rw [h19l h19]; omega) (by rw [h19l h19]; omega) (hB.take _), Option.bind_some, getD_take (show 16 < 19 by omega), getD_take (show 16 + 1 < 19 by omega)]
  rw [wrap64_id (by omega)]
  rfl
theorem g5 (h19 : 19 ≤ b.length) (hB : Bytes b) : F10.l5 PUnit.unit (b.take 19, ((18 : Nat) : Int), [(((b.take 19).length : Nat) : Int)], 0) = some (b.getD 18 0, b.take 19, ((19 : Nat) : Int), [(((b.take 19).length : Nat) : Int)], 0) := by
  unfold F10.l5 F10.r5 F10.r5P
  simp only [byteP (b := b.take 19) (a := 18) (by rw [h19l h19]; omega) (by rw [h19l h19]; omega) (hB.take _), Option.bind_some, getD_take (show 18 < 19 by omega)]
end
theorem g7 {n t : Int} (ht : 1 ≤ t ∧ t ≤ 5) (hn : 19 ≤ n ∧ n ≤ 4096) : F10.l7 (n, t) PUnit.unit = some (!fit n t, PUnit.unit) := by
  unfold F10.l7 F10.r7 F10.r7P fit
  have hc : t = 1 ∨ t = 2 ∨ t = 3 ∨ t = 4 ∨ t = 5 := by omega
  have c3 : decide (n ≤ 4096) = true := decide_eq_true hn.2
  rcases hc with rfl | rfl | rfl | rfl | rfl
  · by_cases h : 29 ≤ n
    · simp [show Nat.beq 1 0 = false from rfl, show Nat.beq 1 1 = true from rfl, h, c3, hn.2]
    · simp [show Nat.beq 1 0 = false from rfl, show Nat.beq 1 1 = true from rfl, h]
  · by_cases h : 23 ≤ n
    · simp [show Nat.beq 2 0 = false from rfl, show Nat.beq 2 1 = false from rfl, show Nat.beq 2 2 = true from rfl, h, c3, hn.2]
    · simp [show Nat.beq 2 0 = false from rfl, show Nat.beq 2 1 = false from rfl, show Nat.beq 2 2 = true from rfl, h]
  · by_cases h : 21 ≤ n
    · simp [show Nat.beq 3 0 = false from rfl, show Nat.beq 3 1 = false from rfl, show Nat.beq 3 2 = false from rfl, show Nat.beq 3 3 = true from rfl, h, c3, hn.2]
    · simp [show Nat.beq 3 0 = false from rfl, show Nat.beq 3 1 = false from rfl, show Nat.beq 3 2 = false from rfl, show Nat.beq 3 3 = true from rfl, h]
  · by_cases h : n = 19
    · simp [show Nat.beq 4 0 = false from rfl, show Nat.beq 4 1 = false from rfl, show Nat.beq 4 2 = false from rfl, show Nat.beq 4 3 = false from rfl, show Nat.beq 4 4 = true from rfl, h]
    · have : ¬ n ≤ 19 := by omega
      have h2 : 19 ≤ n := hn.1
      simp [show Nat.beq 4 0 = false from rfl, show Nat.beq 4 1 = false from rfl, show Nat.beq 4 2 = false from rfl, show Nat.beq 4 3 = false from rfl, show Nat.beq 4 4 = true from rfl, h, this, h2]
  · by_cases h : n = 23
    · simp [show Nat.beq 5 0 = false from rfl, show Nat.beq 5 1 = false from rfl, show Nat.beq 5 2 = false from rfl, show Nat.beq 5 3 = false from rfl, show Nat.beq 5 4 = false from rfl, show Nat.beq 5 5 = true from rfl, h]
    · by_cases h2 : 23 ≤ n
      · have : ¬ n ≤ 23 := by omega
        simp [show Nat.beq 5 0 = false from rfl, show Nat.beq 5 1 = false from rfl, show Nat.beq 5 2 = false from rfl, show Nat.beq 5 3 = false from rfl, show Nat.beq 5 4 = false from rfl, show Nat.beq 5 5 = true from rfl, h, h2, this]
      · simp [show Nat.beq 5 0 = false from rfl, show Nat.beq 5 1 = false from rfl, show Nat.beq 5 2 = false from rfl, show Nat.beq 5 3 = false from rfl, show Nat.beq 5 4 = false from rfl, show Nat.beq 5 5 = true from rfl, h, h2]
theorem g8 {b : List Int} {c s : Int} {d : List Int} {n : Nat} {t : Int} {out : List (Int × List Int)} (h1 : 19 ≤ n) (h2 : n ≤ b.length) (h3 : b.length ≤ 1000000) (ho : out.length ≤ 1000000) :
    F10.l8 ((b, c, s, d, true), (n : Int), t) out = some (out ++ [(t, (b.drop 19).take (n - 19))], PUnit.unit) := by
  unfold F10.l8 F10.r8 F10.r8P
  have e1 : (some (n : Int)).getD (b.length : Int) = n := rfl
  have c1 : decide ((0 : Int) ≤ 19 ∧ (19 : Int) ≤ (n : Int) ∧ (n : Int) ≤ (b.length : Int) ∧ 0 + b.length ≤ b.length) = true := decide_eq_true (by omega)
  have e2 : ((n : Int) - 19).toNat = n - 19 := by omega
  have hl : ((b.drop 19).take (n - 19)).length = n - 19 := by rw [List.length_take, List.length_drop]; omega
  have c2 : decide (19 + (n - 19) ≤ b.length) = true := decide_eq_true (by omega)
  have c3 : decide (0 + (n - 19) ≤ ((b.drop 19).take (n - 19)).length) = true := decide_eq_true (by rw [hl]; omega)
  have e3 : ((b.drop 19).take (n - 19)).take (n - 19) = (b.drop 19).take (n - 19) := by rw [List.take_take]; simp
  have e4 : 2 / OfNat.ofNat 2 = 1 := rfl
  have c4 : decide (out.length + 1 ≤ 1073741824) = true := decide_eq_true (by omega)
  have c5 : decide (0 + (out.length + 1) ≤ (out ++ [(t, (b.drop 19).take (n - 19))]).length) = true := decide_eq_true (by simp)
  have e5 : (out ++ [(t, (b.drop 19).take (n - 19))]).take (out.length + 1) = out ++ [(t, (b.drop 19).take (n - 19))] := List.take_of_length_le (by simp)
  simp only [e1, c1, e2, c2, c3, cond_true, Bool.and_true, List.drop_zero, e3, clone (l := (b.drop 19).take (n - 19)) (by rw [hl]; omega), Option.bind_some, e4, c4, le_all, List.take_length, c5, e5]
theorem g9 {b : List Int} {c s : Int} {d : List Int} {n : Nat} (h1 : n ≤ b.length) : F10.l9 (n : Int) (b, c, s, d, true) = some (PUnit.unit, b.drop n, c, s, d, true) := by
  unfold F10.l9 F10.r9 F10.r9P
  have e1 : (none : Option Int).getD (b.length : Int) = b.length := rfl
  have c1 : decide ((0 : Int) ≤ (n : Int) ∧ (n : Int) ≤ (b.length : Int) ∧ (b.length : Int) ≤ (b.length : Int) ∧ 0 + b.length ≤ b.length) = true := decide_eq_true (by omega)
  by_cases he : n = b.length
  · have c2 : decide ((n : Int) = (b.length : Int)) = true := decide_eq_true (by omega)
    have c3 : decide ((0 : Nat) ≤ 0 + b.length ∧ 0 + b.length ≤ b.length) = true := decide_eq_true (by omega)
    have e2 : b.drop n = [] := List.drop_of_length_le (by omega)
    simp only [e1, c1, c2, c3, e2, cond_true, Bool.and_true, le_all, List.take_length]
  · have c2 : decide ((n : Int) = (b.length : Int)) = false := decide_eq_false (by omega)
    have e2 : ((b.length : Int) - n).toNat = b.length - n := by omega
    have e3 : 0 + (n : Int).toNat = n := by omega
    have c3 : decide (n + (b.length - n) ≤ b.length) = true := decide_eq_true (by omega)
    have e4 : (b.drop n).take (b.length - n) = b.drop n := List.take_of_length_le (by rw [List.length_drop]; omega)
    simp only [e1, c1, c2, e2, e3, c3, e4, cond_true, cond_false, Bool.and_true, le_all, List.take_length]
end Go.Proofs.YtnmgbheaabdhlaaDoor.PB

/- Chapter 3: Feed is the reading of what waits and what came. -/
namespace Go.Proofs.YtnmgbheaabdhlaaDoor.PC
open Go Go.Proofs Go.Proofs.YtnmgbheaabdhlaaDoor.Sx Go.Proofs.YtnmgbheaabdhlaaDoor.PA Go.Proofs.YtnmgbheaabdhlaaDoor.PB
set_option linter.unusedSimpArgs false
set_option linter.unusedVariables false
abbrev Msg := Int × List Int
abbrev W (b : List Int) : IS := (b, 0, 0, [], true)
abbrev Fa (s : Int) (d : List Int) : IS := ([], 1, s, d, true)
theorem hd_msg {b : List Int} {n : Nat} {t : Int} (h : hd b = .msg n t) : 19 ≤ n ∧ n ≤ b.length ∧ (n : Int) = len b ∧ n ≤ 4096 ∧ t = b.getD 18 0 ∧ 1 ≤ t ∧ t ≤ 5 ∧ fit n t = true ∧ (b.take 16).any (· != 255) = false := by
  unfold hd at h
  split at h
  · cases h
  split at h
  · cases h
  split at h
  · cases h
  split at h
  · cases h
  split at h
  · cases h
  split at h
  · cases h
  rename_i h1 h2 h3 h4 h5 h6
  simp only [Res.msg.injEq] at h
  obtain ⟨rfl, rfl⟩ := h
  have e : (((len b).toNat : Nat) : Int) = len b := by omega
  refine ⟨by omega, by omega, e, by omega, rfl, by omega, by omega, ?_, by simpa using h2⟩
  rw [e]
  simpa using h5
def body (b : List Int) (n : Nat) : List Int := (b.drop 19).take (n - 19)
def parse (b : List Int) : List Msg × IS :=
  match h : hd b with
  | .wait => ([], W b)
  | .fault s d => ([], Fa s d)
  | .msg n t => let r := parse (b.drop n); ((t, body b n) :: r.1, r.2)
termination_by b.length
decreasing_by
  have := hd_msg h
  rw [List.length_drop]
  omega
theorem parse_wait {b : List Int} (h : hd b = .wait) : parse b = ([], W b) := by
  rw [parse]; split <;> simp_all
theorem parse_fault {b : List Int} {s : Int} {d : List Int} (h : hd b = .fault s d) : parse b = ([], Fa s d) := by
  rw [parse]; split <;> simp_all
theorem parse_msg {b : List Int} {n : Nat} {t : Int} (h : hd b = .msg n t) : parse b = ((t, body b n) :: (parse (b.drop n)).1, (parse (b.drop n)).2) := by
  rw [parse]; split <;> simp_all
/-- A round. -/
def rd (b : List Int) (out : List Msg) : (IS × List Msg) ⊕ (List Msg × IS) :=
  match hd b with
  | .wait => .inr (out, W b)
  | .fault s d => .inr (out, Fa s d)
  | .msg n t => .inl (W (b.drop n), out ++ [(t, body b n)])
theorem long0 {x y : Int} (hx : 0 ≤ x ∧ x ≤ 255) (hy : 0 ≤ y ∧ y ≤ 255) : IntKind.u8.wrap (Int.fdiv (256 * x + y) 256) = x := by
  rw [Int.fdiv_eq_ediv_of_nonneg _ (by omega), IntKind.wrap_u8]; omega
theorem long1 {x y : Int} (hx : 0 ≤ x ∧ x ≤ 255) (hy : 0 ≤ y ∧ y ≤ 255) : IntKind.u8.wrap (256 * x + y) = y := by
  rw [IntKind.wrap_u8]; omega
theorem round {b : List Int} {out : List Msg} (hB : Bytes b) (hb : b.length ≤ 1000000) (ho : out.length ≤ 1000000) : F10.s11 PUnit.unit (W b, out) = some (rd b out) := by
  unfold F10.s11 F10.s11P rd hd
  have h16 := hB.getD 16
  have h17 := hB.getD 17
  by_cases h1 : b.length < 19
  · have c1 : decide ((b.length : Int) < 19) = true := decide_eq_true (by omega)
    rw [if_pos h1]
    simp only [c1, le_all, cond_true, Bool.and_true, List.take_length]
  have c1 : decide ((b.length : Int) < 19) = false := decide_eq_false (by omega)
  have h19 : 19 ≤ b.length := by omega
  rw [if_neg h1]
  simp only [c1, le_all, cond_true, cond_false, Bool.and_true, List.take_length, g1 h19, g2 h19, Option.bind_some]
  cases h2 : (b.take 16).any (· != 255) with
  | true =>
    simp only [cond_true, if_true, F10.l3, F10.r3, F10.r3P, Option.bind_some]
  | false =>
  simp only [cond_false, Bool.false_eq_true, if_false, g4 h19 hB, g5 h19 hB, Option.bind_some]
  have e0 : IntKind.u8.wrap (Int.fdiv (len b) 256) = b.getD 16 0 := long0 h16 h17
  have e1 : IntKind.u8.wrap (len b) = b.getD 17 0 := long1 h16 h17
  by_cases h3 : len b < 19
  · rw [if_pos (.inl h3), decide_eq_true h3]
    simp only [cond_true, e0, e1]
  rw [decide_eq_false h3]
  by_cases h4 : 4096 < len b
  · rw [if_pos (.inr h4), decide_eq_true (show len b > 4096 from h4)]
    simp only [cond_true, cond_false, e0, e1]
  rw [if_neg (by omega), decide_eq_false (show ¬ len b > 4096 by omega)]
  by_cases h5 : b.getD 18 0 < 1
  · rw [if_pos (.inl h5), decide_eq_false (show ¬ b.getD 18 0 ≥ 1 by omega)]
    simp only [cond_false, F10.l6, F10.r6, F10.r6P, Option.bind_some]
  rw [decide_eq_true (show b.getD 18 0 ≥ 1 by omega)]
  by_cases h6 : 5 < b.getD 18 0
  · rw [if_pos (.inr h6), decide_eq_false (show ¬ b.getD 18 0 ≤ 5 by omega)]
    simp only [cond_false, cond_true, Bool.not_false, F10.l6, F10.r6, F10.r6P, Option.bind_some]
  rw [if_neg (by omega), decide_eq_true (show b.getD 18 0 ≤ 5 by omega)]
  simp only [cond_false, cond_true, Bool.not_true, g7 (n := len b) (t := b.getD 18 0) ⟨by omega, by omega⟩ ⟨by omega, by omega⟩, Option.bind_some]
  cases h7 : fit (len b) (b.getD 18 0) with
  | false => simp only [cond_true, Bool.not_false, if_true, e0, e1]
  | true =>
  simp only [cond_false, Bool.not_true, Bool.true_eq_false, if_false]
  by_cases h8 : (b.length : Int) < len b
  · rw [if_pos (by omega), decide_eq_true h8]
    simp only [cond_true]
  rw [if_neg (by omega), decide_eq_false h8]
  obtain ⟨n, hn⟩ := Int.eq_ofNat_of_zero_le (show 0 ≤ len b by omega)
  have e2 : (len b).toNat = n := by omega
  simp only [cond_false]
  rw [e2, hn]
  simp only [g8 (n := n) (show 19 ≤ n by omega) (show n ≤ b.length by omega) hb ho, g9 (n := n) (show n ≤ b.length by omega), Option.bind_some, le_all, cond_true, take_all, body]
theorem first {b0 c : List Int} (hB : Bytes (b0 ++ c)) (hb : (b0 ++ c).length ≤ 1000000) : F10.r11 PUnit.unit (W b0, c) = some (rd (b0 ++ c) []) := by
  have hlen : b0.length + c.length = (b0 ++ c).length := List.length_append.symm
  have ha : List.take (b0 ++ c).length (List.drop 0 (b0 ++ c)) = b0 ++ c := take_all _
  unfold F10.r11 F10.r11P rd hd
  have c0 : ((0 : Int) != 0) = false := rfl
  have cc : decide ((b0 ++ c).length ≤ 1073741824) = true := decide_eq_true (by omega)
  simp only [c0, Bool.not_true, cond_false, List.take_length, hlen, le_all, cond_true, cc, ha]
  have ho : ([] : List Msg).length ≤ 1000000 := by simp
  generalize b0 ++ c = b at *
  have h16 := hB.getD 16
  have h17 := hB.getD 17
  by_cases h1 : b.length < 19
  · have c1 : decide ((b.length : Int) < 19) = true := decide_eq_true (by omega)
    rw [if_pos h1]
    simp only [c1, le_all, cond_true, Bool.and_true, List.take_length]
  have c1 : decide ((b.length : Int) < 19) = false := decide_eq_false (by omega)
  have h19 : 19 ≤ b.length := by omega
  rw [if_neg h1]
  simp only [c1, le_all, cond_true, cond_false, Bool.and_true, List.take_length, g1 h19, g2 h19, Option.bind_some]
  cases h2 : (b.take 16).any (· != 255) with
  | true =>
    simp only [cond_true, if_true, F10.l3, F10.r3, F10.r3P, Option.bind_some]
  | false =>
  simp only [cond_false, Bool.false_eq_true, if_false, g4 h19 hB, g5 h19 hB, Option.bind_some]
  have e0 : IntKind.u8.wrap (Int.fdiv (len b) 256) = b.getD 16 0 := long0 h16 h17
  have e1 : IntKind.u8.wrap (len b) = b.getD 17 0 := long1 h16 h17
  by_cases h3 : len b < 19
  · rw [if_pos (.inl h3), decide_eq_true h3]
    simp only [cond_true, e0, e1]
  rw [decide_eq_false h3]
  by_cases h4 : 4096 < len b
  · rw [if_pos (.inr h4), decide_eq_true (show len b > 4096 from h4)]
    simp only [cond_true, cond_false, e0, e1]
  rw [if_neg (by omega), decide_eq_false (show ¬ len b > 4096 by omega)]
  by_cases h5 : b.getD 18 0 < 1
  · rw [if_pos (.inl h5), decide_eq_false (show ¬ b.getD 18 0 ≥ 1 by omega)]
    simp only [cond_false, F10.l6, F10.r6, F10.r6P, Option.bind_some]
  rw [decide_eq_true (show b.getD 18 0 ≥ 1 by omega)]
  by_cases h6 : 5 < b.getD 18 0
  · rw [if_pos (.inr h6), decide_eq_false (show ¬ b.getD 18 0 ≤ 5 by omega)]
    simp only [cond_false, cond_true, Bool.not_false, F10.l6, F10.r6, F10.r6P, Option.bind_some]
  rw [if_neg (by omega), decide_eq_true (show b.getD 18 0 ≤ 5 by omega)]
  simp only [cond_false, cond_true, Bool.not_true, g7 (n := len b) (t := b.getD 18 0) ⟨by omega, by omega⟩ ⟨by omega, by omega⟩, Option.bind_some]
  cases h7 : fit (len b) (b.getD 18 0) with
  | false => simp only [cond_true, Bool.not_false, if_true, e0, e1]
  | true =>
  simp only [cond_false, Bool.not_true, Bool.true_eq_false, if_false]
  by_cases h8 : (b.length : Int) < len b
  · rw [if_pos (by omega), decide_eq_true h8]
    simp only [cond_true]
  rw [if_neg (by omega), decide_eq_false h8]
  obtain ⟨n, hn⟩ := Int.eq_ofNat_of_zero_le (show 0 ≤ len b by omega)
  have e2 : (len b).toNat = n := by omega
  simp only [cond_false]
  rw [e2, hn]
  simp only [g8 (n := n) (show 19 ≤ n by omega) (show n ≤ b.length by omega) hb ho, g9 (n := n) (show n ≤ b.length by omega), Option.bind_some, le_all, cond_true, take_all, body, List.nil_append]
theorem iterO_of {α β : Type} {g : α → Option (α ⊕ β)} {a : α} {r : β} (h : ∃ n, iterN g n a = some r) : iterO g a = some r := iterO_iff.2 h
theorem rounds : ∀ (k : Nat) {b : List Int} {out : List Msg}, b.length ≤ k → Bytes b → b.length + out.length ≤ 1000000 → ∃ n, iterN (F10.s11 PUnit.unit) n (W b, out) = some (out ++ (parse b).1, (parse b).2) := by
  intro k
  induction k with
  | zero =>
    intro b out hk hB hb
    refine ⟨1, ?_⟩
    rw [iterN_step, round hB (by omega) (by omega)]
    have hw : hd b = .wait := by unfold hd; rw [if_pos (by omega)]
    rw [parse_wait hw, rd, hw, scR_inr, List.append_nil]
  | succ k ih =>
    intro b out hk hB hb
    cases h : hd b with
    | wait =>
      refine ⟨1, ?_⟩
      rw [iterN_step, round hB (by omega) (by omega), parse_wait h, rd, h, scR_inr, List.append_nil]
    | fault s d =>
      refine ⟨1, ?_⟩
      rw [iterN_step, round hB (by omega) (by omega), parse_fault h, rd, h, scR_inr, List.append_nil]
    | msg n t =>
      have hm := hd_msg h
      obtain ⟨m, hn⟩ := ih (b := b.drop n) (out := out ++ [(t, body b n)]) (by rw [List.length_drop]; omega) (hB.drop n) (by rw [List.length_drop, List.length_append]; simp; omega)
      refine ⟨m + 1, ?_⟩
      rw [iterN_step, round hB (by omega) (by omega), parse_msg h, rd, h, scR_inl]
      simp only
      rw [hn, List.append_assoc]
      rfl
/-- Feeding. -/
def feed (st : IS) (c : List Int) : List Msg × IS := if st.2.1 = 0 then parse (st.1 ++ c) else ([], st)
theorem feedW {b0 c : List Int} (hB : Bytes (b0 ++ c)) (hb : (b0 ++ c).length ≤ 500000) : F10.l11 PUnit.unit (W b0, c) = some (parse (b0 ++ c)) := by
  unfold F10.l11
  rw [first hB (by omega)]
  cases h : hd (b0 ++ c) with
  | wait => rw [rd, h, scR_inr, parse_wait h]
  | fault s d => rw [rd, h, scR_inr, parse_fault h]
  | msg n t =>
    have hm := hd_msg h
    rw [rd, h, scR_inl]
    have := iterO_of (rounds _ (b := (b0 ++ c).drop n) (out := [] ++ [(t, body (b0 ++ c) n)]) (Nat.le_refl _) (hB.drop n) (by rw [List.length_drop]; simp only [List.length_append, List.length_nil, List.length_cons] at hb ⊢; omega))
    rw [this, parse_msg h]
    rfl
theorem feedP {st : IS} {c : List Int} (hst : (∃ b, st = W b) ∨ ∃ s d, st = Fa s d) (hB : Bytes (st.1 ++ c)) (hb : (st.1 ++ c).length ≤ 500000) : F10.f (st, c) = some (feed st c) := by
  unfold F10.f F10.fP
  rcases hst with ⟨b, rfl⟩ | ⟨s, d, rfl⟩
  · simp only [le_all, cond_true, Bool.and_true, List.take_length, feedW hB hb, Option.bind_some, take_all]
    rfl
  · have : F10.l11 PUnit.unit (Fa s d, c) = some ([], Fa s d) := by
      unfold F10.l11
      have : F10.r11 PUnit.unit (Fa s d, c) = some (.inr ([], Fa s d)) := by
        unfold F10.r11 F10.r11P
        have c0 : ((1 : Int) != 0) = true := rfl
        simp only [c0, Bool.not_true, cond_false, cond_true]
      rw [this, scR_inr]
    simp only [le_all, cond_true, Bool.and_true, List.take_length, this, Option.bind_some, take_all]
    rfl
/-- Where what came ends in a way that stays. -/
theorem hd_app {a c : List Int} (h : hd a ≠ .wait) : hd (a ++ c) = hd a := by
  have h19 : 19 ≤ a.length := by
    by_cases hl : a.length < 19
    · exact absurd (by unfold hd; rw [if_pos hl]) h
    · omega
  have g : ∀ i, i < 19 → (a ++ c).getD i 0 = a.getD i 0 := fun i hi => by
    rw [List.getD_eq_getElem?_getD, List.getD_eq_getElem?_getD, List.getElem?_append_left (by omega)]
  have tk : (a ++ c).take 16 = a.take 16 := by rw [List.take_append_of_le_length (by omega)]
  have hlen : len (a ++ c) = len a := by unfold len; rw [g 16 (by omega), g 17 (by omega)]
  unfold hd at h ⊢
  rw [tk, hlen, g 16 (by omega), g 17 (by omega), g 18 (by omega), if_neg (show ¬ (a ++ c).length < 19 by rw [List.length_append]; omega)]
  rw [if_neg (show ¬ a.length < 19 by omega)] at h ⊢
  split
  · rfl
  split
  · rfl
  split
  · rfl
  split
  · rfl
  rename_i h1 h2 h3 h4
  rw [if_neg h1, if_neg h2, if_neg h3, if_neg h4] at h
  have h5 : ¬ a.length < (len a).toNat := by
    intro h5
    rw [if_pos h5] at h
    exact h rfl
  rw [if_neg h5, if_neg (show ¬ (a ++ c).length < (len a).toNat by rw [List.length_append]; omega)]
theorem parse_state (k : Nat) : ∀ {b : List Int}, b.length ≤ k → (∃ r, (parse b).2 = W r ∧ hd r = .wait ∧ ∃ n, r = b.drop n) ∨ ∃ s d, (parse b).2 = Fa s d := by
  induction k with
  | zero =>
    intro b hk
    have hw : hd b = .wait := by unfold hd; rw [if_pos (by omega)]
    exact .inl ⟨b, by rw [parse_wait hw], hw, 0, rfl⟩
  | succ k ih =>
    intro b hk
    cases h : hd b with
    | wait => exact .inl ⟨b, by rw [parse_wait h], h, 0, rfl⟩
    | fault s d => exact .inr ⟨s, d, by rw [parse_fault h]⟩
    | msg n t =>
      have hm := hd_msg h
      rw [parse_msg h]
      rcases ih (b := b.drop n) (by rw [List.length_drop]; omega) with ⟨r, h1, h2, m, h3⟩ | h1
      · exact .inl ⟨r, h1, h2, n + m, by rw [h3, List.drop_drop]⟩
      · exact .inr h1
/-- THE LAW OF CHUNKS. -/
theorem parse_app (k : Nat) : ∀ {a : List Int} (c : List Int), a.length ≤ k → parse (a ++ c) = ((parse a).1 ++ (feed (parse a).2 c).1, (feed (parse a).2 c).2) := by
  induction k with
  | zero =>
    intro a c hk
    have hw : hd a = .wait := by unfold hd; rw [if_pos (by omega)]
    rw [parse_wait hw]
    show _ = ([] ++ (feed (W a) c).1, (feed (W a) c).2)
    unfold feed
    rw [if_pos rfl, List.nil_append]
  | succ k ih =>
    intro a c hk
    cases h : hd a with
    | wait =>
      rw [parse_wait h]
      show _ = ([] ++ (feed (W a) c).1, (feed (W a) c).2)
      unfold feed
      rw [if_pos rfl, List.nil_append]
    | fault s d =>
      have h2 : hd (a ++ c) = .fault s d := by rw [hd_app (by rw [h]; simp), h]
      rw [parse_fault h, parse_fault h2]
      rfl
    | msg n t =>
      have h2 : hd (a ++ c) = .msg n t := by rw [hd_app (by rw [h]; simp), h]
      have hm := hd_msg h
      have hbody : body (a ++ c) n = body a n := by
        unfold body
        rw [List.drop_append_of_le_length (by omega), List.take_append_of_le_length (by rw [List.length_drop]; omega)]
      rw [parse_msg h, parse_msg h2, hbody, List.drop_append_of_le_length (by omega), ih c (by rw [List.length_drop]; omega)]
      rfl
end Go.Proofs.YtnmgbheaabdhlaaDoor.PC

/- What comes of function 9 of this program, consulate.frame.New, as the engine gives it. -/
namespace Go.Proofs.YtnmgbheaabdhlaaDoor.F9
open Go Go.Proofs Go.Proofs.YtnmgbheaabdhlaaDoor Go.RowKit Go.Proofs.YtnmgbheaabdhlaaDoor.Sx
set_option linter.unusedVariables false
set_option maxRecDepth 100000
def tab : List (FuncId × Sx.Spec) := []
def pls : List (FuncId × Plan) := []
@[reducible] def i : Sh := .nil
@[reducible] def o : Sh := .po true 61 (.sl true 5 (.sc (.int .u8) .nil) (.sc (.int .u8) (.sc (.int .u8) (.sl true 5 (.sc (.int .u8) .nil) (.sc .bool .nil))))) .nil
abbrev FT := Unit → Option (((Option (List (Int) × Int × Int × List (Int) × Bool))) × Unit)
theorem tabS : AllS Tryd.prog (tab) := trivial
theorem plsP : AllP Tryd.prog (pls) := trivial
theorem mixed : Tryd.prog.follows .mixedOrders = true := by kernel_rfl
def fP : FT := fun () =>
  some (some ([], 0, 0, [], true), PUnit.unit)
theorem fe (d : Unit) : bodyF (tabC Tryd.prog (tab) ((9, .none) :: pls) 100 12) 100 9 i o d = fP d := by kernel_rfl
noncomputable def f : FT := fP
def plan : Plan := .none
theorem planOk : PlanOk Tryd.prog (plan) (bodyOf Tryd.prog 9) := (planOk_of (plan) _ [] (by kernel_rfl) trivial)
theorem meets : MeetsF Tryd.prog 9 ⟨i, o, f⟩ :=
  funcT (fuel := 100) (depth := 12) (pl := (9, plan) :: pls) mixed tabS ⟨planOk, plsP⟩ (fun d => fe  d)
theorem spec : SpecOk Tryd.prog (fun _ => none) 9 (specF ⟨i, o, f⟩) := specF_ok (by kernel_rfl) meets
end Go.Proofs.YtnmgbheaabdhlaaDoor.F9
