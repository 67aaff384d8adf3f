/- What comes of function 28 of this program, slices.Clone[[]byte,byte], as the engine gives it. -/
import Derived.Test.YteoiaihjapddoaaChecked
import Derived.Test.YteoiaihjapddoaaZN
namespace Go.Proofs.Yteoiaihjapddoaa.F28
open Go Go.Proofs Go.Proofs.Yteoiaihjapddoaa Go.RowKit Go.Proofs.Yteoiaihjapddoaa.Sx
set_option linter.unusedVariables false
set_option maxRecDepth 100000
def tab : List (FuncId × Sx.Spec) := []
def pls : List (FuncId × Plan) := []
@[reducible] def i : Sh := .sl false 5 (.sc (.int .u8) .nil) .nil
@[reducible] def o : Sh := .sl true 5 (.sc (.int .u8) .nil) .nil
abbrev FT := List (Int) → Option (List (Int) × Unit)
theorem tabS : AllS Try.prog (tab) := trivial
theorem plsP : AllP Try.prog (pls) := trivial
theorem mixed : Try.prog.follows .mixedOrders = true := by kernel_rfl
def fP : FT := fun s =>
    bif decide (0 < s.length) then
      bif decide (0 + s.length ≤ s.length) then
        bif decide (0 + (List.take s.length s).length ≤ 1073741824) then
          bif decide (0 + (0 + (List.take s.length s).length) ≤ ([] ++ List.take s.length s).length) && true then
            some (List.take (0 + (List.take s.length s).length) (List.drop 0 ([] ++ List.take s.length s)), PUnit.unit)
          else none
        else none
      else none
    else none
theorem fe (d : List (Int)) : bodyF (tabC Try.prog (tab) ((28, .none) :: pls) 100 10) 100 28 i o d = fP d := by kernel_rfl
noncomputable def f : FT := fun d => if 0 < d.length then fP d else some ([], ())
def plan : Plan := .none
theorem planOk : PlanOk Try.prog (plan) (bodyOf Try.prog 28) := (planOk_of (plan) _ [] (by kernel_rfl) trivial)
theorem meets : MeetsF Try.prog 28 ⟨i, o, f⟩ :=
  sliceT (fuel := 100) (depth := 10) (pl := (28, plan) :: pls) (z := (show Den o from [])) mixed tabS ⟨planOk, plsP⟩ (fun (d : List (Int)) hd => (fe  d).trans (show fP d = f d from (if_pos (c := 0 < d.length) hd).symm)) (fun (d : List (Int)) h => (show f d = _ from if_neg (c := 0 < d.length) (by have h : d.length = 0 := h; omega))) (fun c => by kernel_rfl) (fun a c => by kernel_rfl)
theorem spec : SpecOk Try.prog (fun _ => none) 28 (specF ⟨i, o, f⟩) := specF_ok (by kernel_rfl) meets
end Go.Proofs.Yteoiaihjapddoaa.F28
