/- What comes of function 16 of this program, bytes.Equal, as the engine gives it. -/
import Derived.Test.YteoiaihjapddoaaChecked
import Derived.Test.YteoiaihjapddoaaZN
namespace Go.Proofs.Yteoiaihjapddoaa.F16
open Go Go.Proofs Go.Proofs.Yteoiaihjapddoaa Go.RowKit Go.Proofs.Yteoiaihjapddoaa.Sx
set_option linter.unusedVariables false
set_option maxRecDepth 100000
def tab : List (FuncId × Sx.Spec) := []
def pls : List (FuncId × Plan) := []
@[reducible] def i : Sh := .sl false 5 (.sc (.int .u8) .nil) (.sl false 5 (.sc (.int .u8) .nil) .nil)
@[reducible] def o : Sh := .sc .bool .nil
abbrev FT := (List (Int) × List (Int)) → Option (Bool × Unit)
theorem tabS : AllS Try.prog (tab) := trivial
theorem plsP : AllP Try.prog (pls) := trivial
theorem mixed : Try.prog.follows .mixedOrders = true := by kernel_rfl
def fP : FT := fun (a, b) =>
    bif decide (0 + a.length ≤ a.length) then
      bif decide (0 + b.length ≤ b.length) then
        some
          ((ByteArray.mk (Array.mk (List.map (fun n => UInt8.ofNat n.toNat) (List.take a.length a)))).toList ==
              (ByteArray.mk (Array.mk (List.map (fun n => UInt8.ofNat n.toNat) (List.take b.length b)))).toList,
            PUnit.unit)
      else none
    else none
theorem fe (d : List (Int) × List (Int)) : bodyF (tabC Try.prog (tab) ((16, .none) :: pls) 100 10) 100 16 i o d = fP d := by kernel_rfl
noncomputable def f : FT := fP
def plan : Plan := .none
theorem planOk : PlanOk Try.prog (plan) (bodyOf Try.prog 16) := (planOk_of (plan) _ [] (by kernel_rfl) trivial)
theorem meets : MeetsF Try.prog 16 ⟨i, o, f⟩ :=
  funcT (fuel := 100) (depth := 10) (pl := (16, plan) :: pls) mixed tabS ⟨planOk, plsP⟩ (fun d => fe  d)
theorem spec : SpecOk Try.prog (fun _ => none) 16 (specF ⟨i, o, f⟩) := specF_ok (by kernel_rfl) meets
end Go.Proofs.Yteoiaihjapddoaa.F16
