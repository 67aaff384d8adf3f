/- What comes of function 50 of this program, consulate.clock.Agreed, as the engine gives it. -/
import Derived.Test.YtpfbpcaehmhefaaDoorChecked
import Derived.Test.YtpfbpcaehmhefaaDoorZN
namespace Go.Proofs.YtpfbpcaehmhefaaDoor.F50
open Go Go.Proofs Go.Proofs.YtpfbpcaehmhefaaDoor Go.RowKit Go.Proofs.YtpfbpcaehmhefaaDoor.Sx
set_option linter.unusedVariables false
set_option maxRecDepth 100000
def tab : List (FuncId × Sx.Spec) := []
def pls : List (FuncId × Plan) := []
@[reducible] def i : Sh := .sc (.int .i64) (.sc (.int .i64) .nil)
@[reducible] def o : Sh := .sc (.int .i64) (.sc (.int .i64) .nil)
abbrev FT := (Int × Int) → Option ((Int × Int) × Unit)
theorem tabS : AllS Tryd.prog (tab) := trivial
theorem plsP : AllP Tryd.prog (pls) := trivial
theorem mixed : Tryd.prog.follows .mixedOrders = true := by kernel_rfl
def fP : FT := fun (ours, theirs) =>
    bif (if 0 > if theirs < ours then theirs else ours then 0 else if theirs < ours then theirs else ours) == 0 then
      some ((0, 0), PUnit.unit)
    else
      some
        ((if 0 > if theirs < ours then theirs else ours then 0 else if theirs < ours then theirs else ours,
            if
                1 >
                  IntKind.i64.wrap
                    ((if 0 > if theirs < ours then theirs else ours then 0
                        else if theirs < ours then theirs else ours).tdiv
                      3) then
              1
            else
              IntKind.i64.wrap
                ((if 0 > if theirs < ours then theirs else ours then 0 else if theirs < ours then theirs else ours).tdiv
                  3)),
          PUnit.unit)
theorem fe (d : Int × Int) : bodyF (tabC Tryd.prog (tab) ((50, .none) :: pls) 100 14) 100 50 i o d = fP d := by kernel_rfl
noncomputable def f : FT := fP
def plan : Plan := .none
theorem planOk : PlanOk Tryd.prog (plan) (bodyOf Tryd.prog 50) := (planOk_of (plan) _ [] (by kernel_rfl) trivial)
theorem meets : MeetsF Tryd.prog 50 ⟨i, o, f⟩ :=
  funcT (fuel := 100) (depth := 14) (pl := (50, plan) :: pls) mixed tabS ⟨planOk, plsP⟩ (fun d => fe  d)
theorem spec : SpecOk Tryd.prog (fun _ => none) 50 (specF ⟨i, o, f⟩) := specF_ok (by kernel_rfl) meets
end Go.Proofs.YtpfbpcaehmhefaaDoor.F50
