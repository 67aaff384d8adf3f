/- What comes of function 30 of this program, consulate.number.Short, as the engine gives it. -/
import Derived.Test.YtpfbpcaehmhefaaDoorChecked
import Derived.Test.YtpfbpcaehmhefaaDoorZN
import Derived.Test.YtpfbpcaehmhefaaDoorF59
namespace Go.Proofs.YtpfbpcaehmhefaaDoor.F30
open Go Go.Proofs Go.Proofs.YtpfbpcaehmhefaaDoor Go.RowKit Go.Proofs.YtpfbpcaehmhefaaDoor.Sx
set_option linter.unusedVariables false
set_option maxRecDepth 100000
def tab (x59 : F59.FT) : List (FuncId × Sx.Spec) := [(59, specF ⟨F59.i, F59.o, x59⟩)]
def pls (x59 : F59.FT) : List (FuncId × Plan) := []
@[reducible] def i : Sh := .sc (.int .u32) .nil
@[reducible] def o : Sh := .sc (.int .u16) .nil
abbrev FT := Int → Option (Int × Unit)
theorem tabS : AllS Tryd.prog (tab F59.f) := ⟨F59.spec, trivial⟩
theorem plsP : AllP Tryd.prog (pls F59.f) := trivial
theorem mixed : Tryd.prog.follows .mixedOrders = true := by kernel_rfl
def fP (x59 : F59.FT) : FT := fun n =>
   (x59 n).bind fun r0 => bif r0.fst then some (23456, PUnit.unit) else some (IntKind.u16.wrap n, PUnit.unit)
theorem fe (x59 : F59.FT) (d : Int) : bodyF (tabC Tryd.prog (tab x59) ((30, .none) :: pls x59) 100 14) 100 30 i o d = fP x59 d := by kernel_rfl
noncomputable def f : FT := fP F59.f
def plan : Plan := .none
theorem planOk : PlanOk Tryd.prog (plan) (bodyOf Tryd.prog 30) := (planOk_of (plan) _ [] (by kernel_rfl) trivial)
theorem meets : MeetsF Tryd.prog 30 ⟨i, o, f⟩ :=
  funcT (fuel := 100) (depth := 14) (pl := (30, plan) :: pls F59.f) mixed tabS ⟨planOk, plsP⟩ (fun d => fe F59.f d)
theorem spec : SpecOk Tryd.prog (fun _ => none) 30 (specF ⟨i, o, f⟩) := specF_ok (by kernel_rfl) meets
end Go.Proofs.YtpfbpcaehmhefaaDoor.F30
