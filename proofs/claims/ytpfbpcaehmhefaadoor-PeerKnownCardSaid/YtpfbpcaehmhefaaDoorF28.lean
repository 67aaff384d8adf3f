/- What comes of function 28 of this program, consulate.peer.Told, as the engine gives it. -/
import Derived.Test.YtpfbpcaehmhefaaDoorChecked
import Derived.Test.YtpfbpcaehmhefaaDoorZN
import Derived.Test.YtpfbpcaehmhefaaDoorF58
namespace Go.Proofs.YtpfbpcaehmhefaaDoor.F28
open Go Go.Proofs Go.Proofs.YtpfbpcaehmhefaaDoor Go.RowKit Go.Proofs.YtpfbpcaehmhefaaDoor.Sx
set_option linter.unusedVariables false
set_option maxRecDepth 100000
def tab (x58 : F58.FT) : List (FuncId × Sx.Spec) := [(58, specF ⟨F58.i, F58.o, x58⟩)]
def pls (x58 : F58.FT) : List (FuncId × Plan) := []
@[reducible] def i : Sh := .sc (.int .u32) .nil
@[reducible] def o : Sh := .sc .bool .nil
abbrev FT := Int → Option (Bool × Unit)
theorem tabS : AllS Tryd.prog (tab F58.f) := ⟨F58.spec, trivial⟩
theorem plsP : AllP Tryd.prog (pls F58.f) := trivial
theorem mixed : Tryd.prog.follows .mixedOrders = true := by kernel_rfl
def fP (x58 : F58.FT) : FT := fun n =>
    (x58 n).bind fun r0 =>
      bif r0.fst != 1 then
        bif r0.fst != 2 then bif n != 65535 then some (n != 4294967295, PUnit.unit) else some (false, PUnit.unit)
        else some (false, PUnit.unit)
      else some (false, PUnit.unit)
theorem fe (x58 : F58.FT) (d : Int) : bodyF (tabC Tryd.prog (tab x58) ((28, .none) :: pls x58) 100 14) 100 28 i o d = fP x58 d := by kernel_rfl
noncomputable def f : FT := fP F58.f
def plan : Plan := .none
theorem planOk : PlanOk Tryd.prog (plan) (bodyOf Tryd.prog 28) := (planOk_of (plan) _ [] (by kernel_rfl) trivial)
theorem meets : MeetsF Tryd.prog 28 ⟨i, o, f⟩ :=
  funcT (fuel := 100) (depth := 14) (pl := (28, plan) :: pls F58.f) mixed tabS ⟨planOk, plsP⟩ (fun d => fe F58.f d)
theorem spec : SpecOk Tryd.prog (fun _ => none) 28 (specF ⟨i, o, f⟩) := specF_ok (by kernel_rfl) meets
end Go.Proofs.YtpfbpcaehmhefaaDoor.F28
