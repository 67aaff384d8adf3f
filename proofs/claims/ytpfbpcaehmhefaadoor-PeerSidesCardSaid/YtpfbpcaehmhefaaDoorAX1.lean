/- What comes of function 29 of this program, consulate.consulatelaw15.member, as the engine gives it. -/
import Derived.Test.YtpfbpcaehmhefaaDoorChecked
import Derived.Test.YtpfbpcaehmhefaaDoorAZO
namespace Go.Proofs.YtpfbpcaehmhefaaDoorA.F29
open Go Go.Proofs Go.Proofs.YtpfbpcaehmhefaaDoor Go.RowKit Go.Proofs.YtpfbpcaehmhefaaDoorA.Sx
set_option linter.unusedVariables false
set_option maxRecDepth 100000
def tab : List (FuncId × Sx.Spec) := []
def pls : List (FuncId × Plan) := []
@[reducible] def i : Sh := .sc (.int .u8) .nil
@[reducible] def o : Sh := .sc (.int .u32) .nil
abbrev FT := Int → Option (Int × Unit)
theorem tabS : AllS Tryd.prog (tab) := trivial
theorem plsP : AllP Tryd.prog (pls) := trivial
theorem mixed : Tryd.prog.follows .mixedOrders = true := by kernel_rfl
def fP : FT := fun n =>
   some (IntKind.u32.wrap (65001 + IntKind.u32.wrap (n.tmod 16)), PUnit.unit)
theorem fe (d : Int) : bodyF (tabC Tryd.prog (tab) ((29, .none) :: pls) 100 14) 100 29 i o d = fP d := by kernel_rfl
noncomputable def f : FT := fP
def plan : Plan := .none
theorem planOk : PlanOk Tryd.prog (plan) (bodyOf Tryd.prog 29) := (planOk_of (plan) _ [] (by kernel_rfl) trivial)
theorem meets : MeetsF Tryd.prog 29 ⟨i, o, f⟩ :=
  funcT (fuel := 100) (depth := 14) (pl := (29, plan) :: pls) mixed tabS ⟨planOk, plsP⟩ (fun d =>  fe  d)
theorem spec : SpecOk Tryd.prog (fun _ => none) 29 (specF ⟨i, o, f⟩) := specF_ok (by kernel_rfl) meets
end Go.Proofs.YtpfbpcaehmhefaaDoorA.F29

/- What comes of function 58 of this program, consulate.number.Kind, as the engine gives it. -/
namespace Go.Proofs.YtpfbpcaehmhefaaDoorA.F58
open Go Go.Proofs Go.Proofs.YtpfbpcaehmhefaaDoor Go.RowKit Go.Proofs.YtpfbpcaehmhefaaDoorA.Sx
set_option linter.unusedVariables false
set_option maxRecDepth 100000
def tab : List (FuncId × Sx.Spec) := []
def pls : List (FuncId × Plan) := []
@[reducible] def i : Sh := .sc (.int .u32) .nil
@[reducible] def o : Sh := .sc (.int .i64) .nil
abbrev FT := Int → Option (Int × Unit)
theorem tabS : AllS Tryd.prog (tab) := trivial
theorem plsP : AllP Tryd.prog (pls) := trivial
theorem mixed : Tryd.prog.follows .mixedOrders = true := by kernel_rfl
def fP : FT := fun n =>
    bif decide (n ≥ 0) then
      bif decide (n ≤ 0) then some (1, PUnit.unit)
      else
       bif decide (n ≥ 23456) then
       bif decide (n ≤ 23456) then some (2, PUnit.unit)
       else
       bif decide (n ≥ 64512) then
       bif decide (n ≤ 65534) then some (3, PUnit.unit)
       else
       bif decide (n ≥ 4200000000) then
       bif decide (n ≤ 4294967294) then some (3, PUnit.unit)
       else
       bif decide (n ≥ 64496) then
       bif decide (n ≤ 64511) then some (4, PUnit.unit)
       else
       bif decide (n ≥ 65535) then
       bif decide (n ≤ 65551) then some (4, PUnit.unit)
       else
       bif decide (n ≥ 4294967295) then
       bif decide (n ≤ 4294967295) then some (4, PUnit.unit) else some (5, PUnit.unit)
       else some (5, PUnit.unit)
       else
       bif decide (n ≥ 4294967295) then
       bif decide (n ≤ 4294967295) then some (4, PUnit.unit) else some (5, PUnit.unit)
       else some (5, PUnit.unit)
       else
       bif decide (n ≥ 65535) then
       bif decide (n ≤ 65551) then some (4, PUnit.unit)
       else
       bif decide (n ≥ 4294967295) then
       bif decide (n ≤ 4294967295) then some (4, PUnit.unit) else some (5, PUnit.unit)
       else some (5, PUnit.unit)
       else
       bif decide (n ≥ 4294967295) then
       bif decide (n ≤ 4294967295) then some (4, PUnit.unit) else some (5, PUnit.unit)
       else some (5, PUnit.unit)
       else
       bif decide (n ≥ 64496) then
       bif decide (n ≤ 64511) then some (4, PUnit.unit)
       else
       bif decide (n ≥ 65535) then
       bif decide (n ≤ 65551) then some (4, PUnit.unit)
       else
       bif decide (n ≥ 4294967295) then
       bif decide (n ≤ 4294967295) then some (4, PUnit.unit) else some (5, PUnit.unit)
       else some (5, PUnit.unit)
       else
       bif decide (n ≥ 4294967295) then
       bif decide (n ≤ 4294967295) then some (4, PUnit.unit) else some (5, PUnit.unit)
       else some (5, PUnit.unit)
       else
       bif decide (n ≥ 65535) then
       bif decide (n ≤ 65551) then some (4, PUnit.unit)
       else
       bif decide (n ≥ 4294967295) then
       bif decide (n ≤ 4294967295) then some (4, PUnit.unit) else some (5, PUnit.unit)
       else some (5, PUnit.unit)
       else
       bif decide (n ≥ 4294967295) then
       bif decide (n ≤ 4294967295) then some (4, PUnit.unit) else some (5, PUnit.unit)
       else some (5, PUnit.unit)
       else
       bif decide (n ≥ 4200000000) then
       bif decide (n ≤ 4294967294) then some (3, PUnit.unit)
       else
       bif decide (n ≥ 64496) then
       bif decide (n ≤ 64511) then some (4, PUnit.unit)
       else
       bif decide (n ≥ 65535) then
       bif decide (n ≤ 65551) then some (4, PUnit.unit)
       else
       bif decide (n ≥ 4294967295) then
       bif decide (n ≤ 4294967295) then some (4, PUnit.unit) else some (5, PUnit.unit)
       else some (5, PUnit.unit)
       else
       bif decide (n ≥ 4294967295) then
       bif decide (n ≤ 4294967295) then some (4, PUnit.unit) else some (5, PUnit.unit)
       else some (5, PUnit.unit)
       else
       bif decide (n ≥ 65535) then
       bif decide (n ≤ 65551) then some (4, PUnit.unit)
       else
       bif decide (n ≥ 4294967295) then
       bif decide (n ≤ 4294967295) then some (4, PUnit.unit) else some (5, PUnit.unit)
       else some (5, PUnit.unit)
       else
       bif decide (n ≥ 4294967295) then
       bif decide (n ≤ 4294967295) then some (4, PUnit.unit) else some (5, PUnit.unit)
       else some (5, PUnit.unit)
       else
       bif decide (n ≥ 64496) then
       bif decide (n ≤ 64511) then some (4, PUnit.unit)
       else
       bif decide (n ≥ 65535) then
       bif decide (n ≤ 65551) then some (4, PUnit.unit)
       else
       bif decide (n ≥ 4294967295) then
       bif decide (n ≤ 4294967295) then some (4, PUnit.unit) else some (5, PUnit.unit)
       else some (5, PUnit.unit)
       else
       bif decide (n ≥ 4294967295) then
       bif decide (n ≤ 4294967295) then some (4, PUnit.unit) else some (5, PUnit.unit)
       else some (5, PUnit.unit)
       else
       bif decide (n ≥ 65535) then
       bif decide (n ≤ 65551) then some (4, PUnit.unit)
       else
       bif decide (n ≥ 4294967295) then
       bif decide (n ≤ 4294967295) then some (4, PUnit.unit) else some (5, PUnit.unit)
       else some (5, PUnit.unit)
       else
       bif decide (n ≥ 4294967295) then
       bif decide (n ≤ 4294967295) then some (4, PUnit.unit) else some (5, PUnit.unit)
       else some (5, PUnit.unit)
       else
       bif decide (n ≥ 64512) then
       bif decide (n ≤ 65534) then some (3, PUnit.unit)
       else
       bif decide (n ≥ 4200000000) then
       bif decide (n ≤ 4294967294) then some (3, PUnit.unit)
       else
       bif decide (n ≥ 64496) then
       bif decide (n ≤ 64511) then some (4, PUnit.unit)
       else
       bif decide (n ≥ 65535) then
       bif decide (n ≤ 65551) then some (4, PUnit.unit)
       else
       bif decide (n ≥ 4294967295) then
       bif decide (n ≤ 4294967295) then some (4, PUnit.unit) else some (5, PUnit.unit)
       else some (5, PUnit.unit)
       else
       bif decide (n ≥ 4294967295) then
       bif decide (n ≤ 4294967295) then some (4, PUnit.unit) else some (5, PUnit.unit)
       else some (5, PUnit.unit)
       else
       bif decide (n ≥ 65535) then
       bif decide (n ≤ 65551) then some (4, PUnit.unit)
       else
       bif decide (n ≥ 4294967295) then
       bif decide (n ≤ 4294967295) then some (4, PUnit.unit) else some (5, PUnit.unit)
       else some (5, PUnit.unit)
       else
       bif decide (n ≥ 4294967295) then
       bif decide (n ≤ 4294967295) then some (4, PUnit.unit) else some (5, PUnit.unit)
       else some (5, PUnit.unit)
       else
       bif decide (n ≥ 64496) then
       bif decide (n ≤ 64511) then some (4, PUnit.unit)
       else
       bif decide (n ≥ 65535) then
       bif decide (n ≤ 65551) then some (4, PUnit.unit)
       else
       bif decide (n ≥ 4294967295) then
       bif decide (n ≤ 4294967295) then some (4, PUnit.unit) else some (5, PUnit.unit)
       else some (5, PUnit.unit)
       else
       bif decide (n ≥ 4294967295) then
       bif decide (n ≤ 4294967295) then some (4, PUnit.unit) else some (5, PUnit.unit)
       else some (5, PUnit.unit)
       else
       bif decide (n ≥ 65535) then
       bif decide (n ≤ 65551) then some (4, PUnit.unit)
       else
       bif decide (n ≥ 4294967295) then
       bif decide (n ≤ 4294967295) then some (4, PUnit.unit) else some (5, PUnit.unit)
       else some (5, PUnit.unit)
       else
       bif decide (n ≥ 4294967295) then
       bif decide (n ≤ 4294967295) then some (4, PUnit.unit) else some (5, PUnit.unit)
       else some (5, PUnit.unit)
       else
       bif decide (n ≥ 4200000000) then
       bif decide (n ≤ 4294967294) then some (3, PUnit.unit)
       else
       bif decide (n ≥ 64496) then
       bif decide (n ≤ 64511) then some (4, PUnit.unit)
       else
       bif decide (n ≥ 65535) then
       bif decide (n ≤ 65551) then some (4, PUnit.unit)
       else
       bif decide (n ≥ 4294967295) then
       bif decide (n ≤ 4294967295) then some (4, PUnit.unit) else some (5, PUnit.unit)
       else some (5, PUnit.unit)
       else
       bif decide (n ≥ 4294967295) then
       bif decide (n ≤ 4294967295) then some (4, PUnit.unit) else some (5, PUnit.unit)
       else some (5, PUnit.unit)
       else
       bif decide (n ≥ 65535) then
       bif decide (n ≤ 65551) then some (4, PUnit.unit)
       else
       bif decide (n ≥ 4294967295) then
       bif decide (n ≤ 4294967295) then some (4, PUnit.unit) else some (5, PUnit.unit)
       else some (5, PUnit.unit)
       else
       bif decide (n ≥ 4294967295) then
       bif decide (n ≤ 4294967295) then some (4, PUnit.unit) else some (5, PUnit.unit)
       else some (5, PUnit.unit)
       else
       bif decide (n ≥ 64496) then
       bif decide (n ≤ 64511) then some (4, PUnit.unit)
       else
       bif decide (n ≥ 65535) then
       bif decide (n ≤ 65551) then some (4, PUnit.unit)
       else
       bif decide (n ≥ 4294967295) then
       bif decide (n ≤ 4294967295) then some (4, PUnit.unit) else some (5, PUnit.unit)
       else some (5, PUnit.unit)
       else
       bif decide (n ≥ 4294967295) then
       bif decide (n ≤ 4294967295) then some (4, PUnit.unit) else some (5, PUnit.unit)
       else some (5, PUnit.unit)
       else
       bif decide (n ≥ 65535) then
       bif decide (n ≤ 65551) then some (4, PUnit.unit)
       else
       bif decide (n ≥ 4294967295) then
       bif decide (n ≤ 4294967295) then some (4, PUnit.unit) else some (5, PUnit.unit)
       else some (5, PUnit.unit)
       else
       bif decide (n ≥ 4294967295) then
       bif decide (n ≤ 4294967295) then some (4, PUnit.unit) else some (5, PUnit.unit)
       else some (5, PUnit.unit)
    else
      bif decide (n ≥ 23456) then
       bif decide (n ≤ 23456) then some (2, PUnit.unit)
       else
       bif decide (n ≥ 64512) then
       bif decide (n ≤ 65534) then some (3, PUnit.unit)
       else
       bif decide (n ≥ 4200000000) then
       bif decide (n ≤ 4294967294) then some (3, PUnit.unit)
       else
       bif decide (n ≥ 64496) then
       bif decide (n ≤ 64511) then some (4, PUnit.unit)
       else
       bif decide (n ≥ 65535) then
       bif decide (n ≤ 65551) then some (4, PUnit.unit)
       else
       bif decide (n ≥ 4294967295) then
       bif decide (n ≤ 4294967295) then some (4, PUnit.unit) else some (5, PUnit.unit)
       else some (5, PUnit.unit)
       else
       bif decide (n ≥ 4294967295) then
       bif decide (n ≤ 4294967295) then some (4, PUnit.unit) else some (5, PUnit.unit)
       else some (5, PUnit.unit)
       else
       bif decide (n ≥ 65535) then
       bif decide (n ≤ 65551) then some (4, PUnit.unit)
       else
       bif decide (n ≥ 4294967295) then
       bif decide (n ≤ 4294967295) then some (4, PUnit.unit) else some (5, PUnit.unit)
       else some (5, PUnit.unit)
       else
       bif decide (n ≥ 4294967295) then
       bif decide (n ≤ 4294967295) then some (4, PUnit.unit) else some (5, PUnit.unit)
       else some (5, PUnit.unit)
       else
       bif decide (n ≥ 64496) then
       bif decide (n ≤ 64511) then some (4, PUnit.unit)
       else
       bif decide (n ≥ 65535) then
       bif decide (n ≤ 65551) then some (4, PUnit.unit)
       else
       bif decide (n ≥ 4294967295) then
       bif decide (n ≤ 4294967295) then some (4, PUnit.unit) else some (5, PUnit.unit)
       else some (5, PUnit.unit)
       else
       bif decide (n ≥ 4294967295) then
       bif decide (n ≤ 4294967295) then some (4, PUnit.unit) else some (5, PUnit.unit)
       else some (5, PUnit.unit)
       else
       bif decide (n ≥ 65535) then
       bif decide (n ≤ 65551) then some (4, PUnit.unit)
       else
       bif decide (n ≥ 4294967295) then
       bif decide (n ≤ 4294967295) then some (4, PUnit.unit) else some (5, PUnit.unit)
       else some (5, PUnit.unit)
       else
       bif decide (n ≥ 4294967295) then
       bif decide (n ≤ 4294967295) then some (4, PUnit.unit) else some (5, PUnit.unit)
       else some (5, PUnit.unit)
       else
       bif decide (n ≥ 4200000000) then
       bif decide (n ≤ 4294967294) then some (3, PUnit.unit)
       else
       bif decide (n ≥ 64496) then
       bif decide (n ≤ 64511) then some (4, PUnit.unit)
       else
       bif decide (n ≥ 65535) then
       bif decide (n ≤ 65551) then some (4, PUnit.unit)
       else
       bif decide (n ≥ 4294967295) then
       bif decide (n ≤ 4294967295) then some (4, PUnit.unit) else some (5, PUnit.unit)
       else some (5, PUnit.unit)
       else
       bif decide (n ≥ 4294967295) then
       bif decide (n ≤ 4294967295) then some (4, PUnit.unit) else some (5, PUnit.unit)
       else some (5, PUnit.unit)
       else
       bif decide (n ≥ 65535) then
       bif decide (n ≤ 65551) then some (4, PUnit.unit)
       else
       bif decide (n ≥ 4294967295) then
       bif decide (n ≤ 4294967295) then some (4, PUnit.unit) else some (5, PUnit.unit)
       else some (5, PUnit.unit)
       else
       bif decide (n ≥ 4294967295) then
       bif decide (n ≤ 4294967295) then some (4, PUnit.unit) else some (5, PUnit.unit)
       else some (5, PUnit.unit)
       else
       bif decide (n ≥ 64496) then
       bif decide (n ≤ 64511) then some (4, PUnit.unit)
       else
       bif decide (n ≥ 65535) then
       bif decide (n ≤ 65551) then some (4, PUnit.unit)
       else
       bif decide (n ≥ 4294967295) then
       bif decide (n ≤ 4294967295) then some (4, PUnit.unit) else some (5, PUnit.unit)
       else some (5, PUnit.unit)
       else
       bif decide (n ≥ 4294967295) then
       bif decide (n ≤ 4294967295) then some (4, PUnit.unit) else some (5, PUnit.unit)
       else some (5, PUnit.unit)
       else
       bif decide (n ≥ 65535) then
       bif decide (n ≤ 65551) then some (4, PUnit.unit)
       else
       bif decide (n ≥ 4294967295) then
       bif decide (n ≤ 4294967295) then some (4, PUnit.unit) else some (5, PUnit.unit)
       else some (5, PUnit.unit)
       else
       bif decide (n ≥ 4294967295) then
       bif decide (n ≤ 4294967295) then some (4, PUnit.unit) else some (5, PUnit.unit)
       else some (5, PUnit.unit)
      else
       bif decide (n ≥ 64512) then
       bif decide (n ≤ 65534) then some (3, PUnit.unit)
       else
       bif decide (n ≥ 4200000000) then
       bif decide (n ≤ 4294967294) then some (3, PUnit.unit)
       else
       bif decide (n ≥ 64496) then
       bif decide (n ≤ 64511) then some (4, PUnit.unit)
       else
       bif decide (n ≥ 65535) then
       bif decide (n ≤ 65551) then some (4, PUnit.unit)
       else
       bif decide (n ≥ 4294967295) then
       bif decide (n ≤ 4294967295) then some (4, PUnit.unit) else some (5, PUnit.unit)
       else some (5, PUnit.unit)
       else
       bif decide (n ≥ 4294967295) then
       bif decide (n ≤ 4294967295) then some (4, PUnit.unit) else some (5, PUnit.unit)
       else some (5, PUnit.unit)
       else
       bif decide (n ≥ 65535) then
       bif decide (n ≤ 65551) then some (4, PUnit.unit)
       else
       bif decide (n ≥ 4294967295) then
       bif decide (n ≤ 4294967295) then some (4, PUnit.unit) else some (5, PUnit.unit)
       else some (5, PUnit.unit)
       else
       bif decide (n ≥ 4294967295) then
       bif decide (n ≤ 4294967295) then some (4, PUnit.unit) else some (5, PUnit.unit)
       else some (5, PUnit.unit)
       else
       bif decide (n ≥ 64496) then
       bif decide (n ≤ 64511) then some (4, PUnit.unit)
       else
       bif decide (n ≥ 65535) then
       bif decide (n ≤ 65551) then some (4, PUnit.unit)
       else
       bif decide (n ≥ 4294967295) then
       bif decide (n ≤ 4294967295) then some (4, PUnit.unit) else some (5, PUnit.unit)
       else some (5, PUnit.unit)
       else
       bif decide (n ≥ 4294967295) then
       bif decide (n ≤ 4294967295) then some (4, PUnit.unit) else some (5, PUnit.unit)
       else some (5, PUnit.unit)
       else
       bif decide (n ≥ 65535) then
       bif decide (n ≤ 65551) then some (4, PUnit.unit)
       else
       bif decide (n ≥ 4294967295) then
       bif decide (n ≤ 4294967295) then some (4, PUnit.unit) else some (5, PUnit.unit)
       else some (5, PUnit.unit)
       else
       bif decide (n ≥ 4294967295) then
       bif decide (n ≤ 4294967295) then some (4, PUnit.unit) else some (5, PUnit.unit)
       else some (5, PUnit.unit)
       else
       bif decide (n ≥ 4200000000) then
       bif decide (n ≤ 4294967294) then some (3, PUnit.unit)
       else
       bif decide (n ≥ 64496) then
       bif decide (n ≤ 64511) then some (4, PUnit.unit)
       else
       bif decide (n ≥ 65535) then
       bif decide (n ≤ 65551) then some (4, PUnit.unit)
       else
       bif decide (n ≥ 4294967295) then
       bif decide (n ≤ 4294967295) then some (4, PUnit.unit) else some (5, PUnit.unit)
       else some (5, PUnit.unit)
       else
       bif decide (n ≥ 4294967295) then
       bif decide (n ≤ 4294967295) then some (4, PUnit.unit) else some (5, PUnit.unit)
       else some (5, PUnit.unit)
       else
       bif decide (n ≥ 65535) then
       bif decide (n ≤ 65551) then some (4, PUnit.unit)
       else
       bif decide (n ≥ 4294967295) then
       bif decide (n ≤ 4294967295) then some (4, PUnit.unit) else some (5, PUnit.unit)
       else some (5, PUnit.unit)
       else
       bif decide (n ≥ 4294967295) then
       bif decide (n ≤ 4294967295) then some (4, PUnit.unit) else some (5, PUnit.unit)
       else some (5, PUnit.unit)
       else
       bif decide (n ≥ 64496) then
       bif decide (n ≤ 64511) then some (4, PUnit.unit)
       else
       bif decide (n ≥ 65535) then
       bif decide (n ≤ 65551) then some (4, PUnit.unit)
       else
       bif decide (n ≥ 4294967295) then
       bif decide (n ≤ 4294967295) then some (4, PUnit.unit) else some (5, PUnit.unit)
       else some (5, PUnit.unit)
       else
       bif decide (n ≥ 4294967295) then
       bif decide (n ≤ 4294967295) then some (4, PUnit.unit) else some (5, PUnit.unit)
       else some (5, PUnit.unit)
       else
       bif decide (n ≥ 65535) then
       bif decide (n ≤ 65551) then some (4, PUnit.unit)
       else
       bif decide (n ≥ 4294967295) then
       bif decide (n ≤ 4294967295) then some (4, PUnit.unit) else some (5, PUnit.unit)
       else some (5, PUnit.unit)
       else
       bif decide (n ≥ 4294967295) then
       bif decide (n ≤ 4294967295) then some (4, PUnit.unit) else some (5, PUnit.unit)
       else some (5, PUnit.unit)
theorem fe (d : Int) : bodyF (tabC Tryd.prog (tab) ((58, .none) :: pls) 100 14) 100 58 i o d = fP d := by kernel_rfl
noncomputable def f : FT := fP
def plan : Plan := .none
theorem planOk : PlanOk Tryd.prog (plan) (bodyOf Tryd.prog 58) := (planOk_of (plan) _ [] (by kernel_rfl) trivial)
theorem meets : MeetsF Tryd.prog 58 ⟨i, o, f⟩ :=
  funcT (fuel := 100) (depth := 14) (pl := (58, plan) :: pls) mixed tabS ⟨planOk, plsP⟩ (fun d =>  fe  d)
theorem spec : SpecOk Tryd.prog (fun _ => none) 58 (specF ⟨i, o, f⟩) := specF_ok (by kernel_rfl) meets
end Go.Proofs.YtpfbpcaehmhefaaDoorA.F58

/- What comes of function 28 of this program, consulate.peer.Told, as the engine gives it. -/
namespace Go.Proofs.YtpfbpcaehmhefaaDoorA.F28
open Go Go.Proofs Go.Proofs.YtpfbpcaehmhefaaDoor Go.RowKit Go.Proofs.YtpfbpcaehmhefaaDoorA.Sx
set_option linter.unusedVariables false
set_option maxRecDepth 100000
def tab (x58 : F58.FT) : List (FuncId × Sx.Spec) := [(58, specF ⟨F58.i, F58.o, x58⟩)]
def pls (x58 : F58.FT) : List (FuncId × Plan) := []
@[reducible] def i : Sh := .sc (.int .u32) .nil
@[reducible] def o : Sh := .sc .bool .nil
abbrev FT := Int → Option (Bool × Unit)
theorem tabS : AllS Tryd.prog (tab F58.f) := ⟨F58.spec, trivial⟩
theorem plsP : AllP Tryd.prog (pls F58.f) := trivial
theorem mixed : Tryd.prog.follows .mixedOrders = true := by kernel_rfl
def fP (x58 : F58.FT) : FT := fun n =>
    (x58 n).bind fun r0 =>
      bif r0.fst != 1 then
       bif r0.fst != 2 then bif n != 65535 then some (n != 4294967295, PUnit.unit) else some (false, PUnit.unit)
       else some (false, PUnit.unit)
      else some (false, PUnit.unit)
theorem fe (x58 : F58.FT) (d : Int) : bodyF (tabC Tryd.prog (tab x58) ((28, .none) :: pls x58) 100 14) 100 28 i o d = fP x58 d := by kernel_rfl
noncomputable def f : FT := fP F58.f
def plan : Plan := .none
theorem planOk : PlanOk Tryd.prog (plan) (bodyOf Tryd.prog 28) := (planOk_of (plan) _ [] (by kernel_rfl) trivial)
theorem meets : MeetsF Tryd.prog 28 ⟨i, o, f⟩ :=
  funcT (fuel := 100) (depth := 14) (pl := (28, plan) :: pls F58.f) mixed tabS ⟨planOk, plsP⟩ (fun d =>  fe F58.f d)
theorem spec : SpecOk Tryd.prog (fun _ => none) 28 (specF ⟨i, o, f⟩) := specF_ok (by kernel_rfl) meets
end Go.Proofs.YtpfbpcaehmhefaaDoorA.F28

/- What comes of function 60 of this program, slices.IndexFunc[[]consulate.api.AS,consulate.api.AS], as the engine gives it. -/
namespace Go.Proofs.YtpfbpcaehmhefaaDoorA.F60
open Go Go.Proofs Go.Proofs.YtpfbpcaehmhefaaDoor Go.RowKit Go.Proofs.YtpfbpcaehmhefaaDoorA.Sx
set_option linter.unusedVariables false
set_option maxRecDepth 100000
def tab (x28 : F28.FT) : List (FuncId × Sx.Spec) := [(28, specF ⟨F28.i, F28.o, x28⟩)]
def pls (x28 : F28.FT) : List (FuncId × Plan) := []
@[reducible] def k1 : Sh := .sl false 32 (.sc (.int .u32) .nil) (.ag (some 55) (.pt false 44 (.sc (.int .u32) (.sc (.int .u32) (.sl false 32 (.sc (.int .u32) .nil) (.sc (.int .u32) .nil)))) .nil) (.sc (.int .i64) .nil))
@[reducible] def i1 : Sh := .sc (.int .i64) .nil
@[reducible] def o1 : Sh := .sc (.int .i64) (.sc (.int .i64) .nil)
abbrev G1 := (List (Int) × ((Int × Int × List (Int) × Int)) × Int) → Int → Option ((Int × Int) × Unit)
def u1 (F : G1) : Un := ⟨19, [0, 1, 7], k1, [8], i1, [4], o1, [0, 1, 7], [(.exit 0, [false]), (.ret, [true])], F⟩
@[reducible] def i : Sh := .sl false 32 (.sc (.int .u32) .nil) (.ag (some 55) (.pt false 44 (.sc (.int .u32) (.sc (.int .u32) (.sl false 32 (.sc (.int .u32) .nil) (.sc (.int .u32) .nil)))) .nil) .nil)
@[reducible] def o : Sh := .sc (.int .i64) .nil
abbrev FT := (List (Int) × ((Int × Int × List (Int) × Int))) → Option (Int × Unit)
theorem tabS : AllS Tryd.prog (tab F28.f) := ⟨F28.spec, trivial⟩
theorem plsP : AllP Tryd.prog (pls F28.f) := trivial
theorem mixed : Tryd.prog.follows .mixedOrders = true := by kernel_rfl
def r1P (x28 : F28.FT) : (List (Int) × ((Int × Int × List (Int) × Int)) × Int) → Int → Option (Int ⊕ ((Int × Int) × Unit)) := fun (s, (f0, f1, f2, f3), t7) t8 =>
    bif decide (t8 < t7) then
      bif decide ((0 : Int) ≤ t8 ∧ t8 < (↑s.length : Int) ∧ (0 : Nat) < s.length) then
       bif decide ((0 : Nat) + t8.toNat < s.length) then
       (x28 (s.getD ((0 : Nat) + t8.toNat) (0 : Int))).bind fun r0 =>
       bif !r0.fst then some (Sum.inr (((1 : Int), t8), PUnit.unit))
       else
       bif s.getD ((0 : Nat) + t8.toNat) (0 : Int) == f0 then some (Sum.inr (((1 : Int), t8), PUnit.unit))
       else
       bif s.getD ((0 : Nat) + t8.toNat) (0 : Int) == f1 then some (Sum.inr (((1 : Int), t8), PUnit.unit))
       else some (Sum.inl (IntKind.i64.wrap (t8 + (1 : Int))))
       else none
      else none
    else some (Sum.inr (((0 : Int), (0 : Int)), PUnit.unit))
theorem r1e (x28 : F28.FT) (kd : List (Int) × ((Int × Int × List (Int) × Int)) × Int) (d : Int) : roundF (tabC Tryd.prog (tab x28) (pls x28) 100 14) 100 .none (u1 fun _ _ => none) (codeAt [1, 0, 1, 0, 0] (bodyOf Tryd.prog 60)) kd d = r1P x28 kd d := by kernel_rfl
noncomputable def r1 : (List (Int) × ((Int × Int × List (Int) × Int)) × Int) → Int → Option (Int ⊕ ((Int × Int) × Unit)) := r1P F28.f
noncomputable def l1 : G1 := fun kd d => iterO (r1 kd) d
theorem ok1 : UnOk Tryd.prog (u1 l1) (codeAt [1, 0, 1, 0] (bodyOf Tryd.prog 60)) :=
  loopT (p := .none) (c := codeAt [1, 0, 1, 0, 0] (bodyOf Tryd.prog 60)) (fuel := 100) (depth := 14) mixed tabS plsP (by kernel_rfl) trivial (by kernel_rfl) (fun kd d => r1e F28.f kd d) rfl
def fP (x28 : F28.FT) (l1 : G1) : FT := fun (s, (f0, f1, f2, f3)) =>
    bif decide ((0 : Nat) + s.length ≤ s.length) && true then
      (l1 (List.take s.length s, (f0, f1, f2, f3), (↑s.length : Int)) (OfNat.ofNat (0 : Nat))).bind fun r0 =>
       bif decide (r0.fst.fst = (0 : Int)) then some ((-1 : Int), PUnit.unit)
       else bif decide (r0.fst.fst = (1 : Int)) then some (r0.fst.snd, PUnit.unit) else none
    else none
theorem fe (x28 : F28.FT) (l1 : G1) (d : List (Int) × ((Int × Int × List (Int) × Int))) : bodyF (tabC Tryd.prog (tab x28) ((60, (.node .none (.node (.node .none (.node (.unit (u1 l1)) .none)) .none))) :: pls x28) 100 14) 100 60 i o d = fP x28 l1 d := by kernel_rfl
noncomputable def f : FT := fP F28.f l1
def plan (l1 : G1) : Plan := (.node .none (.node (.node .none (.node (.unit (u1 l1)) .none)) .none))
theorem planOk : PlanOk Tryd.prog (plan l1) (bodyOf Tryd.prog 60) := (planOk_of (plan l1) _ [([1, 0, 1, 0], u1 l1)] rfl ⟨ok1, trivial⟩)
theorem meets : MeetsF Tryd.prog 60 ⟨i, o, f⟩ :=
  funcT (fuel := 100) (depth := 14) (pl := (60, plan l1) :: pls F28.f) mixed tabS ⟨planOk, plsP⟩ (fun d =>  fe F28.f l1 d)
theorem spec : SpecOk Tryd.prog (fun _ => none) 60 (specF ⟨i, o, f⟩) := specF_ok (by kernel_rfl) meets
end Go.Proofs.YtpfbpcaehmhefaaDoorA.F60

/- What comes of function 56 of this program, slices.ContainsFunc[[]consulate.api.AS,consulate.api.AS], as the engine gives it. -/
namespace Go.Proofs.YtpfbpcaehmhefaaDoorA.F56
open Go Go.Proofs Go.Proofs.YtpfbpcaehmhefaaDoor Go.RowKit Go.Proofs.YtpfbpcaehmhefaaDoorA.Sx
set_option linter.unusedVariables false
set_option maxRecDepth 100000
def tab (x60 : F60.FT) : List (FuncId × Sx.Spec) := [(60, specF ⟨F60.i, F60.o, x60⟩)]
def pls (x60 : F60.FT) : List (FuncId × Plan) := []
@[reducible] def i : Sh := .sl false 32 (.sc (.int .u32) .nil) (.ag (some 55) (.pt false 44 (.sc (.int .u32) (.sc (.int .u32) (.sl false 32 (.sc (.int .u32) .nil) (.sc (.int .u32) .nil)))) .nil) .nil)
@[reducible] def o : Sh := .sc .bool .nil
abbrev FT := (List (Int) × ((Int × Int × List (Int) × Int))) → Option (Bool × Unit)
theorem tabS : AllS Tryd.prog (tab F60.f) := ⟨F60.spec, trivial⟩
theorem plsP : AllP Tryd.prog (pls F60.f) := trivial
theorem mixed : Tryd.prog.follows .mixedOrders = true := by kernel_rfl
def fP (x60 : F60.FT) : FT := fun (s, (f0, f1, f2, f3)) =>
    bif decide ((0 : Nat) + s.length ≤ s.length) && true then
      (x60 (List.take s.length s, f0, f1, f2, f3)).bind fun r0 => some (decide (r0.fst ≥ (0 : Int)), PUnit.unit)
    else none
theorem fe (x60 : F60.FT) (d : List (Int) × ((Int × Int × List (Int) × Int))) : bodyF (tabC Tryd.prog (tab x60) ((56, .none) :: pls x60) 100 14) 100 56 i o d = fP x60 d := by kernel_rfl
noncomputable def f : FT := fP F60.f
def plan : Plan := .none
theorem planOk : PlanOk Tryd.prog (plan) (bodyOf Tryd.prog 56) := (planOk_of (plan) _ [] (by kernel_rfl) trivial)
theorem meets : MeetsF Tryd.prog 56 ⟨i, o, f⟩ :=
  funcT (fuel := 100) (depth := 14) (pl := (56, plan) :: pls F60.f) mixed tabS ⟨planOk, plsP⟩ (fun d =>  fe F60.f d)
theorem spec : SpecOk Tryd.prog (fun _ => none) 56 (specF ⟨i, o, f⟩) := specF_ok (by kernel_rfl) meets
end Go.Proofs.YtpfbpcaehmhefaaDoorA.F56

/- What comes of function 23 of this program, (consulate.peer.Own).May, as the engine gives it. -/
namespace Go.Proofs.YtpfbpcaehmhefaaDoorA.F23
open Go Go.Proofs Go.Proofs.YtpfbpcaehmhefaaDoor Go.RowKit Go.Proofs.YtpfbpcaehmhefaaDoorA.Sx
set_option linter.unusedVariables false
set_option maxRecDepth 100000
def tab (x28 : F28.FT) (x56 : F56.FT) : List (FuncId × Sx.Spec) := [(28, specF ⟨F28.i, F28.o, x28⟩), (56, specF ⟨F56.i, F56.o, x56⟩)]
def pls (x28 : F28.FT) (x56 : F56.FT) : List (FuncId × Plan) := []
@[reducible] def k1 : Sh := .pt true 44 (.sc (.int .u32) (.sc (.int .u32) (.sl true 32 (.sc (.int .u32) .nil) (.sc (.int .u32) .nil)))) .nil
@[reducible] def i1 : Sh := .sc (.int .i64) .nil
@[reducible] def o1 : Sh := .sc (.int .i64) (.sc .bool .nil)
abbrev G1 := ((Int × Int × List (Int) × Int)) → Int → Option ((Int × Bool) × Unit)
def u1 (F : G1) : Un := ⟨71, [1], k1, [4], i1, [2], o1, [1, 3], [(.exit 0, [false]), (.ret, [true])], F⟩
@[reducible] def i : Sh := .ag none (.sc (.int .u32) (.sc (.int .u32) (.sl false 32 (.sc (.int .u32) .nil) (.sc (.int .u32) .nil)))) .nil
@[reducible] def o : Sh := .sc .bool .nil
abbrev FT := ((Int × Int × List (Int) × Int)) → Option (Bool × Unit)
theorem tabS : AllS Tryd.prog (tab F28.f F56.f) := ⟨F28.spec, F56.spec, trivial⟩
theorem plsP : AllP Tryd.prog (pls F28.f F56.f) := trivial
theorem mixed : Tryd.prog.follows .mixedOrders = true := by kernel_rfl
def r1P (x28 : F28.FT) (x56 : F56.FT) : ((Int × Int × List (Int) × Int)) → Int → Option (Int ⊕ ((Int × Bool) × Unit)) := fun (o0_2, o1_2, o2_2, o3_2) k =>
    bif decide (k < (↑o2_2.length : Int)) then
      bif
       decide
       ((0 : Int) ≤ IntKind.i64.wrap (k - (1 : Int)) ∧
       IntKind.i64.wrap (k - (1 : Int)) < (↑o2_2.length : Int) ∧ (0 : Nat) < o2_2.length) then
       bif decide ((0 : Nat) + (IntKind.i64.wrap (k - (1 : Int))).toNat < o2_2.length) then
       bif decide ((0 : Int) ≤ k ∧ k < (↑o2_2.length : Int) ∧ (0 : Nat) < o2_2.length) then
       bif decide ((0 : Nat) + k.toNat < o2_2.length) then
       bif
       decide
       (o2_2.getD ((0 : Nat) + (IntKind.i64.wrap (k - (1 : Int))).toNat) (0 : Int) ≥
       o2_2.getD ((0 : Nat) + k.toNat) (0 : Int)) then
       some (Sum.inr (((1 : Int), false), PUnit.unit))
       else some (Sum.inl (IntKind.i64.wrap (k + (1 : Int))))
       else none
       else none
       else none
      else none
    else some (Sum.inr (((0 : Int), false), PUnit.unit))
theorem r1e (x28 : F28.FT) (x56 : F56.FT) (kd : (Int × Int × List (Int) × Int)) (d : Int) : roundF (tabC Tryd.prog (tab x28 x56) (pls x28 x56) 100 14) 100 .none (u1 fun _ _ => none) (codeAt [1, 1, 0, 1, 0, 0] (bodyOf Tryd.prog 23)) kd d = r1P x28 x56 kd d := by kernel_rfl
noncomputable def r1 : ((Int × Int × List (Int) × Int)) → Int → Option (Int ⊕ ((Int × Bool) × Unit)) := r1P F28.f F56.f
noncomputable def l1 : G1 := fun kd d => iterO (r1 kd) d
theorem ok1 : UnOk Tryd.prog (u1 l1) (codeAt [1, 1, 0, 1, 0] (bodyOf Tryd.prog 23)) :=
  loopT (p := .none) (c := codeAt [1, 1, 0, 1, 0, 0] (bodyOf Tryd.prog 23)) (fuel := 100) (depth := 14) mixed tabS plsP (by kernel_rfl) trivial (by kernel_rfl) (fun kd d => r1e F28.f F56.f kd d) rfl
def fP (x28 : F28.FT) (x56 : F56.FT) (l1 : G1) : FT := fun (o0_2, o1_2, o2_2, o3_2) =>
    bif decide ((0 : Nat) + o2_2.length ≤ o2_2.length) && true then
      (l1 (o0_2, o1_2, List.take o2_2.length o2_2, o3_2) (OfNat.ofNat (1 : Nat))).bind fun r0 =>
       bif decide (r0.fst.fst = (0 : Int)) then
       bif o0_2 != o1_2 then
       (x28 o0_2).bind fun r1 =>
       bif r1.fst then
       (x28 o1_2).bind fun r2 =>
       bif r2.fst then
       bif decide ((↑o2_2.length : Int) ≤ (16 : Int)) then
       bif decide ((0 : Nat) + o2_2.length ≤ o2_2.length) && true then
       bif decide ((0 : Nat) + o2_2.length ≤ o2_2.length) && true then
       (x56 (List.take o2_2.length o2_2, o0_2, o1_2, List.take o2_2.length o2_2, o3_2)).bind fun r3 =>
       bif !r3.fst then
       bif o3_2 != (0 : Int) then some (decide (o3_2 < (3758096384 : Int)), PUnit.unit)
       else some (false, PUnit.unit)
       else some (false, PUnit.unit)
       else none
       else none
       else some (false, PUnit.unit)
       else some (false, PUnit.unit)
       else some (false, PUnit.unit)
       else
       (x28 o0_2).bind fun r1 =>
       bif r1.fst then
       (x28 o1_2).bind fun r2 =>
       bif r2.fst then
       bif (↑o2_2.length : Int) == (0 : Int) then
       bif decide ((↑o2_2.length : Int) ≤ (16 : Int)) then
       bif decide ((0 : Nat) + o2_2.length ≤ o2_2.length) && true then
       bif decide ((0 : Nat) + o2_2.length ≤ o2_2.length) && true then
       (x56 (List.take o2_2.length o2_2, o0_2, o1_2, List.take o2_2.length o2_2, o3_2)).bind
       fun r3 =>
       bif !r3.fst then
       bif o3_2 != (0 : Int) then some (decide (o3_2 < (3758096384 : Int)), PUnit.unit)
       else some (false, PUnit.unit)
       else some (false, PUnit.unit)
       else none
       else none
       else some (false, PUnit.unit)
       else some (false, PUnit.unit)
       else some (false, PUnit.unit)
       else some (false, PUnit.unit)
       else bif decide (r0.fst.fst = (1 : Int)) then some (r0.fst.snd, PUnit.unit) else none
    else none
theorem fe (x28 : F28.FT) (x56 : F56.FT) (l1 : G1) (d : (Int × Int × List (Int) × Int)) : bodyF (tabC Tryd.prog (tab x28 x56) ((23, (.node .none (.node .none (.node (.node .none (.node (.unit (u1 l1)) .none)) .none)))) :: pls x28 x56) 100 14) 100 23 i o d = fP x28 x56 l1 d := by kernel_rfl
noncomputable def f : FT := fP F28.f F56.f l1
def plan (l1 : G1) : Plan := (.node .none (.node .none (.node (.node .none (.node (.unit (u1 l1)) .none)) .none)))
theorem planOk : PlanOk Tryd.prog (plan l1) (bodyOf Tryd.prog 23) := (planOk_of (plan l1) _ [([1, 1, 0, 1, 0], u1 l1)] rfl ⟨ok1, trivial⟩)
theorem meets : MeetsF Tryd.prog 23 ⟨i, o, f⟩ :=
  funcT (fuel := 100) (depth := 14) (pl := (23, plan l1) :: pls F28.f F56.f) mixed tabS ⟨planOk, plsP⟩ (fun d =>  fe F28.f F56.f l1 d)
theorem spec : SpecOk Tryd.prog (fun _ => none) 23 (specF ⟨i, o, f⟩) := specF_ok (by kernel_rfl) meets
end Go.Proofs.YtpfbpcaehmhefaaDoorA.F23

/- What comes of function 25 of this program, (consulate.peer.Own).Tells, as the engine gives it. -/
namespace Go.Proofs.YtpfbpcaehmhefaaDoorA.F25
open Go Go.Proofs Go.Proofs.YtpfbpcaehmhefaaDoor Go.RowKit Go.Proofs.YtpfbpcaehmhefaaDoorA.Sx
set_option linter.unusedVariables false
set_option maxRecDepth 100000
def tab : List (FuncId × Sx.Spec) := []
def pls : List (FuncId × Plan) := []
@[reducible] def i : Sh := .ag none (.sc (.int .u32) (.sc (.int .u32) (.sl false 32 (.sc (.int .u32) .nil) (.sc (.int .u32) .nil)))) (.sc (.int .i64) .nil)
@[reducible] def o : Sh := .sc (.int .u32) .nil
abbrev FT := ((Int × Int × List (Int) × Int) × Int) → Option (Int × Unit)
theorem tabS : AllS Tryd.prog (tab) := trivial
theorem plsP : AllP Tryd.prog (pls) := trivial
theorem mixed : Tryd.prog.follows .mixedOrders = true := by kernel_rfl
def fP : FT := fun ((o0_2, o1_2, o2_2, o3_2), class0) =>
    bif class0 == (1 : Int) then some (o0_2, PUnit.unit)
    else
      bif class0 == (2 : Int) then some (o0_2, PUnit.unit)
      else bif class0 == (3 : Int) then some (o1_2, PUnit.unit) else some ((0 : Int), PUnit.unit)
theorem fe (d : (Int × Int × List (Int) × Int) × Int) : bodyF (tabC Tryd.prog (tab) ((25, .none) :: pls) 100 14) 100 25 i o d = fP d := by kernel_rfl
noncomputable def f : FT := fP
def plan : Plan := .none
theorem planOk : PlanOk Tryd.prog (plan) (bodyOf Tryd.prog 25) := (planOk_of (plan) _ [] (by kernel_rfl) trivial)
theorem meets : MeetsF Tryd.prog 25 ⟨i, o, f⟩ :=
  funcT (fuel := 100) (depth := 14) (pl := (25, plan) :: pls) mixed tabS ⟨planOk, plsP⟩ (fun d =>  fe  d)
theorem spec : SpecOk Tryd.prog (fun _ => none) 25 (specF ⟨i, o, f⟩) := specF_ok (by kernel_rfl) meets
end Go.Proofs.YtpfbpcaehmhefaaDoorA.F25

/- What comes of function 62 of this program, slices.Index[[]consulate.api.AS,consulate.api.AS], as the engine gives it. -/
namespace Go.Proofs.YtpfbpcaehmhefaaDoorA.F62
open Go Go.Proofs Go.Proofs.YtpfbpcaehmhefaaDoor Go.RowKit Go.Proofs.YtpfbpcaehmhefaaDoorA.Sx
set_option linter.unusedVariables false
set_option maxRecDepth 100000
def tab : List (FuncId × Sx.Spec) := []
def pls : List (FuncId × Plan) := []
@[reducible] def k1 : Sh := .sl false 32 (.sc (.int .u32) .nil) (.sc (.int .u32) (.sc (.int .i64) .nil))
@[reducible] def i1 : Sh := .sc (.int .i64) .nil
@[reducible] def o1 : Sh := .sc (.int .i64) (.sc (.int .i64) .nil)
abbrev G1 := (List (Int) × Int × Int) → Int → Option ((Int × Int) × Unit)
def u1 (F : G1) : Un := ⟨19, [0, 1, 7], k1, [8], i1, [4], o1, [0, 1, 7], [(.exit 0, [false]), (.ret, [true])], F⟩
@[reducible] def i : Sh := .sl false 32 (.sc (.int .u32) .nil) (.sc (.int .u32) .nil)
@[reducible] def o : Sh := .sc (.int .i64) .nil
abbrev FT := (List (Int) × Int) → Option (Int × Unit)
theorem tabS : AllS Tryd.prog (tab) := trivial
theorem plsP : AllP Tryd.prog (pls) := trivial
theorem mixed : Tryd.prog.follows .mixedOrders = true := by kernel_rfl
def r1P : (List (Int) × Int × Int) → Int → Option (Int ⊕ ((Int × Int) × Unit)) := fun (s, v, t7) t8 =>
    bif decide (t8 < t7) then
      bif decide ((0 : Int) ≤ t8 ∧ t8 < (↑s.length : Int) ∧ (0 : Nat) < s.length) then
       bif decide ((0 : Nat) + t8.toNat < s.length) then
       bif v == s.getD ((0 : Nat) + t8.toNat) (0 : Int) then some (Sum.inr (((1 : Int), t8), PUnit.unit))
       else some (Sum.inl (IntKind.i64.wrap (t8 + (1 : Int))))
       else none
      else none
    else some (Sum.inr (((0 : Int), (0 : Int)), PUnit.unit))
theorem r1e (kd : List (Int) × Int × Int) (d : Int) : roundF (tabC Tryd.prog (tab) (pls) 100 14) 100 .none (u1 fun _ _ => none) (codeAt [1, 0, 1, 0, 0] (bodyOf Tryd.prog 62)) kd d = r1P kd d := by kernel_rfl
noncomputable def r1 : (List (Int) × Int × Int) → Int → Option (Int ⊕ ((Int × Int) × Unit)) := r1P
noncomputable def l1 : G1 := fun kd d => iterO (r1 kd) d
theorem ok1 : UnOk Tryd.prog (u1 l1) (codeAt [1, 0, 1, 0] (bodyOf Tryd.prog 62)) :=
  loopT (p := .none) (c := codeAt [1, 0, 1, 0, 0] (bodyOf Tryd.prog 62)) (fuel := 100) (depth := 14) mixed tabS plsP (by kernel_rfl) trivial (by kernel_rfl) (fun kd d => r1e  kd d) rfl
def fP (l1 : G1) : FT := fun (s, v) =>
    bif decide ((0 : Nat) + s.length ≤ s.length) && true then
      (l1 (List.take s.length s, v, (↑s.length : Int)) (OfNat.ofNat (0 : Nat))).bind fun r0 =>
       bif decide (r0.fst.fst = (0 : Int)) then some ((-1 : Int), PUnit.unit)
       else bif decide (r0.fst.fst = (1 : Int)) then some (r0.fst.snd, PUnit.unit) else none
    else none
theorem fe (l1 : G1) (d : List (Int) × Int) : bodyF (tabC Tryd.prog (tab) ((62, (.node .none (.node (.node .none (.node (.unit (u1 l1)) .none)) .none))) :: pls) 100 14) 100 62 i o d = fP l1 d := by kernel_rfl
noncomputable def f : FT := fP l1
def plan (l1 : G1) : Plan := (.node .none (.node (.node .none (.node (.unit (u1 l1)) .none)) .none))
theorem planOk : PlanOk Tryd.prog (plan l1) (bodyOf Tryd.prog 62) := (planOk_of (plan l1) _ [([1, 0, 1, 0], u1 l1)] rfl ⟨ok1, trivial⟩)
theorem meets : MeetsF Tryd.prog 62 ⟨i, o, f⟩ :=
  funcT (fuel := 100) (depth := 14) (pl := (62, plan l1) :: pls) mixed tabS ⟨planOk, plsP⟩ (fun d =>  fe l1 d)
theorem spec : SpecOk Tryd.prog (fun _ => none) 62 (specF ⟨i, o, f⟩) := specF_ok (by kernel_rfl) meets
end Go.Proofs.YtpfbpcaehmhefaaDoorA.F62

/- What comes of function 37 of this program, slices.Contains[[]consulate.api.AS,consulate.api.AS], as the engine gives it. -/
namespace Go.Proofs.YtpfbpcaehmhefaaDoorA.F37
open Go Go.Proofs Go.Proofs.YtpfbpcaehmhefaaDoor Go.RowKit Go.Proofs.YtpfbpcaehmhefaaDoorA.Sx
set_option linter.unusedVariables false
set_option maxRecDepth 100000
def tab (x62 : F62.FT) : List (FuncId × Sx.Spec) := [(62, specF ⟨F62.i, F62.o, x62⟩)]
def pls (x62 : F62.FT) : List (FuncId × Plan) := []
@[reducible] def i : Sh := .sl false 32 (.sc (.int .u32) .nil) (.sc (.int .u32) .nil)
@[reducible] def o : Sh := .sc .bool .nil
abbrev FT := (List (Int) × Int) → Option (Bool × Unit)
theorem tabS : AllS Tryd.prog (tab F62.f) := ⟨F62.spec, trivial⟩
theorem plsP : AllP Tryd.prog (pls F62.f) := trivial
theorem mixed : Tryd.prog.follows .mixedOrders = true := by kernel_rfl
def fP (x62 : F62.FT) : FT := fun (s, v) =>
    bif decide ((0 : Nat) + s.length ≤ s.length) && true then
      (x62 (List.take s.length s, v)).bind fun r0 => some (decide (r0.fst ≥ (0 : Int)), PUnit.unit)
    else none
theorem fe (x62 : F62.FT) (d : List (Int) × Int) : bodyF (tabC Tryd.prog (tab x62) ((37, .none) :: pls x62) 100 14) 100 37 i o d = fP x62 d := by kernel_rfl
noncomputable def f : FT := fP F62.f
def plan : Plan := .none
theorem planOk : PlanOk Tryd.prog (plan) (bodyOf Tryd.prog 37) := (planOk_of (plan) _ [] (by kernel_rfl) trivial)
theorem meets : MeetsF Tryd.prog 37 ⟨i, o, f⟩ :=
  funcT (fuel := 100) (depth := 14) (pl := (37, plan) :: pls F62.f) mixed tabS ⟨planOk, plsP⟩ (fun d =>  fe F62.f d)
theorem spec : SpecOk Tryd.prog (fun _ => none) 37 (specF ⟨i, o, f⟩) := specF_ok (by kernel_rfl) meets
end Go.Proofs.YtpfbpcaehmhefaaDoorA.F37

/- What comes of function 24 of this program, (consulate.peer.Own).Class, as the engine gives it. -/
namespace Go.Proofs.YtpfbpcaehmhefaaDoorA.F24
open Go Go.Proofs Go.Proofs.YtpfbpcaehmhefaaDoor Go.RowKit Go.Proofs.YtpfbpcaehmhefaaDoorA.Sx
set_option linter.unusedVariables false
set_option maxRecDepth 100000
def tab (x23 : F23.FT) (x28 : F28.FT) (x37 : F37.FT) : List (FuncId × Sx.Spec) := [(23, specF ⟨F23.i, F23.o, x23⟩), (28, specF ⟨F28.i, F28.o, x28⟩), (37, specF ⟨F37.i, F37.o, x37⟩)]
def pls (x23 : F23.FT) (x28 : F28.FT) (x37 : F37.FT) : List (FuncId × Plan) := []
@[reducible] def i : Sh := .ag none (.sc (.int .u32) (.sc (.int .u32) (.sl false 32 (.sc (.int .u32) .nil) (.sc (.int .u32) .nil)))) (.sc (.int .u32) .nil)
@[reducible] def o : Sh := .sc (.int .i64) .nil
abbrev FT := ((Int × Int × List (Int) × Int) × Int) → Option (Int × Unit)
theorem tabS : AllS Tryd.prog (tab F23.f F28.f F37.f) := ⟨F23.spec, F28.spec, F37.spec, trivial⟩
theorem plsP : AllP Tryd.prog (pls F23.f F28.f F37.f) := trivial
theorem mixed : Tryd.prog.follows .mixedOrders = true := by kernel_rfl
def fP (x23 : F23.FT) (x28 : F28.FT) (x37 : F37.FT) : FT := fun ((o0_2, o1_2, o2_2, o3_2), n) =>
    bif decide ((0 : Nat) + o2_2.length ≤ o2_2.length) && true then
      (x23 (o0_2, o1_2, List.take o2_2.length o2_2, o3_2)).bind fun r0 =>
       bif !r0.fst then some ((0 : Int), PUnit.unit)
       else
       (x28 n).bind fun r1 =>
       bif !r1.fst then some ((0 : Int), PUnit.unit)
       else
       bif n == o0_2 then some ((1 : Int), PUnit.unit)
       else
       bif decide ((0 : Nat) + o2_2.length ≤ o2_2.length) && true then
       (x37 (List.take o2_2.length o2_2, n)).bind fun r2 =>
       bif r2.fst then some ((2 : Int), PUnit.unit)
       else bif n == o1_2 then some ((0 : Int), PUnit.unit) else some ((3 : Int), PUnit.unit)
       else none
    else none
theorem fe (x23 : F23.FT) (x28 : F28.FT) (x37 : F37.FT) (d : (Int × Int × List (Int) × Int) × Int) : bodyF (tabC Tryd.prog (tab x23 x28 x37) ((24, .none) :: pls x23 x28 x37) 100 14) 100 24 i o d = fP x23 x28 x37 d := by kernel_rfl
noncomputable def f : FT := fP F23.f F28.f F37.f
def plan : Plan := .none
theorem planOk : PlanOk Tryd.prog (plan) (bodyOf Tryd.prog 24) := (planOk_of (plan) _ [] (by kernel_rfl) trivial)
theorem meets : MeetsF Tryd.prog 24 ⟨i, o, f⟩ :=
  funcT (fuel := 100) (depth := 14) (pl := (24, plan) :: pls F23.f F28.f F37.f) mixed tabS ⟨planOk, plsP⟩ (fun d =>  fe F23.f F28.f F37.f d)
theorem spec : SpecOk Tryd.prog (fun _ => none) 24 (specF ⟨i, o, f⟩) := specF_ok (by kernel_rfl) meets
end Go.Proofs.YtpfbpcaehmhefaaDoorA.F24

/- What comes of function 68 of this program, slices.Clone[[]byte,byte], as the engine gives it. -/
namespace Go.Proofs.YtpfbpcaehmhefaaDoorA.F68
open Go Go.Proofs Go.Proofs.YtpfbpcaehmhefaaDoor Go.RowKit Go.Proofs.YtpfbpcaehmhefaaDoorA.Sx
set_option linter.unusedVariables false
set_option maxRecDepth 100000
def tab : List (FuncId × Sx.Spec) := []
def pls : List (FuncId × Plan) := []
@[reducible] def i : Sh := .sl false 5 (.sc (.int .u8) .nil) .nil
@[reducible] def o : Sh := .sl true 5 (.sc (.int .u8) .nil) .nil
abbrev FT := List (Int) → Option (List (Int) × Unit)
theorem tabS : AllS Tryd.prog (tab) := trivial
theorem plsP : AllP Tryd.prog (pls) := trivial
theorem mixed : Tryd.prog.follows .mixedOrders = true := by kernel_rfl
def fP : FT := fun s =>
    bif decide ((0 : Nat) < s.length) then
      bif decide ((0 : Nat) + s.length ≤ s.length) then
       bif decide ((0 : Nat) + (List.take s.length s).length ≤ (1073741824 : Nat)) then
       bif
       decide ((0 : Nat) + ((0 : Nat) + (List.take s.length s).length) ≤ ([] ++ List.take s.length s).length) &&
       true then
       some
       (List.take ((0 : Nat) + (List.take s.length s).length) (List.drop (0 : Nat) ([] ++ List.take s.length s)),
       PUnit.unit)
       else none
       else none
      else none
    else none
theorem fe (d : List (Int)) : bodyF (tabC Tryd.prog (tab) ((68, .none) :: pls) 100 14) 100 68 i o d = fP d := by kernel_rfl
noncomputable def f : FT := fun d => if 0 < d.length then fP d else some ([], ())
def plan : Plan := .none
theorem planOk : PlanOk Tryd.prog (plan) (bodyOf Tryd.prog 68) := (planOk_of (plan) _ [] (by kernel_rfl) trivial)
theorem meets : MeetsF Tryd.prog 68 ⟨i, o, f⟩ :=
  sliceT (fuel := 100) (depth := 14) (pl := (68, plan) :: pls) (z := (show Den o from [])) mixed tabS ⟨planOk, plsP⟩ (fun (d : List (Int)) hd => (fe  d).trans (show fP d = f d from (if_pos (c := 0 < d.length) hd).symm)) (fun (d : List (Int)) h => (show f d = _ from if_neg (c := 0 < d.length) (by have h : d.length = 0 := h; omega))) (fun c => by kernel_rfl) (fun a c => by kernel_rfl)
theorem spec : SpecOk Tryd.prog (fun _ => none) 68 (specF ⟨i, o, f⟩) := specF_ok (by kernel_rfl) meets
end Go.Proofs.YtpfbpcaehmhefaaDoorA.F68

/- slices.Clone, of bytes that stand in a package variable, too. -/
namespace Go.Proofs.YtpfbpcaehmhefaaDoorA.F68G
open Go Go.Proofs Go.Proofs.YtpfbpcaehmhefaaDoor Go.RowKit Go.Proofs.YtpfbpcaehmhefaaDoorA.Sx
def ints : List Value → Option (List Int)
  | [] => some []
  | v :: l => match v, ints l with
    | .int .u8 n, some d => some (n :: d)
    | _, _ => none
def sp (x : F68.FT) : Sx.Spec := fun args lk fr =>
  match args with
  | [.v (.slice (some a) k c)] =>
    match (cellsG a k).bind ints with
    | some ds => bif Nat.ble k c && Nat.blt 0 k && Nat.beq ds.length k then
        .bnd F68.o (posts F68.i) (x ds) (fun r => (scat false F68.o r.1 fr).map fun y =>
          some { val := resA y.1, reads := [], upd := [], news := y.2.1, nn := y.2.2 - fr }) (.leaf none) else .leaf none
    | none => .leaf none
  | _ => specF ⟨F68.i, F68.o, x⟩ args lk fr
theorem ints_len : ∀ {cs : List Value} {ds : List Int}, ints cs = some ds → ds.length = cs.length
  | [], _, h => by cases h; rfl
  | v :: l, ds, h => by
    unfold ints at h
    split at h
    · rename_i n d h2
      cases h
      simp [ints_len h2]
    · cases h
theorem ints_rows {w : World} : ∀ {cs : List Value} {ds : List Int}, ints cs = some ds → rowsH (hold w true (.sc (.int .u8) .nil)) ds cs [] []
  | [], _, h => by cases h; exact ⟨rfl, rfl, rfl⟩
  | v :: l, ds, h => by
    unfold ints at h
    split at h
    · rename_i n d h2
      cases h
      exact ⟨[.int .u8 n], l, [], [], [], [], rfl, rfl, rfl, ⟨[], rfl, rfl, rfl, rfl, rfl⟩, ints_rows h2⟩
    · cases h
theorem cells_ok {w : World} (hg : GlobOk w (fun k => k ∈ ([] : List Nat))) {a : Addr} {k c : Nat} {ds : List Int} (h : (cellsG a k).bind ints = some ds) (hkc : k ≤ c) (hl : ds.length = k) :
    ∃ R, holdA w F68.i ds [.slice (some a) k c] [] [] R := by
  obtain ⟨cs, h1, h2⟩ := Option.bind_eq_some_iff.1 h
  obtain ⟨c1, c2⟩ := cellsG_ok h1 (w := w) (fun g o hgo => (hg g _ hgo).1)
  have hs : a.spot = none := by
    unfold cellsG at h1
    split at h1
    · cases h1
    · assumption
  have hp : Pl.ptr { block := a.block, base := a.off, stride := 1, cap := c } 0 0 = some a := by
    obtain ⟨b, o, s⟩ := a
    simp only at hs
    subst hs
    simp [Pl.ptr, Pl.addr]
  have hcs : cs.length = ds.length := (ints_len h2).symm
  refine ⟨blkR { block := a.block, base := a.off, stride := 1, cap := c } cs ++ [], .slice (some a) k c, [], [], blkR { block := a.block, base := a.off, stride := 1, cap := c } cs, [], [], rfl, ?_, ⟨rfl, rfl, rfl, rfl⟩, rfl, rfl⟩
  refine ⟨{ block := a.block, base := a.off, stride := 1, cap := c }, [], cs, [], [], [], blkR { block := a.block, base := a.off, stride := 1, cap := c } cs, [], [], ?_, ints_rows h2, ?_, ⟨rfl, rfl, rfl⟩, rfl, by simp⟩
  · rw [hp]
    show Value.slice (some a) k c :: [] = Value.slice (some a) ds.length c :: []
    rw [hl]
  · refine ⟨rfl, by decide, ?_, ⟨fun e => (by cases e), ?_⟩, ?_, rfl, rfl, by simp⟩
    · show cs.length = ds.length * 1
      omega
    · show ds.length ≤ c
      omega
    · intro j V hV
      have := c2 j V hV
      rw [addr_plus a hs j] at this
      simpa [Pl.addr] using this
theorem spec : SpecOk Tryd.prog (fun _ => none) 68 (sp F68.f) := by
  have h0 := F68.spec
  refine ⟨h0.fn, ?_, ?_⟩
  · intro args lk lk' fr e he hl
    unfold sp at he ⊢
    split at he
    · exact he
    · exact h0.loc _ _ _ _ _ he hl
  · intro W0 S E hp w args vs fr e G hgl he hargs hfr
    unfold sp at he
    split at he
    · rename_i a k c
      split at he
      case h_2 => exact get_none he
      rename_i ds hds
      cases hb : Nat.ble k c && Nat.blt 0 k && Nat.beq ds.length k with
      | false => rw [hb] at he; exact get_none he
      | true =>
        rw [hb] at he
        simp only [cond_true] at he
        simp only [Bool.and_eq_true] at hb
        obtain ⟨⟨b1, b2⟩, b3⟩ := hb
        obtain ⟨r, hr, he⟩ := get_bnd he
        rw [T.get_map, Option.some.injEq] at he
        obtain ⟨FF, RR, G⟩ := G
        have hin : InF hp FF [] [] := fun k hk => by cases hk
        have hvs : vs = [.slice (some a) k c] := by
          simp [concs, conc] at hargs
          exact hargs.symm
        have hG := G.globF hin
        obtain ⟨R, hd⟩ := cells_ok hG hds (Nat.le_of_ble_eq_true b1) (Nat.eq_of_beq_eq_true b3)
        subst hvs
        refine Calls.mono (F68.meets w ds _ [] [] R r hG hd List.nodup_nil (fun k hk => by cases hk) hr) ?_
        rintro x w' ⟨rs, F1, R1, ps, F2, R2, rfl, h1, h2, h3, h4, h5, h6⟩
        have hro : ∀ k ∈ R1 ++ R2, (∃ m b, hp m = some b ∧ k ∈ RR m) ∨ tabM w k := by
          intro k hk
          rw [hold_roFree _ _ _ _ _ h1 rfl, hold_roFree _ _ _ _ _ (holdA_hold _ _ _ _ _ _ h2) rfl] at hk
          simp at hk
        obtain ⟨E', g1, g2, g3, g4⟩ := call_post (i := F68.i) (o := F68.o) (ns := []) (Ps := []) (fr := fr) (e := e) G hin rfl List.nodup_nil h1 h2 h3 h4 hro h6 (by rw [← he]; rfl) (by rw [← he]) (by rw [← he]) hfr
        exact ⟨resV rs, E', rfl, by rw [← he]; exact conc_resA g1, g2, g3, g4⟩
    · exact h0.run W0 S E hp w args vs fr e G hgl he hargs hfr
end Go.Proofs.YtpfbpcaehmhefaaDoorA.F68G

/- What comes of function 57 of this program, consulate.caps.Ours, as the engine gives it. -/
namespace Go.Proofs.YtpfbpcaehmhefaaDoorA.F57
open Go Go.Proofs Go.Proofs.YtpfbpcaehmhefaaDoor Go.RowKit Go.Proofs.YtpfbpcaehmhefaaDoorA.Sx
set_option linter.unusedVariables false
set_option maxRecDepth 100000
def tab (x68 : F68.FT) : List (FuncId × Sx.Spec) := [(68, F68G.sp x68)]
def pls (x68 : F68.FT) : List (FuncId × Plan) := []
@[reducible] def i : Sh := .sc (.int .u32) .nil
@[reducible] def o : Sh := .sl true 29 (.sc (.int .u8) (.sl true 5 (.sc (.int .u8) .nil) .nil)) .nil
abbrev FT := Int → Option (((List (Int × List (Int)))) × Unit)
theorem tabS : AllS Tryd.prog (tab F68.f) := ⟨F68G.spec, trivial⟩
theorem plsP : AllP Tryd.prog (pls F68.f) := trivial
theorem mixed : Tryd.prog.follows .mixedOrders = true := by kernel_rfl
def fP (x68 : F68.FT) : FT := fun n =>
    (x68 [(0 : Int), (1 : Int), (0 : Int), (1 : Int)]).bind fun r0 =>
      bif decide ((0 : Nat) + List.length r0.fst ≤ List.length r0.fst) && true then
       some
       ([((1 : Int), List.take (List.length r0.fst) (List.drop (0 : Nat) r0.fst)), ((2 : Int), []),
       ((65 : Int),
       [IntKind.u8.wrap (n.fdiv (16777216 : Int)), IntKind.u8.wrap (n.fdiv (65536 : Int)),
       IntKind.u8.wrap (n.fdiv (256 : Int)), IntKind.u8.wrap n])],
       PUnit.unit)
      else none
theorem fe (x68 : F68.FT) (d : Int) : bodyF (tabC Tryd.prog (tab x68) ((57, .none) :: pls x68) 100 14) 100 57 i o d = fP x68 d := by kernel_rfl
noncomputable def f : FT := fP F68.f
def plan : Plan := .none
theorem planOk : PlanOk Tryd.prog (plan) (bodyOf Tryd.prog 57) := (planOk_of (plan) _ [] (by kernel_rfl) trivial)
theorem meets : MeetsF Tryd.prog 57 ⟨i, o, f⟩ :=
  funcT (fuel := 100) (depth := 14) (pl := (57, plan) :: pls F68.f) mixed tabS ⟨planOk, plsP⟩ (fun d =>  fe F68.f d)
theorem spec : SpecOk Tryd.prog (fun _ => none) 57 (specF ⟨i, o, f⟩) := specF_ok (by kernel_rfl) meets
end Go.Proofs.YtpfbpcaehmhefaaDoorA.F57

/- What comes of function 26 of this program, (consulate.peer.Own).Caps, as the engine gives it. -/
namespace Go.Proofs.YtpfbpcaehmhefaaDoorA.F26
open Go Go.Proofs Go.Proofs.YtpfbpcaehmhefaaDoor Go.RowKit Go.Proofs.YtpfbpcaehmhefaaDoorA.Sx
set_option linter.unusedVariables false
set_option maxRecDepth 100000
def tab (x25 : F25.FT) (x57 : F57.FT) : List (FuncId × Sx.Spec) := [(25, specF ⟨F25.i, F25.o, x25⟩), (57, specF ⟨F57.i, F57.o, x57⟩)]
def pls (x25 : F25.FT) (x57 : F57.FT) : List (FuncId × Plan) := []
@[reducible] def i : Sh := .ag none (.sc (.int .u32) (.sc (.int .u32) (.sl false 32 (.sc (.int .u32) .nil) (.sc (.int .u32) .nil)))) (.sc (.int .i64) .nil)
@[reducible] def o : Sh := .sl true 29 (.sc (.int .u8) (.sl true 5 (.sc (.int .u8) .nil) .nil)) .nil
abbrev FT := ((Int × Int × List (Int) × Int) × Int) → Option (((List (Int × List (Int)))) × Unit)
theorem tabS : AllS Tryd.prog (tab F25.f F57.f) := ⟨F25.spec, F57.spec, trivial⟩
theorem plsP : AllP Tryd.prog (pls F25.f F57.f) := trivial
theorem mixed : Tryd.prog.follows .mixedOrders = true := by kernel_rfl
def fP (x25 : F25.FT) (x57 : F57.FT) : FT := fun ((o0_2, o1_2, o2_2, o3_2), class0) =>
    bif decide (class0 < (1 : Int)) then some ([], PUnit.unit)
    else
      bif decide (class0 > (3 : Int)) then some ([], PUnit.unit)
      else
       bif decide ((0 : Nat) + o2_2.length ≤ o2_2.length) && true then
       (x25 ((o0_2, o1_2, List.take o2_2.length o2_2, o3_2), class0)).bind fun r0 =>
       (x57 r0.fst).bind fun r1 =>
       bif decide ((0 : Nat) + List.length r1.fst ≤ List.length r1.fst) && true then
       some (List.take (List.length r1.fst) (List.drop (0 : Nat) r1.fst), PUnit.unit)
       else none
       else none
theorem fe (x25 : F25.FT) (x57 : F57.FT) (d : (Int × Int × List (Int) × Int) × Int) : bodyF (tabC Tryd.prog (tab x25 x57) ((26, .none) :: pls x25 x57) 100 14) 100 26 i o d = fP x25 x57 d := by kernel_rfl
noncomputable def f : FT := fP F25.f F57.f
def plan : Plan := .none
theorem planOk : PlanOk Tryd.prog (plan) (bodyOf Tryd.prog 26) := (planOk_of (plan) _ [] (by kernel_rfl) trivial)
theorem meets : MeetsF Tryd.prog 26 ⟨i, o, f⟩ :=
  funcT (fuel := 100) (depth := 14) (pl := (26, plan) :: pls F25.f F57.f) mixed tabS ⟨planOk, plsP⟩ (fun d =>  fe F25.f F57.f d)
theorem spec : SpecOk Tryd.prog (fun _ => none) 26 (specF ⟨i, o, f⟩) := specF_ok (by kernel_rfl) meets
end Go.Proofs.YtpfbpcaehmhefaaDoorA.F26

/- What comes of function 59 of this program, consulate.number.Wide, as the engine gives it. -/
namespace Go.Proofs.YtpfbpcaehmhefaaDoorA.F59
open Go Go.Proofs Go.Proofs.YtpfbpcaehmhefaaDoor Go.RowKit Go.Proofs.YtpfbpcaehmhefaaDoorA.Sx
set_option linter.unusedVariables false
set_option maxRecDepth 100000
def tab : List (FuncId × Sx.Spec) := []
def pls : List (FuncId × Plan) := []
@[reducible] def i : Sh := .sc (.int .u32) .nil
@[reducible] def o : Sh := .sc .bool .nil
abbrev FT := Int → Option (Bool × Unit)
theorem tabS : AllS Tryd.prog (tab) := trivial
theorem plsP : AllP Tryd.prog (pls) := trivial
theorem mixed : Tryd.prog.follows .mixedOrders = true := by kernel_rfl
def fP : FT := fun n =>
   some (decide (n > 65535), PUnit.unit)
theorem fe (d : Int) : bodyF (tabC Tryd.prog (tab) ((59, .none) :: pls) 100 14) 100 59 i o d = fP d := by kernel_rfl
noncomputable def f : FT := fP
def plan : Plan := .none
theorem planOk : PlanOk Tryd.prog (plan) (bodyOf Tryd.prog 59) := (planOk_of (plan) _ [] (by kernel_rfl) trivial)
theorem meets : MeetsF Tryd.prog 59 ⟨i, o, f⟩ :=
  funcT (fuel := 100) (depth := 14) (pl := (59, plan) :: pls) mixed tabS ⟨planOk, plsP⟩ (fun d =>  fe  d)
theorem spec : SpecOk Tryd.prog (fun _ => none) 59 (specF ⟨i, o, f⟩) := specF_ok (by kernel_rfl) meets
end Go.Proofs.YtpfbpcaehmhefaaDoorA.F59

/- What comes of function 30 of this program, consulate.number.Short, as the engine gives it. -/
namespace Go.Proofs.YtpfbpcaehmhefaaDoorA.F30
open Go Go.Proofs Go.Proofs.YtpfbpcaehmhefaaDoor Go.RowKit Go.Proofs.YtpfbpcaehmhefaaDoorA.Sx
set_option linter.unusedVariables false
set_option maxRecDepth 100000
def tab (x59 : F59.FT) : List (FuncId × Sx.Spec) := [(59, specF ⟨F59.i, F59.o, x59⟩)]
def pls (x59 : F59.FT) : List (FuncId × Plan) := []
@[reducible] def i : Sh := .sc (.int .u32) .nil
@[reducible] def o : Sh := .sc (.int .u16) .nil
abbrev FT := Int → Option (Int × Unit)
theorem tabS : AllS Tryd.prog (tab F59.f) := ⟨F59.spec, trivial⟩
theorem plsP : AllP Tryd.prog (pls F59.f) := trivial
theorem mixed : Tryd.prog.follows .mixedOrders = true := by kernel_rfl
def fP (x59 : F59.FT) : FT := fun n =>
   (x59 n).bind fun r0 => bif r0.fst then some (23456, PUnit.unit) else some (IntKind.u16.wrap n, PUnit.unit)
theorem fe (x59 : F59.FT) (d : Int) : bodyF (tabC Tryd.prog (tab x59) ((30, .none) :: pls x59) 100 14) 100 30 i o d = fP x59 d := by kernel_rfl
noncomputable def f : FT := fP F59.f
def plan : Plan := .none
theorem planOk : PlanOk Tryd.prog (plan) (bodyOf Tryd.prog 30) := (planOk_of (plan) _ [] (by kernel_rfl) trivial)
theorem meets : MeetsF Tryd.prog 30 ⟨i, o, f⟩ :=
  funcT (fuel := 100) (depth := 14) (pl := (30, plan) :: pls F59.f) mixed tabS ⟨planOk, plsP⟩ (fun d =>  fe F59.f d)
theorem spec : SpecOk Tryd.prog (fun _ => none) 30 (specF ⟨i, o, f⟩) := specF_ok (by kernel_rfl) meets
end Go.Proofs.YtpfbpcaehmhefaaDoorA.F30

/- What comes of function 71 of this program, slices.IndexFunc[[]consulate.caps.Cap,consulate.caps.Cap], as the engine gives it. -/
namespace Go.Proofs.YtpfbpcaehmhefaaDoorA.F71A
open Go Go.Proofs Go.Proofs.YtpfbpcaehmhefaaDoor Go.RowKit Go.Proofs.YtpfbpcaehmhefaaDoorA.Sx
set_option linter.unusedVariables false
set_option maxRecDepth 100000
def tab : List (FuncId × Sx.Spec) := []
def pls : List (FuncId × Plan) := []
@[reducible] def k1 : Sh := .sl false 29 (.sc (.int .u8) (.sl true 5 (.sc (.int .u8) .nil) .nil)) (.ag (some 72) (.pt false 5 (.sc (.int .u8) .nil) (.pt false 96 (.ag (some 64) .nil .nil) .nil)) (.sc (.int .i64) .nil))
@[reducible] def i1 : Sh := .sc (.int .i64) .nil
@[reducible] def o1 : Sh := .sc (.int .i64) (.sc (.int .i64) .nil)
abbrev G1 := ((List (Int × List (Int))) × (Int × Unit) × Int) → Int → Option ((Int × Int) × Unit)
def u1 (F : G1) : Un := ⟨19, [0, 1, 7], k1, [8], i1, [4], o1, [0, 1, 7], [(.exit 0, [false]), (.ret, [true])], F⟩
@[reducible] def i : Sh := .sl false 29 (.sc (.int .u8) (.sl true 5 (.sc (.int .u8) .nil) .nil)) (.ag (some 72) (.pt false 5 (.sc (.int .u8) .nil) (.pt false 96 (.ag (some 64) .nil .nil) .nil)) .nil)
@[reducible] def o : Sh := .sc (.int .i64) .nil
abbrev FT := ((List (Int × List (Int))) × (Int × Unit)) → Option (Int × Unit)
theorem tabS : AllS Tryd.prog (tab) := trivial
theorem plsP : AllP Tryd.prog (pls) := trivial
theorem mixed : Tryd.prog.follows .mixedOrders = true := by kernel_rfl
def r1P : ((List (Int × List (Int))) × (Int × Unit) × Int) → Int → Option (Int ⊕ ((Int × Int) × Unit)) := fun (s, (f0, ()), t7) t8 =>
    bif decide (t8 < t7) then
      bif decide ((0 : Int) ≤ t8 ∧ t8 < (↑s.length : Int) ∧ (0 : Nat) < s.length) then
       bif decide ((0 : Nat) + t8.toNat < s.length) then
       bif (s.getD ((0 : Nat) + t8.toNat) ((0 : Int), [])).fst == f0 then
       bif (↑(List.length (s.getD ((0 : Nat) + t8.toNat) ((0 : Int), [])).snd) : Int) == (0 : Int) then
       some (Sum.inr (((1 : Int), t8), PUnit.unit))
       else some (Sum.inl (IntKind.i64.wrap (t8 + (1 : Int))))
       else some (Sum.inl (IntKind.i64.wrap (t8 + (1 : Int))))
       else none
      else none
    else some (Sum.inr (((0 : Int), (0 : Int)), PUnit.unit))
theorem r1e (kd : (List (Int × List (Int))) × (Int × Unit) × Int) (d : Int) : roundF (tabC Tryd.prog (tab) (pls) 100 14) 100 .none (u1 fun _ _ => none) (codeAt [1, 0, 1, 0, 0] (bodyOf Tryd.prog 71)) kd d = r1P kd d := by kernel_rfl
noncomputable def r1 : ((List (Int × List (Int))) × (Int × Unit) × Int) → Int → Option (Int ⊕ ((Int × Int) × Unit)) := r1P
noncomputable def l1 : G1 := fun kd d => iterO (r1 kd) d
theorem ok1 : UnOk Tryd.prog (u1 l1) (codeAt [1, 0, 1, 0] (bodyOf Tryd.prog 71)) :=
  loopT (p := .none) (c := codeAt [1, 0, 1, 0, 0] (bodyOf Tryd.prog 71)) (fuel := 100) (depth := 14) mixed tabS plsP (by kernel_rfl) trivial (by kernel_rfl) (fun kd d => r1e  kd d) rfl
def fP (l1 : G1) : FT := fun (s, (f0, ())) =>
    bif decide ((0 : Nat) + s.length ≤ s.length) && true then
      (l1 (List.take s.length s, (f0, PUnit.unit), (↑s.length : Int)) (OfNat.ofNat (0 : Nat))).bind fun r0 =>
       bif decide (r0.fst.fst = (0 : Int)) then some ((-1 : Int), PUnit.unit)
       else bif decide (r0.fst.fst = (1 : Int)) then some (r0.fst.snd, PUnit.unit) else none
    else none
theorem fe (l1 : G1) (d : (List (Int × List (Int))) × (Int × Unit)) : bodyF (tabC Tryd.prog (tab) ((71, (.node .none (.node (.node .none (.node (.unit (u1 l1)) .none)) .none))) :: pls) 100 14) 100 71 i o d = fP l1 d := by kernel_rfl
noncomputable def f : FT := fP l1
def plan (l1 : G1) : Plan := (.node .none (.node (.node .none (.node (.unit (u1 l1)) .none)) .none))
theorem planOk : PlanOk Tryd.prog (plan l1) (bodyOf Tryd.prog 71) := (planOk_of (plan l1) _ [([1, 0, 1, 0], u1 l1)] rfl ⟨ok1, trivial⟩)
theorem meets : MeetsF Tryd.prog 71 ⟨i, o, f⟩ :=
  funcT (fuel := 100) (depth := 14) (pl := (71, plan l1) :: pls) mixed tabS ⟨planOk, plsP⟩ (fun d =>  fe l1 d)
theorem spec : SpecOk Tryd.prog (fun _ => none) 71 (specF ⟨i, o, f⟩) := specF_ok (by kernel_rfl) meets
end Go.Proofs.YtpfbpcaehmhefaaDoorA.F71A

/- What comes of function 49 of this program, consulate.caps.Refreshes, as the engine gives it. -/
namespace Go.Proofs.YtpfbpcaehmhefaaDoorA.F49
open Go Go.Proofs Go.Proofs.YtpfbpcaehmhefaaDoor Go.RowKit Go.Proofs.YtpfbpcaehmhefaaDoorA.Sx
set_option linter.unusedVariables false
set_option maxRecDepth 100000
def tab (x71 : F71A.FT) : List (FuncId × Sx.Spec) := [(71, specF ⟨F71A.i, F71A.o, x71⟩)]
def pls (x71 : F71A.FT) : List (FuncId × Plan) := []
@[reducible] def i : Sh := .sl false 29 (.sc (.int .u8) (.sl true 5 (.sc (.int .u8) .nil) .nil)) .nil
@[reducible] def o : Sh := .sc .bool .nil
abbrev FT := ((List (Int × List (Int)))) → Option (Bool × Unit)
theorem tabS : AllS Tryd.prog (tab F71A.f) := ⟨F71A.spec, trivial⟩
theorem plsP : AllP Tryd.prog (pls F71A.f) := trivial
theorem mixed : Tryd.prog.follows .mixedOrders = true := by kernel_rfl
def fP (x71 : F71A.FT) : FT := fun l =>
    bif decide ((0 : Nat) + l.length ≤ l.length) && true then
      (x71 (List.take l.length l, OfNat.ofNat (2 : Nat), PUnit.unit)).bind fun r0 =>
       bif decide (r0.fst < (0 : Int)) then some (false, PUnit.unit)
       else
       bif decide ((0 : Int) ≤ r0.fst ∧ r0.fst < (↑l.length : Int) ∧ (0 : Nat) < l.length) then
       bif decide ((0 : Nat) + Int.toNat r0.fst < l.length) then some (true, PUnit.unit) else none
       else none
    else none
theorem fe (x71 : F71A.FT) (d : (List (Int × List (Int)))) : bodyF (tabC Tryd.prog (tab x71) ((49, .none) :: pls x71) 100 14) 100 49 i o d = fP x71 d := by kernel_rfl
noncomputable def f : FT := fP F71A.f
def plan : Plan := .none
theorem planOk : PlanOk Tryd.prog (plan) (bodyOf Tryd.prog 49) := (planOk_of (plan) _ [] (by kernel_rfl) trivial)
theorem meets : MeetsF Tryd.prog 49 ⟨i, o, f⟩ :=
  funcT (fuel := 100) (depth := 14) (pl := (49, plan) :: pls F71A.f) mixed tabS ⟨planOk, plsP⟩ (fun d =>  fe F71A.f d)
theorem spec : SpecOk Tryd.prog (fun _ => none) 49 (specF ⟨i, o, f⟩) := specF_ok (by kernel_rfl) meets
end Go.Proofs.YtpfbpcaehmhefaaDoorA.F49

/- What comes of function 50 of this program, consulate.clock.Agreed, as the engine gives it. -/
namespace Go.Proofs.YtpfbpcaehmhefaaDoorA.F50
open Go Go.Proofs Go.Proofs.YtpfbpcaehmhefaaDoor Go.RowKit Go.Proofs.YtpfbpcaehmhefaaDoorA.Sx
set_option linter.unusedVariables false
set_option maxRecDepth 100000
def tab : List (FuncId × Sx.Spec) := []
def pls : List (FuncId × Plan) := []
@[reducible] def i : Sh := .sc (.int .i64) (.sc (.int .i64) .nil)
@[reducible] def o : Sh := .sc (.int .i64) (.sc (.int .i64) .nil)
abbrev FT := (Int × Int) → Option ((Int × Int) × Unit)
theorem tabS : AllS Tryd.prog (tab) := trivial
theorem plsP : AllP Tryd.prog (pls) := trivial
theorem mixed : Tryd.prog.follows .mixedOrders = true := by kernel_rfl
def fP : FT := fun (ours, theirs) =>
    bif
       (if (0 : Int) > if theirs < ours then theirs else ours then (0 : Int)
       else if theirs < ours then theirs else ours) ==
       (0 : Int) then
      some (((0 : Int), (0 : Int)), PUnit.unit)
    else
      some
       ((if (0 : Int) > if theirs < ours then theirs else ours then (0 : Int)
       else if theirs < ours then theirs else ours,
       if
       (1 : Int) >
       IntKind.i64.wrap
       ((if (0 : Int) > if theirs < ours then theirs else ours then (0 : Int)
       else if theirs < ours then theirs else ours).tdiv
       (3 : Int)) then
       (1 : Int)
       else
       IntKind.i64.wrap
       ((if (0 : Int) > if theirs < ours then theirs else ours then (0 : Int)
       else if theirs < ours then theirs else ours).tdiv
       (3 : Int))),
       PUnit.unit)
theorem fe (d : Int × Int) : bodyF (tabC Tryd.prog (tab) ((50, .none) :: pls) 100 14) 100 50 i o d = fP d := by kernel_rfl
noncomputable def f : FT := fP
def plan : Plan := .none
theorem planOk : PlanOk Tryd.prog (plan) (bodyOf Tryd.prog 50) := (planOk_of (plan) _ [] (by kernel_rfl) trivial)
theorem meets : MeetsF Tryd.prog 50 ⟨i, o, f⟩ :=
  funcT (fuel := 100) (depth := 14) (pl := (50, plan) :: pls) mixed tabS ⟨planOk, plsP⟩ (fun d =>  fe  d)
theorem spec : SpecOk Tryd.prog (fun _ => none) 50 (specF ⟨i, o, f⟩) := specF_ok (by kernel_rfl) meets
end Go.Proofs.YtpfbpcaehmhefaaDoorA.F50

/- What comes of function 71 of this program, slices.IndexFunc[[]consulate.caps.Cap,consulate.caps.Cap], as the engine gives it. -/
namespace Go.Proofs.YtpfbpcaehmhefaaDoorA.F71B
open Go Go.Proofs Go.Proofs.YtpfbpcaehmhefaaDoor Go.RowKit Go.Proofs.YtpfbpcaehmhefaaDoorA.Sx
set_option linter.unusedVariables false
set_option maxRecDepth 100000
def tab : List (FuncId × Sx.Spec) := []
def pls : List (FuncId × Plan) := []
@[reducible] def k1 : Sh := .sl false 29 (.sc (.int .u8) (.sl true 5 (.sc (.int .u8) .nil) .nil)) (.ag (some 72) (.pt false 5 (.sc (.int .u8) .nil) (.pt false 96 (.ag (some 65) .nil .nil) .nil)) (.sc (.int .i64) .nil))
@[reducible] def i1 : Sh := .sc (.int .i64) .nil
@[reducible] def o1 : Sh := .sc (.int .i64) (.sc (.int .i64) .nil)
abbrev G1 := ((List (Int × List (Int))) × (Int × Unit) × Int) → Int → Option ((Int × Int) × Unit)
def u1 (F : G1) : Un := ⟨19, [0, 1, 7], k1, [8], i1, [4], o1, [0, 1, 7], [(.exit 0, [false]), (.ret, [true])], F⟩
@[reducible] def i : Sh := .sl false 29 (.sc (.int .u8) (.sl true 5 (.sc (.int .u8) .nil) .nil)) (.ag (some 72) (.pt false 5 (.sc (.int .u8) .nil) (.pt false 96 (.ag (some 65) .nil .nil) .nil)) .nil)
@[reducible] def o : Sh := .sc (.int .i64) .nil
abbrev FT := ((List (Int × List (Int))) × (Int × Unit)) → Option (Int × Unit)
theorem tabS : AllS Tryd.prog (tab) := trivial
theorem plsP : AllP Tryd.prog (pls) := trivial
theorem mixed : Tryd.prog.follows .mixedOrders = true := by kernel_rfl
def r1P : ((List (Int × List (Int))) × (Int × Unit) × Int) → Int → Option (Int ⊕ ((Int × Int) × Unit)) := fun (s, (f0, ()), t7) t8 =>
    bif decide (t8 < t7) then
      bif decide ((0 : Int) ≤ t8 ∧ t8 < (↑s.length : Int) ∧ (0 : Nat) < s.length) then
       bif decide ((0 : Nat) + t8.toNat < s.length) then
       bif (s.getD ((0 : Nat) + t8.toNat) ((0 : Int), [])).fst == f0 then
       bif (↑(List.length (s.getD ((0 : Nat) + t8.toNat) ((0 : Int), [])).snd) : Int) == (4 : Int) then
       some (Sum.inr (((1 : Int), t8), PUnit.unit))
       else some (Sum.inl (IntKind.i64.wrap (t8 + (1 : Int))))
       else some (Sum.inl (IntKind.i64.wrap (t8 + (1 : Int))))
       else none
      else none
    else some (Sum.inr (((0 : Int), (0 : Int)), PUnit.unit))
theorem r1e (kd : (List (Int × List (Int))) × (Int × Unit) × Int) (d : Int) : roundF (tabC Tryd.prog (tab) (pls) 100 14) 100 .none (u1 fun _ _ => none) (codeAt [1, 0, 1, 0, 0] (bodyOf Tryd.prog 71)) kd d = r1P kd d := by kernel_rfl
noncomputable def r1 : ((List (Int × List (Int))) × (Int × Unit) × Int) → Int → Option (Int ⊕ ((Int × Int) × Unit)) := r1P
noncomputable def l1 : G1 := fun kd d => iterO (r1 kd) d
theorem ok1 : UnOk Tryd.prog (u1 l1) (codeAt [1, 0, 1, 0] (bodyOf Tryd.prog 71)) :=
  loopT (p := .none) (c := codeAt [1, 0, 1, 0, 0] (bodyOf Tryd.prog 71)) (fuel := 100) (depth := 14) mixed tabS plsP (by kernel_rfl) trivial (by kernel_rfl) (fun kd d => r1e  kd d) rfl
def fP (l1 : G1) : FT := fun (s, (f0, ())) =>
    bif decide ((0 : Nat) + s.length ≤ s.length) && true then
      (l1 (List.take s.length s, (f0, PUnit.unit), (↑s.length : Int)) (OfNat.ofNat (0 : Nat))).bind fun r0 =>
       bif decide (r0.fst.fst = (0 : Int)) then some ((-1 : Int), PUnit.unit)
       else bif decide (r0.fst.fst = (1 : Int)) then some (r0.fst.snd, PUnit.unit) else none
    else none
theorem fe (l1 : G1) (d : (List (Int × List (Int))) × (Int × Unit)) : bodyF (tabC Tryd.prog (tab) ((71, (.node .none (.node (.node .none (.node (.unit (u1 l1)) .none)) .none))) :: pls) 100 14) 100 71 i o d = fP l1 d := by kernel_rfl
noncomputable def f : FT := fP l1
def plan (l1 : G1) : Plan := (.node .none (.node (.node .none (.node (.unit (u1 l1)) .none)) .none))
theorem planOk : PlanOk Tryd.prog (plan l1) (bodyOf Tryd.prog 71) := (planOk_of (plan l1) _ [([1, 0, 1, 0], u1 l1)] rfl ⟨ok1, trivial⟩)
theorem meets : MeetsF Tryd.prog 71 ⟨i, o, f⟩ :=
  funcT (fuel := 100) (depth := 14) (pl := (71, plan l1) :: pls) mixed tabS ⟨planOk, plsP⟩ (fun d =>  fe l1 d)
theorem spec : SpecOk Tryd.prog (fun _ => none) 71 (specF ⟨i, o, f⟩) := specF_ok (by kernel_rfl) meets
end Go.Proofs.YtpfbpcaehmhefaaDoorA.F71B

/- What comes of function 66 of this program, consulate.scroll.New, as the engine gives it. -/
namespace Go.Proofs.YtpfbpcaehmhefaaDoorA.F66
open Go Go.Proofs Go.Proofs.YtpfbpcaehmhefaaDoor Go.RowKit Go.Proofs.YtpfbpcaehmhefaaDoorA.Sx
set_option linter.unusedVariables false
set_option maxRecDepth 100000
def tab (x68 : F68.FT) : List (FuncId × Sx.Spec) := [(68, specF ⟨F68.i, F68.o, x68⟩)]
def pls (x68 : F68.FT) : List (FuncId × Plan) := []
@[reducible] def i : Sh := .sl false 5 (.sc (.int .u8) .nil) .nil
@[reducible] def o : Sh := .pt true 113 (.sl true 5 (.sc (.int .u8) .nil) (.sc (.int .i64) (.sl true 3 (.sc (.int .i64) .nil) (.sc (.int .i64) .nil)))) .nil
abbrev FT := List (Int) → Option (((List (Int) × Int × List (Int) × Int)) × Unit)
theorem tabS : AllS Tryd.prog (tab F68.f) := ⟨F68.spec, trivial⟩
theorem plsP : AllP Tryd.prog (pls F68.f) := trivial
theorem mixed : Tryd.prog.follows .mixedOrders = true := by kernel_rfl
def fP (x68 : F68.FT) : FT := fun b =>
    bif decide ((0 : Nat) + b.length ≤ b.length) && true then
      (x68 (List.take b.length b)).bind fun r0 =>
       bif decide ((0 : Nat) + List.length r0.fst ≤ List.length r0.fst) && true then
       some
       ((List.take (List.length r0.fst) (List.drop (0 : Nat) r0.fst), (0 : Int), [(↑b.length : Int)], (0 : Int)),
       PUnit.unit)
       else none
    else none
theorem fe (x68 : F68.FT) (d : List (Int)) : bodyF (tabC Tryd.prog (tab x68) ((66, .none) :: pls x68) 100 14) 100 66 i o d = fP x68 d := by kernel_rfl
noncomputable def f : FT := fP F68.f
def plan : Plan := .none
theorem planOk : PlanOk Tryd.prog (plan) (bodyOf Tryd.prog 66) := (planOk_of (plan) _ [] (by kernel_rfl) trivial)
theorem meets : MeetsF Tryd.prog 66 ⟨i, o, f⟩ :=
  funcT (fuel := 100) (depth := 14) (pl := (66, plan) :: pls F68.f) mixed tabS ⟨planOk, plsP⟩ (fun d =>  fe F68.f d)
theorem spec : SpecOk Tryd.prog (fun _ => none) 66 (specF ⟨i, o, f⟩) := specF_ok (by kernel_rfl) meets
end Go.Proofs.YtpfbpcaehmhefaaDoorA.F66

/- What comes of function 96 of this program, (*consulate.scroll.Reader).Err, as the engine gives it. -/
namespace Go.Proofs.YtpfbpcaehmhefaaDoorA.F96
open Go Go.Proofs Go.Proofs.YtpfbpcaehmhefaaDoor Go.RowKit Go.Proofs.YtpfbpcaehmhefaaDoorA.Sx
set_option linter.unusedVariables false
set_option maxRecDepth 100000
def tab : List (FuncId × Sx.Spec) := []
def pls : List (FuncId × Plan) := []
@[reducible] def i : Sh := .pt true 113 (.sl true 5 (.sc (.int .u8) .nil) (.sc (.int .i64) (.sl true 3 (.sc (.int .i64) .nil) (.sc (.int .i64) .nil)))) .nil
@[reducible] def o : Sh := .sc (.int .i64) .nil
abbrev FT := ((List (Int) × Int × List (Int) × Int)) → Option (Int × ((List (Int) × Int × List (Int) × Int)))
theorem tabS : AllS Tryd.prog (tab) := trivial
theorem plsP : AllP Tryd.prog (pls) := trivial
theorem mixed : Tryd.prog.follows .mixedOrders = true := by kernel_rfl
def fP : FT := fun (r0_2, r1_2, r2_2, r3_2) =>
    bif (↑r2_2.length : Int) == (0 : Int) then
      bif decide ((0 : Nat) + r0_2.length ≤ r0_2.length) && true then
       bif decide ((0 : Nat) + r2_2.length ≤ r2_2.length) && true then
       some ((2 : Int), List.take r0_2.length r0_2, r1_2, List.take r2_2.length r2_2, r3_2)
       else none
      else none
    else
      bif decide ((0 : Nat) + r0_2.length ≤ r0_2.length) && true then
       bif decide ((0 : Nat) + r2_2.length ≤ r2_2.length) && true then
       some (r3_2, List.take r0_2.length r0_2, r1_2, List.take r2_2.length r2_2, r3_2)
       else none
      else none
theorem fe (d : (List (Int) × Int × List (Int) × Int)) : bodyF (tabC Tryd.prog (tab) ((96, .none) :: pls) 100 14) 100 96 i o d = fP d := by kernel_rfl
noncomputable def f : FT := fP
def plan : Plan := .none
theorem planOk : PlanOk Tryd.prog (plan) (bodyOf Tryd.prog 96) := (planOk_of (plan) _ [] (by kernel_rfl) trivial)
theorem meets : MeetsF Tryd.prog 96 ⟨i, o, f⟩ :=
  funcT (fuel := 100) (depth := 14) (pl := (96, plan) :: pls) mixed tabS ⟨planOk, plsP⟩ (fun d =>  fe  d)
theorem spec : SpecOk Tryd.prog (fun _ => none) 96 (specF ⟨i, o, f⟩) := specF_ok (by kernel_rfl) meets
end Go.Proofs.YtpfbpcaehmhefaaDoorA.F96

/- What comes of function 94 of this program, (*consulate.scroll.Reader).Left, as the engine gives it. -/
namespace Go.Proofs.YtpfbpcaehmhefaaDoorA.F94
open Go Go.Proofs Go.Proofs.YtpfbpcaehmhefaaDoor Go.RowKit Go.Proofs.YtpfbpcaehmhefaaDoorA.Sx
set_option linter.unusedVariables false
set_option maxRecDepth 100000
def tab (x96 : F96.FT) : List (FuncId × Sx.Spec) := [(96, specF ⟨F96.i, F96.o, x96⟩)]
def pls (x96 : F96.FT) : List (FuncId × Plan) := []
@[reducible] def i : Sh := .pt true 113 (.sl true 5 (.sc (.int .u8) .nil) (.sc (.int .i64) (.sl true 3 (.sc (.int .i64) .nil) (.sc (.int .i64) .nil)))) .nil
@[reducible] def o : Sh := .sc (.int .i64) .nil
abbrev FT := ((List (Int) × Int × List (Int) × Int)) → Option (Int × ((List (Int) × Int × List (Int) × Int)))
theorem tabS : AllS Tryd.prog (tab F96.f) := ⟨F96.spec, trivial⟩
theorem plsP : AllP Tryd.prog (pls F96.f) := trivial
theorem mixed : Tryd.prog.follows .mixedOrders = true := by kernel_rfl
def fP (x96 : F96.FT) : FT := fun (r0_2, r1_2, r2_2, r3_2) =>
    (x96 (r0_2, r1_2, r2_2, r3_2)).bind fun r0 =>
      bif r0.fst != (0 : Int) then some ((0 : Int), r0.snd)
      else
       bif
       decide
       ((0 : Int) ≤ IntKind.i64.wrap ((↑r0.snd.snd.snd.fst.length : Int) - (1 : Int)) ∧
       IntKind.i64.wrap ((↑r0.snd.snd.snd.fst.length : Int) - (1 : Int)) < (↑r0.snd.snd.snd.fst.length : Int) ∧
       (0 : Nat) < r0.snd.snd.snd.fst.length) then
       bif
       decide
       ((0 : Nat) + (IntKind.i64.wrap ((↑r0.snd.snd.snd.fst.length : Int) - (1 : Int))).toNat <
       r0.snd.snd.snd.fst.length) then
       bif decide ((0 : Nat) + r0.snd.fst.length ≤ r0.snd.fst.length) && true then
       bif decide ((0 : Nat) + r0.snd.snd.snd.fst.length ≤ r0.snd.snd.snd.fst.length) && true then
       some
       (IntKind.i64.wrap
       (r0.snd.snd.snd.fst.getD
       ((0 : Nat) + (IntKind.i64.wrap ((↑r0.snd.snd.snd.fst.length : Int) - (1 : Int))).toNat)
       (0 : Int) -
       r0.snd.snd.fst),
       List.take r0.snd.fst.length (List.drop (0 : Nat) r0.snd.fst), r0.snd.snd.fst,
       List.take r0.snd.snd.snd.fst.length (List.drop (0 : Nat) r0.snd.snd.snd.fst), r0.snd.snd.snd.snd)
       else none
       else none
       else none
       else none
theorem fe (x96 : F96.FT) (d : (List (Int) × Int × List (Int) × Int)) : bodyF (tabC Tryd.prog (tab x96) ((94, .none) :: pls x96) 100 14) 100 94 i o d = fP x96 d := by kernel_rfl
noncomputable def f : FT := fP F96.f
def plan : Plan := .none
theorem planOk : PlanOk Tryd.prog (plan) (bodyOf Tryd.prog 94) := (planOk_of (plan) _ [] (by kernel_rfl) trivial)
theorem meets : MeetsF Tryd.prog 94 ⟨i, o, f⟩ :=
  funcT (fuel := 100) (depth := 14) (pl := (94, plan) :: pls F96.f) mixed tabS ⟨planOk, plsP⟩ (fun d =>  fe F96.f d)
theorem spec : SpecOk Tryd.prog (fun _ => none) 94 (specF ⟨i, o, f⟩) := specF_ok (by kernel_rfl) meets
end Go.Proofs.YtpfbpcaehmhefaaDoorA.F94

/- What comes of function 95 of this program, (*consulate.scroll.Reader).Fail, as the engine gives it. -/
namespace Go.Proofs.YtpfbpcaehmhefaaDoorA.F95
open Go Go.Proofs Go.Proofs.YtpfbpcaehmhefaaDoor Go.RowKit Go.Proofs.YtpfbpcaehmhefaaDoorA.Sx
set_option linter.unusedVariables false
set_option maxRecDepth 100000
def tab (x96 : F96.FT) : List (FuncId × Sx.Spec) := [(96, specF ⟨F96.i, F96.o, x96⟩)]
def pls (x96 : F96.FT) : List (FuncId × Plan) := []
@[reducible] def i : Sh := .pt true 113 (.sl true 5 (.sc (.int .u8) .nil) (.sc (.int .i64) (.sl true 3 (.sc (.int .i64) .nil) (.sc (.int .i64) .nil)))) (.sc (.int .i64) .nil)
@[reducible] def o : Sh := .nil
abbrev FT := ((List (Int) × Int × List (Int) × Int) × Int) → Option (Unit × ((List (Int) × Int × List (Int) × Int)))
theorem tabS : AllS Tryd.prog (tab F96.f) := ⟨F96.spec, trivial⟩
theorem plsP : AllP Tryd.prog (pls F96.f) := trivial
theorem mixed : Tryd.prog.follows .mixedOrders = true := by kernel_rfl
def fP (x96 : F96.FT) : FT := fun ((r0_2, r1_2, r2_2, r3_2), e) =>
    (x96 (r0_2, r1_2, r2_2, r3_2)).bind fun r0 =>
      bif r0.fst == (0 : Int) then
       bif decide ((0 : Nat) + r0.snd.fst.length ≤ r0.snd.fst.length) && true then
       bif decide ((0 : Nat) + r0.snd.snd.snd.fst.length ≤ r0.snd.snd.snd.fst.length) && true then
       some
       (PUnit.unit, List.take r0.snd.fst.length (List.drop (0 : Nat) r0.snd.fst), r0.snd.snd.fst,
       List.take r0.snd.snd.snd.fst.length (List.drop (0 : Nat) r0.snd.snd.snd.fst), e)
       else none
       else none
      else some (PUnit.unit, r0.snd)
theorem fe (x96 : F96.FT) (d : (List (Int) × Int × List (Int) × Int) × Int) : bodyF (tabC Tryd.prog (tab x96) ((95, .none) :: pls x96) 100 14) 100 95 i o d = fP x96 d := by kernel_rfl
noncomputable def f : FT := fP F96.f
def plan : Plan := .none
theorem planOk : PlanOk Tryd.prog (plan) (bodyOf Tryd.prog 95) := (planOk_of (plan) _ [] (by kernel_rfl) trivial)
theorem meets : MeetsF Tryd.prog 95 ⟨i, o, f⟩ :=
  funcT (fuel := 100) (depth := 14) (pl := (95, plan) :: pls F96.f) mixed tabS ⟨planOk, plsP⟩ (fun d =>  fe F96.f d)
theorem spec : SpecOk Tryd.prog (fun _ => none) 95 (specF ⟨i, o, f⟩) := specF_ok (by kernel_rfl) meets
end Go.Proofs.YtpfbpcaehmhefaaDoorA.F95

/- What comes of function 92 of this program, (*consulate.scroll.Reader).has, as the engine gives it. -/
namespace Go.Proofs.YtpfbpcaehmhefaaDoorA.F92
open Go Go.Proofs Go.Proofs.YtpfbpcaehmhefaaDoor Go.RowKit Go.Proofs.YtpfbpcaehmhefaaDoorA.Sx
set_option linter.unusedVariables false
set_option maxRecDepth 100000
def tab (x94 : F94.FT) (x95 : F95.FT) (x96 : F96.FT) : List (FuncId × Sx.Spec) := [(94, specF ⟨F94.i, F94.o, x94⟩), (95, specF ⟨F95.i, F95.o, x95⟩), (96, specF ⟨F96.i, F96.o, x96⟩)]
def pls (x94 : F94.FT) (x95 : F95.FT) (x96 : F96.FT) : List (FuncId × Plan) := []
@[reducible] def i : Sh := .pt true 113 (.sl true 5 (.sc (.int .u8) .nil) (.sc (.int .i64) (.sl true 3 (.sc (.int .i64) .nil) (.sc (.int .i64) .nil)))) (.sc (.int .i64) .nil)
@[reducible] def o : Sh := .sc .bool .nil
abbrev FT := ((List (Int) × Int × List (Int) × Int) × Int) → Option (Bool × ((List (Int) × Int × List (Int) × Int)))
theorem tabS : AllS Tryd.prog (tab F94.f F95.f F96.f) := ⟨F94.spec, F95.spec, F96.spec, trivial⟩
theorem plsP : AllP Tryd.prog (pls F94.f F95.f F96.f) := trivial
theorem mixed : Tryd.prog.follows .mixedOrders = true := by kernel_rfl
def fP (x94 : F94.FT) (x95 : F95.FT) (x96 : F96.FT) : FT := fun ((r0_2, r1_2, r2_2, r3_2), n) =>
    bif decide (n < (0 : Int)) then
      (x95 ((r0_2, r1_2, r2_2, r3_2), (4 : Int))).bind fun r0 =>
       (x96 r0.snd).bind fun r1 => some (r1.fst == (0 : Int), r1.snd)
    else
      (x94 (r0_2, r1_2, r2_2, r3_2)).bind fun r0 =>
       bif decide (n > r0.fst) then
       (x95 (r0.snd, (4 : Int))).bind fun r1 => (x96 r1.snd).bind fun r2 => some (r2.fst == (0 : Int), r2.snd)
       else (x96 r0.snd).bind fun r1 => some (r1.fst == (0 : Int), r1.snd)
theorem fe (x94 : F94.FT) (x95 : F95.FT) (x96 : F96.FT) (d : (List (Int) × Int × List (Int) × Int) × Int) : bodyF (tabC Tryd.prog (tab x94 x95 x96) ((92, .none) :: pls x94 x95 x96) 100 14) 100 92 i o d = fP x94 x95 x96 d := by kernel_rfl
noncomputable def f : FT := fP F94.f F95.f F96.f
def plan : Plan := .none
theorem planOk : PlanOk Tryd.prog (plan) (bodyOf Tryd.prog 92) := (planOk_of (plan) _ [] (by kernel_rfl) trivial)
theorem meets : MeetsF Tryd.prog 92 ⟨i, o, f⟩ :=
  funcT (fuel := 100) (depth := 14) (pl := (92, plan) :: pls F94.f F95.f F96.f) mixed tabS ⟨planOk, plsP⟩ (fun d =>  fe F94.f F95.f F96.f d)
theorem spec : SpecOk Tryd.prog (fun _ => none) 92 (specF ⟨i, o, f⟩) := specF_ok (by kernel_rfl) meets
end Go.Proofs.YtpfbpcaehmhefaaDoorA.F92

/- What comes of function 85 of this program, (*consulate.scroll.Reader).Take, as the engine gives it. -/
namespace Go.Proofs.YtpfbpcaehmhefaaDoorA.F85
open Go Go.Proofs Go.Proofs.YtpfbpcaehmhefaaDoor Go.RowKit Go.Proofs.YtpfbpcaehmhefaaDoorA.Sx
set_option linter.unusedVariables false
set_option maxRecDepth 100000
def tab (x92 : F92.FT) (x68 : F68.FT) : List (FuncId × Sx.Spec) := [(92, specF ⟨F92.i, F92.o, x92⟩), (68, specF ⟨F68.i, F68.o, x68⟩)]
def pls (x92 : F92.FT) (x68 : F68.FT) : List (FuncId × Plan) := []
@[reducible] def i : Sh := .pt true 113 (.sl true 5 (.sc (.int .u8) .nil) (.sc (.int .i64) (.sl true 3 (.sc (.int .i64) .nil) (.sc (.int .i64) .nil)))) (.sc (.int .i64) .nil)
@[reducible] def o : Sh := .sl true 5 (.sc (.int .u8) .nil) .nil
abbrev FT := ((List (Int) × Int × List (Int) × Int) × Int) → Option (List (Int) × ((List (Int) × Int × List (Int) × Int)))
theorem tabS : AllS Tryd.prog (tab F92.f F68.f) := ⟨F92.spec, F68.spec, trivial⟩
theorem plsP : AllP Tryd.prog (pls F92.f F68.f) := trivial
theorem mixed : Tryd.prog.follows .mixedOrders = true := by kernel_rfl
def fP (x92 : F92.FT) (x68 : F68.FT) : FT := fun ((r0_2, r1_2, r2_2, r3_2), n) =>
    (x92 ((r0_2, r1_2, r2_2, r3_2), n)).bind fun r0 =>
      bif !r0.fst then some ([], r0.snd)
      else
       bif
       decide
       ((0 : Int) ≤ IntKind.i64.wrap (IntKind.i64.wrap (r0.snd.snd.fst + n) - n) ∧
       IntKind.i64.wrap (IntKind.i64.wrap (r0.snd.snd.fst + n) - n) ≤
       (some (IntKind.i64.wrap (r0.snd.snd.fst + n))).getD (↑r0.snd.fst.length : Int) ∧
       (some (IntKind.i64.wrap (r0.snd.snd.fst + n))).getD (↑r0.snd.fst.length : Int) ≤
       (↑r0.snd.fst.length : Int) ∧
       (0 : Nat) + r0.snd.fst.length ≤ r0.snd.fst.length) then
       bif decide (IntKind.i64.wrap (IntKind.i64.wrap (r0.snd.snd.fst + n) - n) = (↑r0.snd.fst.length : Int)) then
       bif
       decide
       ((0 : Nat) ≤ (0 : Nat) + r0.snd.fst.length ∧ (0 : Nat) + r0.snd.fst.length ≤ r0.snd.fst.length) then
       (x68 []).bind fun r1 =>
       bif decide ((0 : Nat) + List.length r1.fst ≤ List.length r1.fst) && true then
       bif decide ((0 : Nat) + r0.snd.fst.length ≤ r0.snd.fst.length) && true then
       bif decide ((0 : Nat) + r0.snd.snd.snd.fst.length ≤ r0.snd.snd.snd.fst.length) && true then
       some
       (List.take (List.length r1.fst) (List.drop (0 : Nat) r1.fst),
       List.take r0.snd.fst.length (List.drop (0 : Nat) r0.snd.fst),
       IntKind.i64.wrap (r0.snd.snd.fst + n),
       List.take r0.snd.snd.snd.fst.length (List.drop (0 : Nat) r0.snd.snd.snd.fst),
       r0.snd.snd.snd.snd)
       else none
       else none
       else none
       else none
       else
       bif
       decide
       ((0 : Nat) + (IntKind.i64.wrap (IntKind.i64.wrap (r0.snd.snd.fst + n) - n)).toNat +
       ((some (IntKind.i64.wrap (r0.snd.snd.fst + n))).getD (↑r0.snd.fst.length : Int) -
       IntKind.i64.wrap (IntKind.i64.wrap (r0.snd.snd.fst + n) - n)).toNat ≤
       r0.snd.fst.length) &&
       true then
       (x68
       (List.take
       ((some (IntKind.i64.wrap (r0.snd.snd.fst + n))).getD (↑r0.snd.fst.length : Int) -
       IntKind.i64.wrap (IntKind.i64.wrap (r0.snd.snd.fst + n) - n)).toNat
       (List.drop ((0 : Nat) + (IntKind.i64.wrap (IntKind.i64.wrap (r0.snd.snd.fst + n) - n)).toNat)
       r0.snd.fst))).bind
       fun r1 =>
       bif decide ((0 : Nat) + List.length r1.fst ≤ List.length r1.fst) && true then
       bif decide ((0 : Nat) + r0.snd.fst.length ≤ r0.snd.fst.length) && true then
       bif decide ((0 : Nat) + r0.snd.snd.snd.fst.length ≤ r0.snd.snd.snd.fst.length) && true then
       some
       (List.take (List.length r1.fst) (List.drop (0 : Nat) r1.fst),
       List.take r0.snd.fst.length (List.drop (0 : Nat) r0.snd.fst),
       IntKind.i64.wrap (r0.snd.snd.fst + n),
       List.take r0.snd.snd.snd.fst.length (List.drop (0 : Nat) r0.snd.snd.snd.fst),
       r0.snd.snd.snd.snd)
       else none
       else none
       else none
       else none
       else none
theorem fe (x92 : F92.FT) (x68 : F68.FT) (d : (List (Int) × Int × List (Int) × Int) × Int) : bodyF (tabC Tryd.prog (tab x92 x68) ((85, .none) :: pls x92 x68) 100 14) 100 85 i o d = fP x92 x68 d := by kernel_rfl
noncomputable def f : FT := fP F92.f F68.f
def plan : Plan := .none
theorem planOk : PlanOk Tryd.prog (plan) (bodyOf Tryd.prog 85) := (planOk_of (plan) _ [] (by kernel_rfl) trivial)
theorem meets : MeetsF Tryd.prog 85 ⟨i, o, f⟩ :=
  funcT (fuel := 100) (depth := 14) (pl := (85, plan) :: pls F92.f F68.f) mixed tabS ⟨planOk, plsP⟩ (fun d =>  fe F92.f F68.f d)
theorem spec : SpecOk Tryd.prog (fun _ => none) 85 (specF ⟨i, o, f⟩) := specF_ok (by kernel_rfl) meets
end Go.Proofs.YtpfbpcaehmhefaaDoorA.F85

/- What comes of function 73 of this program, consulate.scroll.number[uint32], as the engine gives it. -/
namespace Go.Proofs.YtpfbpcaehmhefaaDoorA.F73
open Go Go.Proofs Go.Proofs.YtpfbpcaehmhefaaDoor Go.RowKit Go.Proofs.YtpfbpcaehmhefaaDoorA.Sx
set_option linter.unusedVariables false
set_option maxRecDepth 100000
def tab (x85 : F85.FT) : List (FuncId × Sx.Spec) := [(85, specF ⟨F85.i, F85.o, x85⟩)]
def pls (x85 : F85.FT) : List (FuncId × Plan) := []
@[reducible] def k1 : Sh := .sl true 5 (.sc (.int .u8) .nil) (.sc (.int .i64) .nil)
@[reducible] def i1 : Sh := .sc (.int .u32) (.sc (.int .i64) .nil)
@[reducible] def o1 : Sh := .sc (.int .u32) .nil
abbrev G1 := (List (Int) × Int) → (Int × Int) → Option (Int × Unit)
def u1 (F : G1) : Un := ⟨24, [10, 11], k1, [5, 12], i1, [5], o1, [10, 11], [(.exit 0, [true])], F⟩
@[reducible] def i : Sh := .pt true 113 (.sl true 5 (.sc (.int .u8) .nil) (.sc (.int .i64) (.sl true 3 (.sc (.int .i64) .nil) (.sc (.int .i64) .nil)))) (.sc (.int .i64) .nil)
@[reducible] def o : Sh := .sc (.int .u32) .nil
abbrev FT := ((List (Int) × Int × List (Int) × Int) × Int) → Option (Int × ((List (Int) × Int × List (Int) × Int)))
theorem tabS : AllS Tryd.prog (tab F85.f) := ⟨F85.spec, trivial⟩
theorem plsP : AllP Tryd.prog (pls F85.f) := trivial
theorem mixed : Tryd.prog.follows .mixedOrders = true := by kernel_rfl
def r1P (x85 : F85.FT) : (List (Int) × Int) → (Int × Int) → Option ((Int × Int) ⊕ (Int × Unit)) := fun (t10, t11) (n, t12) =>
    bif decide (t12 < t11) then
      bif decide ((0 : Int) ≤ t12 ∧ t12 < (↑t10.length : Int) ∧ (0 : Nat) < t10.length) then
       bif decide ((0 : Nat) + t12.toNat < t10.length) then
       some
       (Sum.inl
       (IntKind.u32.wrap
       (↑((IntKind.u32.wrap (IntKind.u32.wrap (n * (128 : Int)) * (2 : Int)) % (4294967296 : Int)).toNat |||
       (IntKind.u32.wrap (t10.getD ((0 : Nat) + t12.toNat) (0 : Int)) % (4294967296 : Int)).toNat) :
       Int),
       IntKind.i64.wrap (t12 + (1 : Int))))
       else none
      else none
    else some (Sum.inr (n, PUnit.unit))
theorem r1e (x85 : F85.FT) (kd : List (Int) × Int) (d : Int × Int) : roundF (tabC Tryd.prog (tab x85) (pls x85) 100 14) 100 .none (u1 fun _ _ => none) (codeAt [1, 1, 0, 1, 0, 0] (bodyOf Tryd.prog 73)) kd d = r1P x85 kd d := by kernel_rfl
noncomputable def r1 : (List (Int) × Int) → (Int × Int) → Option ((Int × Int) ⊕ (Int × Unit)) := r1P F85.f
noncomputable def l1 : G1 := fun kd d => iterO (r1 kd) d
theorem ok1 : UnOk Tryd.prog (u1 l1) (codeAt [1, 1, 0, 1, 0] (bodyOf Tryd.prog 73)) :=
  loopT (p := .none) (c := codeAt [1, 1, 0, 1, 0, 0] (bodyOf Tryd.prog 73)) (fuel := 100) (depth := 14) mixed tabS plsP (by kernel_rfl) trivial (by kernel_rfl) (fun kd d => r1e F85.f kd d) rfl
def fP (x85 : F85.FT) (l1 : G1) : FT := fun ((r0_2, r1_2, r2_2, r3_2), wide) =>
    (x85 ((r0_2, r1_2, r2_2, r3_2), wide)).bind fun r0 =>
      bif decide ((0 : Nat) + List.length r0.fst ≤ List.length r0.fst) && true then
       (l1 (List.take (List.length r0.fst) (List.drop (0 : Nat) r0.fst), (↑(List.length r0.fst) : Int))
       ((0 : Int), (0 : Int))).bind
       fun r1 => some (r1.fst, r0.snd)
      else none
theorem fe (x85 : F85.FT) (l1 : G1) (d : (List (Int) × Int × List (Int) × Int) × Int) : bodyF (tabC Tryd.prog (tab x85) ((73, (.node .none (.node .none (.node (.node .none (.node (.unit (u1 l1)) .none)) .none)))) :: pls x85) 100 14) 100 73 i o d = fP x85 l1 d := by kernel_rfl
noncomputable def f : FT := fP F85.f l1
def plan (l1 : G1) : Plan := (.node .none (.node .none (.node (.node .none (.node (.unit (u1 l1)) .none)) .none)))
theorem planOk : PlanOk Tryd.prog (plan l1) (bodyOf Tryd.prog 73) := (planOk_of (plan l1) _ [([1, 1, 0, 1, 0], u1 l1)] rfl ⟨ok1, trivial⟩)
theorem meets : MeetsF Tryd.prog 73 ⟨i, o, f⟩ :=
  funcT (fuel := 100) (depth := 14) (pl := (73, plan l1) :: pls F85.f) mixed tabS ⟨planOk, plsP⟩ (fun d =>  fe F85.f l1 d)
theorem spec : SpecOk Tryd.prog (fun _ => none) 73 (specF ⟨i, o, f⟩) := specF_ok (by kernel_rfl) meets
end Go.Proofs.YtpfbpcaehmhefaaDoorA.F73

/- What comes of function 67 of this program, (*consulate.scroll.Reader).Four, as the engine gives it. -/
namespace Go.Proofs.YtpfbpcaehmhefaaDoorA.F67
open Go Go.Proofs Go.Proofs.YtpfbpcaehmhefaaDoor Go.RowKit Go.Proofs.YtpfbpcaehmhefaaDoorA.Sx
set_option linter.unusedVariables false
set_option maxRecDepth 100000
def tab (x73 : F73.FT) : List (FuncId × Sx.Spec) := [(73, specF ⟨F73.i, F73.o, x73⟩)]
def pls (x73 : F73.FT) : List (FuncId × Plan) := []
@[reducible] def i : Sh := .pt true 113 (.sl true 5 (.sc (.int .u8) .nil) (.sc (.int .i64) (.sl true 3 (.sc (.int .i64) .nil) (.sc (.int .i64) .nil)))) .nil
@[reducible] def o : Sh := .sc (.int .u32) .nil
abbrev FT := ((List (Int) × Int × List (Int) × Int)) → Option (Int × ((List (Int) × Int × List (Int) × Int)))
theorem tabS : AllS Tryd.prog (tab F73.f) := ⟨F73.spec, trivial⟩
theorem plsP : AllP Tryd.prog (pls F73.f) := trivial
theorem mixed : Tryd.prog.follows .mixedOrders = true := by kernel_rfl
def fP (x73 : F73.FT) : FT := fun (r0_2, r1_2, r2_2, r3_2) =>
   (x73 ((r0_2, r1_2, r2_2, r3_2), (4 : Int))).bind fun r0 => some (r0.fst, r0.snd)
theorem fe (x73 : F73.FT) (d : (List (Int) × Int × List (Int) × Int)) : bodyF (tabC Tryd.prog (tab x73) ((67, .none) :: pls x73) 100 14) 100 67 i o d = fP x73 d := by kernel_rfl
noncomputable def f : FT := fP F73.f
def plan : Plan := .none
theorem planOk : PlanOk Tryd.prog (plan) (bodyOf Tryd.prog 67) := (planOk_of (plan) _ [] (by kernel_rfl) trivial)
theorem meets : MeetsF Tryd.prog 67 ⟨i, o, f⟩ :=
  funcT (fuel := 100) (depth := 14) (pl := (67, plan) :: pls F73.f) mixed tabS ⟨planOk, plsP⟩ (fun d =>  fe F73.f d)
theorem spec : SpecOk Tryd.prog (fun _ => none) 67 (specF ⟨i, o, f⟩) := specF_ok (by kernel_rfl) meets
end Go.Proofs.YtpfbpcaehmhefaaDoorA.F67

/- What comes of function 51 of this program, consulate.caps.Number, as the engine gives it. -/
namespace Go.Proofs.YtpfbpcaehmhefaaDoorA.F51
open Go Go.Proofs Go.Proofs.YtpfbpcaehmhefaaDoor Go.RowKit Go.Proofs.YtpfbpcaehmhefaaDoorA.Sx
set_option linter.unusedVariables false
set_option maxRecDepth 100000
def tab (x71 : F71B.FT) (x66 : F66.FT) (x67 : F67.FT) : List (FuncId × Sx.Spec) := [(71, specF ⟨F71B.i, F71B.o, x71⟩), (66, specF ⟨F66.i, F66.o, x66⟩), (67, specF ⟨F67.i, F67.o, x67⟩)]
def pls (x71 : F71B.FT) (x66 : F66.FT) (x67 : F67.FT) : List (FuncId × Plan) := []
@[reducible] def i : Sh := .sl false 29 (.sc (.int .u8) (.sl true 5 (.sc (.int .u8) .nil) .nil)) .nil
@[reducible] def o : Sh := .sc (.int .u32) (.sc .bool .nil)
abbrev FT := ((List (Int × List (Int)))) → Option ((Int × Bool) × Unit)
theorem tabS : AllS Tryd.prog (tab F71B.f F66.f F67.f) := ⟨F71B.spec, F66.spec, F67.spec, trivial⟩
theorem plsP : AllP Tryd.prog (pls F71B.f F66.f F67.f) := trivial
theorem mixed : Tryd.prog.follows .mixedOrders = true := by kernel_rfl
def fP (x71 : F71B.FT) (x66 : F66.FT) (x67 : F67.FT) : FT := fun l =>
    bif decide ((0 : Nat) + l.length ≤ l.length) && true then
      (x71 (List.take l.length l, OfNat.ofNat (65 : Nat), PUnit.unit)).bind fun r0 =>
       bif decide (r0.fst < (0 : Int)) then some (((0 : Int), false), PUnit.unit)
       else
       bif decide ((0 : Int) ≤ r0.fst ∧ r0.fst < (↑l.length : Int) ∧ (0 : Nat) < l.length) then
       bif decide ((0 : Nat) + Int.toNat r0.fst < l.length) then
       bif
       decide
       ((0 : Nat) + List.length (l.getD ((0 : Nat) + Int.toNat r0.fst) ((0 : Int), [])).snd ≤
       List.length (l.getD ((0 : Nat) + Int.toNat r0.fst) ((0 : Int), [])).snd) &&
       true then
       (x66
       (List.take (List.length (l.getD ((0 : Nat) + Int.toNat r0.fst) ((0 : Int), [])).snd)
       (List.drop (0 : Nat) (l.getD ((0 : Nat) + Int.toNat r0.fst) ((0 : Int), [])).snd))).bind
       fun r1 => (x67 r1.fst).bind fun r2 => some ((r2.fst, true), PUnit.unit)
       else none
       else none
       else none
    else none
theorem fe (x71 : F71B.FT) (x66 : F66.FT) (x67 : F67.FT) (d : (List (Int × List (Int)))) : bodyF (tabC Tryd.prog (tab x71 x66 x67) ((51, .none) :: pls x71 x66 x67) 100 14) 100 51 i o d = fP x71 x66 x67 d := by kernel_rfl
noncomputable def f : FT := fP F71B.f F66.f F67.f
def plan : Plan := .none
theorem planOk : PlanOk Tryd.prog (plan) (bodyOf Tryd.prog 51) := (planOk_of (plan) _ [] (by kernel_rfl) trivial)
theorem meets : MeetsF Tryd.prog 51 ⟨i, o, f⟩ :=
  funcT (fuel := 100) (depth := 14) (pl := (51, plan) :: pls F71B.f F66.f F67.f) mixed tabS ⟨planOk, plsP⟩ (fun d =>  fe F71B.f F66.f F67.f d)
theorem spec : SpecOk Tryd.prog (fun _ => none) 51 (specF ⟨i, o, f⟩) := specF_ok (by kernel_rfl) meets
end Go.Proofs.YtpfbpcaehmhefaaDoorA.F51

/- What comes of function 8 of this program, consulate.peer.Agree, as the engine gives it. -/
namespace Go.Proofs.YtpfbpcaehmhefaaDoorA.F8
open Go Go.Proofs Go.Proofs.YtpfbpcaehmhefaaDoor Go.RowKit Go.Proofs.YtpfbpcaehmhefaaDoorA.Sx
set_option linter.unusedVariables false
set_option maxRecDepth 100000
def tab (x49 : F49.FT) (x50 : F50.FT) (x51 : F51.FT) : List (FuncId × Sx.Spec) := [(49, specF ⟨F49.i, F49.o, x49⟩), (50, specF ⟨F50.i, F50.o, x50⟩), (51, specF ⟨F51.i, F51.o, x51⟩)]
def pls (x49 : F49.FT) (x50 : F50.FT) (x51 : F51.FT) : List (FuncId × Plan) := []
@[reducible] def i : Sh := .sc (.int .i64) (.sc (.int .i64) (.sc (.int .u16) (.sl false 29 (.sc (.int .u8) (.sl true 5 (.sc (.int .u8) .nil) .nil)) .nil)))
@[reducible] def o : Sh := .ag none (.sc (.int .i64) (.sc (.int .i64) (.sc .bool (.sc .bool (.sc (.int .u32) .nil))))) .nil
abbrev FT := (Int × Int × Int × (List (Int × List (Int)))) → Option (((Int × Int × Bool × Bool × Int)) × Unit)
theorem tabS : AllS Tryd.prog (tab F49.f F50.f F51.f) := ⟨F49.spec, F50.spec, F51.spec, trivial⟩
theorem plsP : AllP Tryd.prog (pls F49.f F50.f F51.f) := trivial
theorem mixed : Tryd.prog.follows .mixedOrders = true := by kernel_rfl
def fP (x49 : F49.FT) (x50 : F50.FT) (x51 : F51.FT) : FT := fun (ours, theirs, field, l) =>
    bif decide ((0 : Nat) + l.length ≤ l.length) && true then
      (x49 (List.take l.length l)).bind fun r0 =>
       (x50 (ours, theirs)).bind fun r1 =>
       bif decide ((0 : Nat) + l.length ≤ l.length) && true then
       (x51 (List.take l.length l)).bind fun r2 =>
       bif r2.fst.snd then some ((r1.fst.fst, r1.fst.snd, true, r0.fst, r2.fst.fst), PUnit.unit)
       else some ((r1.fst.fst, r1.fst.snd, false, r0.fst, IntKind.u32.wrap field), PUnit.unit)
       else none
    else none
theorem fe (x49 : F49.FT) (x50 : F50.FT) (x51 : F51.FT) (d : Int × Int × Int × (List (Int × List (Int)))) : bodyF (tabC Tryd.prog (tab x49 x50 x51) ((8, .none) :: pls x49 x50 x51) 100 14) 100 8 i o d = fP x49 x50 x51 d := by kernel_rfl
noncomputable def f : FT := fP F49.f F50.f F51.f
def plan : Plan := .none
theorem planOk : PlanOk Tryd.prog (plan) (bodyOf Tryd.prog 8) := (planOk_of (plan) _ [] (by kernel_rfl) trivial)
theorem meets : MeetsF Tryd.prog 8 ⟨i, o, f⟩ :=
  funcT (fuel := 100) (depth := 14) (pl := (8, plan) :: pls F49.f F50.f F51.f) mixed tabS ⟨planOk, plsP⟩ (fun d =>  fe F49.f F50.f F51.f d)
theorem spec : SpecOk Tryd.prog (fun _ => none) 8 (specF ⟨i, o, f⟩) := specF_ok (by kernel_rfl) meets
end Go.Proofs.YtpfbpcaehmhefaaDoorA.F8

/- What stands on its own: function 10 says true. -/
namespace Go.Proofs.YtpfbpcaehmhefaaDoorA.KA
open Go Go.Proofs Go.Proofs.YtpfbpcaehmhefaaDoor Go.RowKit Go.Proofs.YtpfbpcaehmhefaaDoorA.Sx
theorem mixed : Tryd.prog.follows .mixedOrders = true := by kernel_rfl
theorem tells (W : World) (hW : GlobW W) : Calls Tryd.prog 10 #[] W (Law.Told W) :=
  closed_law (C := tower (base Tryd.prog) [] 100 12) (tower_ok (base_ok _) (noPlans _ rfl) mixed (fun _ _ h => by cases h) 12) rfl (by kernel_rfl) W hW
end Go.Proofs.YtpfbpcaehmhefaaDoorA.KA

/- What comes of function 5 of this program, consulate.consulatelaw15.PeerSides, as the engine gives it. -/
namespace Go.Proofs.YtpfbpcaehmhefaaDoorA.F5
open Go Go.Proofs Go.Proofs.YtpfbpcaehmhefaaDoor Go.RowKit Go.Proofs.YtpfbpcaehmhefaaDoorA.Sx
set_option linter.unusedVariables false
set_option maxRecDepth 100000
def tab (x29 : F29.FT) (x23 : F23.FT) (x25 : F25.FT) (x24 : F24.FT) (x26 : F26.FT) (x30 : F30.FT) (x8 : F8.FT) : List (FuncId × Sx.Spec) := [(29, specF ⟨F29.i, F29.o, x29⟩), (23, specF ⟨F23.i, F23.o, x23⟩), (25, specF ⟨F25.i, F25.o, x25⟩), (24, specF ⟨F24.i, F24.o, x24⟩), (26, specF ⟨F26.i, F26.o, x26⟩), (30, specF ⟨F30.i, F30.o, x30⟩), (8, specF ⟨F8.i, F8.o, x8⟩), (10, pureS saysS)]
def pls (x29 : F29.FT) (x23 : F23.FT) (x25 : F25.FT) (x24 : F24.FT) (x26 : F26.FT) (x30 : F30.FT) (x8 : F8.FT) : List (FuncId × Plan) := []
@[reducible] def i : Sh := .ag none (.sc (.int .u8) (.sc (.int .u8) .nil)) (.ag none (.sc (.int .u16) (.sc (.int .u16) .nil)) (.sc .bool .nil))
@[reducible] def o : Sh := .sc .bool .nil
abbrev FT := ((Int × Int) × (Int × Int) × Bool) → Option (Bool × Unit)
theorem tabS : AllS Tryd.prog (tab F29.f F23.f F25.f F24.f F26.f F30.f F8.f) := ⟨F29.spec, F23.spec, F25.spec, F24.spec, F26.spec, F30.spec, F8.spec, says_ok (by kernel_rfl) KA.tells, trivial⟩
theorem plsP : AllP Tryd.prog (pls F29.f F23.f F25.f F24.f F26.f F30.f F8.f) := trivial
theorem mixed : Tryd.prog.follows .mixedOrders = true := by kernel_rfl
def fP (x29 : F29.FT) (x23 : F23.FT) (x25 : F25.FT) (x24 : F24.FT) (x26 : F26.FT) (x30 : F30.FT) (x8 : F8.FT) : FT := fun ((l0, l1_2), (holds0, holds1), none_2) =>
    (x29 l0).bind fun r0 =>
      (x23 (r0.fst, (70000 : Int), [], (1 : Int))).bind fun r1 =>
       bif !r1.fst then some (false, PUnit.unit)
       else
       (x23
       (IntKind.u32.wrap ((100 : Int) + IntKind.u32.wrap l1_2),
       IntKind.u32.wrap ((100 : Int) + IntKind.u32.wrap l1_2), [], (2 : Int))).bind
       fun r2 =>
       bif !r2.fst then some (false, PUnit.unit)
       else
       (x25
       ((IntKind.u32.wrap ((100 : Int) + IntKind.u32.wrap l1_2),
       IntKind.u32.wrap ((100 : Int) + IntKind.u32.wrap l1_2), [], (2 : Int)),
       (3 : Int))).bind
       fun r3 =>
       (x24 ((r0.fst, (70000 : Int), [], (1 : Int)), r3.fst)).bind fun r4 =>
       (x25 ((r0.fst, (70000 : Int), [], (1 : Int)), (3 : Int))).bind fun r5 =>
       (x24
       ((IntKind.u32.wrap ((100 : Int) + IntKind.u32.wrap l1_2),
       IntKind.u32.wrap ((100 : Int) + IntKind.u32.wrap l1_2), [], (2 : Int)),
       r5.fst)).bind
       fun r6 =>
       bif r4.fst != (3 : Int) then some (false, PUnit.unit)
       else
       bif r6.fst != (3 : Int) then some (false, PUnit.unit)
       else
       (x26 ((r0.fst, (70000 : Int), [], (1 : Int)), r4.fst)).bind fun r7 =>
       (x26
       ((IntKind.u32.wrap ((100 : Int) + IntKind.u32.wrap l1_2),
       IntKind.u32.wrap ((100 : Int) + IntKind.u32.wrap l1_2), [], (2 : Int)),
       r6.fst)).bind
       fun r8 =>
       bif none_2 then
       (x25
       ((IntKind.u32.wrap ((100 : Int) + IntKind.u32.wrap l1_2),
       IntKind.u32.wrap ((100 : Int) + IntKind.u32.wrap l1_2), [], (2 : Int)),
       r6.fst)).bind
       fun r9 =>
       (x30 r9.fst).bind fun r10 =>
       bif decide ((0 : Nat) + List.length r8.fst ≤ List.length r8.fst) && true then
       (x8
       (IntKind.i64.wrap holds0, IntKind.i64.wrap holds1, r10.fst,
       List.take (List.length r8.fst) (List.drop (0 : Nat) r8.fst))).bind
       fun r11 =>
       (x25 ((r0.fst, (70000 : Int), [], (1 : Int)), r4.fst)).bind fun r12 =>
       (x30 r12.fst).bind fun r13 =>
       (x8 (IntKind.i64.wrap holds1, IntKind.i64.wrap holds0, r13.fst, [])).bind
       fun r14 =>
       bif r11.fst.fst != r14.fst.fst then some (false, PUnit.unit)
       else
       bif r11.fst.snd.fst != r14.fst.snd.fst then some (false, PUnit.unit)
       else
       bif !r11.fst.snd.snd.fst then some (false, PUnit.unit)
       else
       bif !r11.fst.snd.snd.snd.fst then some (false, PUnit.unit)
       else
       bif
       r11.fst.snd.snd.snd.snd !=
       IntKind.u32.wrap ((100 : Int) + IntKind.u32.wrap l1_2) then
       some (false, PUnit.unit)
       else
       bif none_2 then
       bif !r14.fst.snd.snd.fst then
       bif !r14.fst.snd.snd.snd.fst then
       bif r14.fst.snd.snd.snd.snd == (23456 : Int) then
       some (true, PUnit.unit)
       else some (false, PUnit.unit)
       else some (false, PUnit.unit)
       else some (false, PUnit.unit)
       else
       bif r14.fst.snd.snd.fst then
       bif r14.fst.snd.snd.snd.fst then
       bif r14.fst.snd.snd.snd.snd == (70000 : Int) then
       some (true, PUnit.unit)
       else some (false, PUnit.unit)
       else some (false, PUnit.unit)
       else some (false, PUnit.unit)
       else none
       else
       (x25
       ((IntKind.u32.wrap ((100 : Int) + IntKind.u32.wrap l1_2),
       IntKind.u32.wrap ((100 : Int) + IntKind.u32.wrap l1_2), [], (2 : Int)),
       r6.fst)).bind
       fun r9 =>
       (x30 r9.fst).bind fun r10 =>
       bif decide ((0 : Nat) + List.length r8.fst ≤ List.length r8.fst) && true then
       (x8
       (IntKind.i64.wrap holds0, IntKind.i64.wrap holds1, r10.fst,
       List.take (List.length r8.fst) (List.drop (0 : Nat) r8.fst))).bind
       fun r11 =>
       (x25 ((r0.fst, (70000 : Int), [], (1 : Int)), r4.fst)).bind fun r12 =>
       (x30 r12.fst).bind fun r13 =>
       bif decide ((0 : Nat) + List.length r7.fst ≤ List.length r7.fst) && true then
       (x8
       (IntKind.i64.wrap holds1, IntKind.i64.wrap holds0, r13.fst,
       List.take (List.length r7.fst) (List.drop (0 : Nat) r7.fst))).bind
       fun r14 =>
       bif r11.fst.fst != r14.fst.fst then some (false, PUnit.unit)
       else
       bif r11.fst.snd.fst != r14.fst.snd.fst then some (false, PUnit.unit)
       else
       bif !r11.fst.snd.snd.fst then some (false, PUnit.unit)
       else
       bif !r11.fst.snd.snd.snd.fst then some (false, PUnit.unit)
       else
       bif
       r11.fst.snd.snd.snd.snd !=
       IntKind.u32.wrap ((100 : Int) + IntKind.u32.wrap l1_2) then
       some (false, PUnit.unit)
       else
       bif none_2 then
       bif !r14.fst.snd.snd.fst then
       bif !r14.fst.snd.snd.snd.fst then
       bif r14.fst.snd.snd.snd.snd == (23456 : Int) then
       some (true, PUnit.unit)
       else some (false, PUnit.unit)
       else some (false, PUnit.unit)
       else some (false, PUnit.unit)
       else
       bif r14.fst.snd.snd.fst then
       bif r14.fst.snd.snd.snd.fst then
       bif r14.fst.snd.snd.snd.snd == (70000 : Int) then
       some (true, PUnit.unit)
       else some (false, PUnit.unit)
       else some (false, PUnit.unit)
       else some (false, PUnit.unit)
       else none
       else none
theorem fe (x29 : F29.FT) (x23 : F23.FT) (x25 : F25.FT) (x24 : F24.FT) (x26 : F26.FT) (x30 : F30.FT) (x8 : F8.FT) (d : (Int × Int) × (Int × Int) × Bool) : bodyF (tabC Tryd.prog (tab x29 x23 x25 x24 x26 x30 x8) ((5, .none) :: pls x29 x23 x25 x24 x26 x30 x8) 100 14) 100 5 i o d = fP x29 x23 x25 x24 x26 x30 x8 d := by kernel_rfl
noncomputable def f : FT := fP F29.f F23.f F25.f F24.f F26.f F30.f F8.f
def plan : Plan := .none
theorem planOk : PlanOk Tryd.prog (plan) (bodyOf Tryd.prog 5) := (planOk_of (plan) _ [] (by kernel_rfl) trivial)
theorem meets : MeetsF Tryd.prog 5 ⟨i, o, f⟩ :=
  funcT (fuel := 100) (depth := 14) (pl := (5, plan) :: pls F29.f F23.f F25.f F24.f F26.f F30.f F8.f) mixed tabS ⟨planOk, plsP⟩ (fun d =>  fe F29.f F23.f F25.f F24.f F26.f F30.f F8.f d)
theorem spec : SpecOk Tryd.prog (fun _ => none) 5 (specF ⟨i, o, f⟩) := specF_ok (by kernel_rfl) meets
end Go.Proofs.YtpfbpcaehmhefaaDoorA.F5
