/- What comes of function 29 of this program, consulate.consulatelaw15.member, as the engine gives it. -/
import Derived.Test.YtpfbpcaehmhefaaDoorChecked
import Derived.Test.YtpfbpcaehmhefaaDoorBZO
import Derived.Test.YtpfbpcaehmhefaaDoorBF32
import Derived.Test.YtpfbpcaehmhefaaDoorBF36
namespace Go.Proofs.YtpfbpcaehmhefaaDoorB.F29
open Go Go.Proofs Go.Proofs.YtpfbpcaehmhefaaDoor Go.RowKit Go.Proofs.YtpfbpcaehmhefaaDoorB.Sx
set_option linter.unusedVariables false
set_option maxRecDepth 100000
def tab : List (FuncId × Sx.Spec) := []
def pls : List (FuncId × Plan) := []
@[reducible] def i : Sh := .sc (.int .u8) .nil
@[reducible] def o : Sh := .sc (.int .u32) .nil
abbrev FT := Int → Option (Int × Unit)
theorem tabS : AllS Tryd.prog (tab) := trivial
theorem plsP : AllP Tryd.prog (pls) := trivial
theorem mixed : Tryd.prog.follows .mixedOrders = true := by kernel_rfl
def fP : FT := fun n =>
   some (IntKind.u32.wrap ((65001 : Int) + IntKind.u32.wrap (n.tmod (16 : Int))), PUnit.unit)
theorem fe (d : Int) : bodyF (tabC Tryd.prog (tab) ((29, .none) :: pls) 100 14) 100 29 i o d = fP d := by kernel_rfl
noncomputable def f : FT := fP
def plan : Plan := .none
theorem planOk : PlanOk Tryd.prog (plan) (bodyOf Tryd.prog 29) := (planOk_of (plan) _ [] (by kernel_rfl) trivial)
theorem meets : MeetsF Tryd.prog 29 ⟨i, o, f⟩ :=
  funcT (fuel := 100) (depth := 14) (pl := (29, plan) :: pls) mixed tabS ⟨planOk, plsP⟩ (fun d =>  fe  d)
theorem spec : SpecOk Tryd.prog (fun _ => none) 29 (specF ⟨i, o, f⟩) := specF_ok (by kernel_rfl) meets
end Go.Proofs.YtpfbpcaehmhefaaDoorB.F29

/- What comes of function 33 of this program, slices.Clone[[]consulate.api.AS,consulate.api.AS], as the engine gives it. -/
namespace Go.Proofs.YtpfbpcaehmhefaaDoorB.F33
open Go Go.Proofs Go.Proofs.YtpfbpcaehmhefaaDoor Go.RowKit Go.Proofs.YtpfbpcaehmhefaaDoorB.Sx
set_option linter.unusedVariables false
set_option maxRecDepth 100000
def tab : List (FuncId × Sx.Spec) := []
def pls : List (FuncId × Plan) := []
@[reducible] def i : Sh := .sl false 32 (.sc (.int .u32) .nil) .nil
@[reducible] def o : Sh := .sl true 32 (.sc (.int .u32) .nil) .nil
abbrev FT := List (Int) → Option (List (Int) × Unit)
theorem tabS : AllS Tryd.prog (tab) := trivial
theorem plsP : AllP Tryd.prog (pls) := trivial
theorem mixed : Tryd.prog.follows .mixedOrders = true := by kernel_rfl
def fP : FT := fun s =>
    bif decide ((0 : Nat) < s.length) then
      bif decide ((0 : Nat) + s.length ≤ s.length) then
       bif decide ((0 : Nat) + (List.take s.length s).length ≤ (1073741824 : Nat)) then
       bif
       decide ((0 : Nat) + ((0 : Nat) + (List.take s.length s).length) ≤ ([] ++ List.take s.length s).length) &&
       true then
       some
       (List.take ((0 : Nat) + (List.take s.length s).length) (List.drop (0 : Nat) ([] ++ List.take s.length s)),
       PUnit.unit)
       else none
       else none
      else none
    else none
theorem fe (d : List (Int)) : bodyF (tabC Tryd.prog (tab) ((33, .none) :: pls) 100 14) 100 33 i o d = fP d := by kernel_rfl
noncomputable def f : FT := fun d => if 0 < d.length then fP d else some ([], ())
def plan : Plan := .none
theorem planOk : PlanOk Tryd.prog (plan) (bodyOf Tryd.prog 33) := (planOk_of (plan) _ [] (by kernel_rfl) trivial)
theorem meets : MeetsF Tryd.prog 33 ⟨i, o, f⟩ :=
  sliceT (fuel := 100) (depth := 14) (pl := (33, plan) :: pls) (z := (show Den o from [])) mixed tabS ⟨planOk, plsP⟩ (fun (d : List (Int)) hd => (fe  d).trans (show fP d = f d from (if_pos (c := 0 < d.length) hd).symm)) (fun (d : List (Int)) h => (show f d = _ from if_neg (c := 0 < d.length) (by have h : d.length = 0 := h; omega))) (fun c => by kernel_rfl) (fun a c => by kernel_rfl)
theorem spec : SpecOk Tryd.prog (fun _ => none) 33 (specF ⟨i, o, f⟩) := specF_ok (by kernel_rfl) meets
end Go.Proofs.YtpfbpcaehmhefaaDoorB.F33

/- What comes of function 58 of this program, consulate.number.Kind, as the engine gives it. -/
namespace Go.Proofs.YtpfbpcaehmhefaaDoorB.F58
open Go Go.Proofs Go.Proofs.YtpfbpcaehmhefaaDoor Go.RowKit Go.Proofs.YtpfbpcaehmhefaaDoorB.Sx
set_option linter.unusedVariables false
set_option maxRecDepth 100000
def tab : List (FuncId × Sx.Spec) := []
def pls : List (FuncId × Plan) := []
@[reducible] def i : Sh := .sc (.int .u32) .nil
@[reducible] def o : Sh := .sc (.int .i64) .nil
abbrev FT := Int → Option (Int × Unit)
theorem tabS : AllS Tryd.prog (tab) := trivial
theorem plsP : AllP Tryd.prog (pls) := trivial
theorem mixed : Tryd.prog.follows .mixedOrders = true := by kernel_rfl
def fP : FT := fun n =>
    bif decide (n ≥ 0) then
      bif decide (n ≤ 0) then some (1, PUnit.unit)
      else
       bif decide (n ≥ 23456) then
       bif decide (n ≤ 23456) then some (2, PUnit.unit)
       else
       bif decide (n ≥ 64512) then
       bif decide (n ≤ 65534) then some (3, PUnit.unit)
       else
       bif decide (n ≥ 4200000000) then
       bif decide (n ≤ 4294967294) then some (3, PUnit.unit)
       else
       bif decide (n ≥ 64496) then
       bif decide (n ≤ 64511) then some (4, PUnit.unit)
       else
       bif decide (n ≥ 65535) then
       bif decide (n ≤ 65551) then some (4, PUnit.unit)
       else
       bif decide (n ≥ 4294967295) then
       bif decide (n ≤ 4294967295) then some (4, PUnit.unit) else some (5, PUnit.unit)
       else some (5, PUnit.unit)
       else
       bif decide (n ≥ 4294967295) then
       bif decide (n ≤ 4294967295) then some (4, PUnit.unit) else some (5, PUnit.unit)
       else some (5, PUnit.unit)
       else
       bif decide (n ≥ 65535) then
       bif decide (n ≤ 65551) then some (4, PUnit.unit)
       else
       bif decide (n ≥ 4294967295) then
       bif decide (n ≤ 4294967295) then some (4, PUnit.unit) else some (5, PUnit.unit)
       else some (5, PUnit.unit)
       else
       bif decide (n ≥ 4294967295) then
       bif decide (n ≤ 4294967295) then some (4, PUnit.unit) else some (5, PUnit.unit)
       else some (5, PUnit.unit)
       else
       bif decide (n ≥ 64496) then
       bif decide (n ≤ 64511) then some (4, PUnit.unit)
       else
       bif decide (n ≥ 65535) then
       bif decide (n ≤ 65551) then some (4, PUnit.unit)
       else
       bif decide (n ≥ 4294967295) then
       bif decide (n ≤ 4294967295) then some (4, PUnit.unit) else some (5, PUnit.unit)
       else some (5, PUnit.unit)
       else
       bif decide (n ≥ 4294967295) then
       bif decide (n ≤ 4294967295) then some (4, PUnit.unit) else some (5, PUnit.unit)
       else some (5, PUnit.unit)
       else
       bif decide (n ≥ 65535) then
       bif decide (n ≤ 65551) then some (4, PUnit.unit)
       else
       bif decide (n ≥ 4294967295) then
       bif decide (n ≤ 4294967295) then some (4, PUnit.unit) else some (5, PUnit.unit)
       else some (5, PUnit.unit)
       else
       bif decide (n ≥ 4294967295) then
       bif decide (n ≤ 4294967295) then some (4, PUnit.unit) else some (5, PUnit.unit)
       else some (5, PUnit.unit)
       else
       bif decide (n ≥ 4200000000) then
       bif decide (n ≤ 4294967294) then some (3, PUnit.unit)
       else
       bif decide (n ≥ 64496) then
       bif decide (n ≤ 64511) then some (4, PUnit.unit)
       else
       bif decide (n ≥ 65535) then
       bif decide (n ≤ 65551) then some (4, PUnit.unit)
       else
       bif decide (n ≥ 4294967295) then
       bif decide (n ≤ 4294967295) then some (4, PUnit.unit) else some (5, PUnit.unit)
       else some (5, PUnit.unit)
       else
       bif decide (n ≥ 4294967295) then
       bif decide (n ≤ 4294967295) then some (4, PUnit.unit) else some (5, PUnit.unit)
       else some (5, PUnit.unit)
       else
       bif decide (n ≥ 65535) then
       bif decide (n ≤ 65551) then some (4, PUnit.unit)
       else
       bif decide (n ≥ 4294967295) then
       bif decide (n ≤ 4294967295) then some (4, PUnit.unit) else some (5, PUnit.unit)
       else some (5, PUnit.unit)
       else
       bif decide (n ≥ 4294967295) then
       bif decide (n ≤ 4294967295) then some (4, PUnit.unit) else some (5, PUnit.unit)
       else some (5, PUnit.unit)
       else
       bif decide (n ≥ 64496) then
       bif decide (n ≤ 64511) then some (4, PUnit.unit)
       else
       bif decide (n ≥ 65535) then
       bif decide (n ≤ 65551) then some (4, PUnit.unit)
       else
       bif decide (n ≥ 4294967295) then
       bif decide (n ≤ 4294967295) then some (4, PUnit.unit) else some (5, PUnit.unit)
       else some (5, PUnit.unit)
       else
       bif decide (n ≥ 4294967295) then
       bif decide (n ≤ 4294967295) then some (4, PUnit.unit) else some (5, PUnit.unit)
       else some (5, PUnit.unit)
       else
       bif decide (n ≥ 65535) then
       bif decide (n ≤ 65551) then some (4, PUnit.unit)
       else
       bif decide (n ≥ 4294967295) then
       bif decide (n ≤ 4294967295) then some (4, PUnit.unit) else some (5, PUnit.unit)
       else some (5, PUnit.unit)
       else
       bif decide (n ≥ 4294967295) then
       bif decide (n ≤ 4294967295) then some (4, PUnit.unit) else some (5, PUnit.unit)
       else some (5, PUnit.unit)
       else
       bif decide (n ≥ 64512) then
       bif decide (n ≤ 65534) then some (3, PUnit.unit)
       else
       bif decide (n ≥ 4200000000) then
       bif decide (n ≤ 4294967294) then some (3, PUnit.unit)
       else
       bif decide (n ≥ 64496) then
       bif decide (n ≤ 64511) then some (4, PUnit.unit)
       else
       bif decide (n ≥ 65535) then
       bif decide (n ≤ 65551) then some (4, PUnit.unit)
       else
       bif decide (n ≥ 4294967295) then
       bif decide (n ≤ 4294967295) then some (4, PUnit.unit) else some (5, PUnit.unit)
       else some (5, PUnit.unit)
       else
       bif decide (n ≥ 4294967295) then
       bif decide (n ≤ 4294967295) then some (4, PUnit.unit) else some (5, PUnit.unit)
       else some (5, PUnit.unit)
       else
       bif decide (n ≥ 65535) then
       bif decide (n ≤ 65551) then some (4, PUnit.unit)
       else
       bif decide (n ≥ 4294967295) then
       bif decide (n ≤ 4294967295) then some (4, PUnit.unit) else some (5, PUnit.unit)
       else some (5, PUnit.unit)
       else
       bif decide (n ≥ 4294967295) then
       bif decide (n ≤ 4294967295) then some (4, PUnit.unit) else some (5, PUnit.unit)
       else some (5, PUnit.unit)
       else
       bif decide (n ≥ 64496) then
       bif decide (n ≤ 64511) then some (4, PUnit.unit)
       else
       bif decide (n ≥ 65535) then
       bif decide (n ≤ 65551) then some (4, PUnit.unit)
       else
       bif decide (n ≥ 4294967295) then
       bif decide (n ≤ 4294967295) then some (4, PUnit.unit) else some (5, PUnit.unit)
       else some (5, PUnit.unit)
       else
       bif decide (n ≥ 4294967295) then
       bif decide (n ≤ 4294967295) then some (4, PUnit.unit) else some (5, PUnit.unit)
       else some (5, PUnit.unit)
       else
       bif decide (n ≥ 65535) then
       bif decide (n ≤ 65551) then some (4, PUnit.unit)
       else
       bif decide (n ≥ 4294967295) then
       bif decide (n ≤ 4294967295) then some (4, PUnit.unit) else some (5, PUnit.unit)
       else some (5, PUnit.unit)
       else
       bif decide (n ≥ 4294967295) then
       bif decide (n ≤ 4294967295) then some (4, PUnit.unit) else some (5, PUnit.unit)
       else some (5, PUnit.unit)
       else
       bif decide (n ≥ 4200000000) then
       bif decide (n ≤ 4294967294) then some (3, PUnit.unit)
       else
       bif decide (n ≥ 64496) then
       bif decide (n ≤ 64511) then some (4, PUnit.unit)
       else
       bif decide (n ≥ 65535) then
       bif decide (n ≤ 65551) then some (4, PUnit.unit)
       else
       bif decide (n ≥ 4294967295) then
       bif decide (n ≤ 4294967295) then some (4, PUnit.unit) else some (5, PUnit.unit)
       else some (5, PUnit.unit)
       else
       bif decide (n ≥ 4294967295) then
       bif decide (n ≤ 4294967295) then some (4, PUnit.unit) else some (5, PUnit.unit)
       else some (5, PUnit.unit)
       else
       bif decide (n ≥ 65535) then
       bif decide (n ≤ 65551) then some (4, PUnit.unit)
       else
       bif decide (n ≥ 4294967295) then
       bif decide (n ≤ 4294967295) then some (4, PUnit.unit) else some (5, PUnit.unit)
       else some (5, PUnit.unit)
       else
       bif decide (n ≥ 4294967295) then
       bif decide (n ≤ 4294967295) then some (4, PUnit.unit) else some (5, PUnit.unit)
       else some (5, PUnit.unit)
       else
       bif decide (n ≥ 64496) then
       bif decide (n ≤ 64511) then some (4, PUnit.unit)
       else
       bif decide (n ≥ 65535) then
       bif decide (n ≤ 65551) then some (4, PUnit.unit)
       else
       bif decide (n ≥ 4294967295) then
       bif decide (n ≤ 4294967295) then some (4, PUnit.unit) else some (5, PUnit.unit)
       else some (5, PUnit.unit)
       else
       bif decide (n ≥ 4294967295) then
       bif decide (n ≤ 4294967295) then some (4, PUnit.unit) else some (5, PUnit.unit)
       else some (5, PUnit.unit)
       else
       bif decide (n ≥ 65535) then
       bif decide (n ≤ 65551) then some (4, PUnit.unit)
       else
       bif decide (n ≥ 4294967295) then
       bif decide (n ≤ 4294967295) then some (4, PUnit.unit) else some (5, PUnit.unit)
       else some (5, PUnit.unit)
       else
       bif decide (n ≥ 4294967295) then
       bif decide (n ≤ 4294967295) then some (4, PUnit.unit) else some (5, PUnit.unit)
       else some (5, PUnit.unit)
    else
      bif decide (n ≥ 23456) then
       bif decide (n ≤ 23456) then some (2, PUnit.unit)
       else
       bif decide (n ≥ 64512) then
       bif decide (n ≤ 65534) then some (3, PUnit.unit)
       else
       bif decide (n ≥ 4200000000) then
       bif decide (n ≤ 4294967294) then some (3, PUnit.unit)
       else
       bif decide (n ≥ 64496) then
       bif decide (n ≤ 64511) then some (4, PUnit.unit)
       else
       bif decide (n ≥ 65535) then
       bif decide (n ≤ 65551) then some (4, PUnit.unit)
       else
       bif decide (n ≥ 4294967295) then
       bif decide (n ≤ 4294967295) then some (4, PUnit.unit) else some (5, PUnit.unit)
       else some (5, PUnit.unit)
       else
       bif decide (n ≥ 4294967295) then
       bif decide (n ≤ 4294967295) then some (4, PUnit.unit) else some (5, PUnit.unit)
       else some (5, PUnit.unit)
       else
       bif decide (n ≥ 65535) then
       bif decide (n ≤ 65551) then some (4, PUnit.unit)
       else
       bif decide (n ≥ 4294967295) then
       bif decide (n ≤ 4294967295) then some (4, PUnit.unit) else some (5, PUnit.unit)
       else some (5, PUnit.unit)
       else
       bif decide (n ≥ 4294967295) then
       bif decide (n ≤ 4294967295) then some (4, PUnit.unit) else some (5, PUnit.unit)
       else some (5, PUnit.unit)
       else
       bif decide (n ≥ 64496) then
       bif decide (n ≤ 64511) then some (4, PUnit.unit)
       else
       bif decide (n ≥ 65535) then
       bif decide (n ≤ 65551) then some (4, PUnit.unit)
       else
       bif decide (n ≥ 4294967295) then
       bif decide (n ≤ 4294967295) then some (4, PUnit.unit) else some (5, PUnit.unit)
       else some (5, PUnit.unit)
       else
       bif decide (n ≥ 4294967295) then
       bif decide (n ≤ 4294967295) then some (4, PUnit.unit) else some (5, PUnit.unit)
       else some (5, PUnit.unit)
       else
       bif decide (n ≥ 65535) then
       bif decide (n ≤ 65551) then some (4, PUnit.unit)
       else
       bif decide (n ≥ 4294967295) then
       bif decide (n ≤ 4294967295) then some (4, PUnit.unit) else some (5, PUnit.unit)
       else some (5, PUnit.unit)
       else
       bif decide (n ≥ 4294967295) then
       bif decide (n ≤ 4294967295) then some (4, PUnit.unit) else some (5, PUnit.unit)
       else some (5, PUnit.unit)
       else
       bif decide (n ≥ 4200000000) then
       bif decide (n ≤ 4294967294) then some (3, PUnit.unit)
       else
       bif decide (n ≥ 64496) then
       bif decide (n ≤ 64511) then some (4, PUnit.unit)
       else
       bif decide (n ≥ 65535) then
       bif decide (n ≤ 65551) then some (4, PUnit.unit)
       else
       bif decide (n ≥ 4294967295) then
       bif decide (n ≤ 4294967295) then some (4, PUnit.unit) else some (5, PUnit.unit)
       else some (5, PUnit.unit)
       else
       bif decide (n ≥ 4294967295) then
       bif decide (n ≤ 4294967295) then some (4, PUnit.unit) else some (5, PUnit.unit)
       else some (5, PUnit.unit)
       else
       bif decide (n ≥ 65535) then
       bif decide (n ≤ 65551) then some (4, PUnit.unit)
       else
       bif decide (n ≥ 4294967295) then
       bif decide (n ≤ 4294967295) then some (4, PUnit.unit) else some (5, PUnit.unit)
       else some (5, PUnit.unit)
       else
       bif decide (n ≥ 4294967295) then
       bif decide (n ≤ 4294967295) then some (4, PUnit.unit) else some (5, PUnit.unit)
       else some (5, PUnit.unit)
       else
       bif decide (n ≥ 64496) then
       bif decide (n ≤ 64511) then some (4, PUnit.unit)
       else
       bif decide (n ≥ 65535) then
       bif decide (n ≤ 65551) then some (4, PUnit.unit)
       else
       bif decide (n ≥ 4294967295) then
       bif decide (n ≤ 4294967295) then some (4, PUnit.unit) else some (5, PUnit.unit)
       else some (5, PUnit.unit)
       else
       bif decide (n ≥ 4294967295) then
       bif decide (n ≤ 4294967295) then some (4, PUnit.unit) else some (5, PUnit.unit)
       else some (5, PUnit.unit)
       else
       bif decide (n ≥ 65535) then
       bif decide (n ≤ 65551) then some (4, PUnit.unit)
       else
       bif decide (n ≥ 4294967295) then
       bif decide (n ≤ 4294967295) then some (4, PUnit.unit) else some (5, PUnit.unit)
       else some (5, PUnit.unit)
       else
       bif decide (n ≥ 4294967295) then
       bif decide (n ≤ 4294967295) then some (4, PUnit.unit) else some (5, PUnit.unit)
       else some (5, PUnit.unit)
      else
       bif decide (n ≥ 64512) then
       bif decide (n ≤ 65534) then some (3, PUnit.unit)
       else
       bif decide (n ≥ 4200000000) then
       bif decide (n ≤ 4294967294) then some (3, PUnit.unit)
       else
       bif decide (n ≥ 64496) then
       bif decide (n ≤ 64511) then some (4, PUnit.unit)
       else
       bif decide (n ≥ 65535) then
       bif decide (n ≤ 65551) then some (4, PUnit.unit)
       else
       bif decide (n ≥ 4294967295) then
       bif decide (n ≤ 4294967295) then some (4, PUnit.unit) else some (5, PUnit.unit)
       else some (5, PUnit.unit)
       else
       bif decide (n ≥ 4294967295) then
       bif decide (n ≤ 4294967295) then some (4, PUnit.unit) else some (5, PUnit.unit)
       else some (5, PUnit.unit)
       else
       bif decide (n ≥ 65535) then
       bif decide (n ≤ 65551) then some (4, PUnit.unit)
       else
       bif decide (n ≥ 4294967295) then
       bif decide (n ≤ 4294967295) then some (4, PUnit.unit) else some (5, PUnit.unit)
       else some (5, PUnit.unit)
       else
       bif decide (n ≥ 4294967295) then
       bif decide (n ≤ 4294967295) then some (4, PUnit.unit) else some (5, PUnit.unit)
       else some (5, PUnit.unit)
       else
       bif decide (n ≥ 64496) then
       bif decide (n ≤ 64511) then some (4, PUnit.unit)
       else
       bif decide (n ≥ 65535) then
       bif decide (n ≤ 65551) then some (4, PUnit.unit)
       else
       bif decide (n ≥ 4294967295) then
       bif decide (n ≤ 4294967295) then some (4, PUnit.unit) else some (5, PUnit.unit)
       else some (5, PUnit.unit)
       else
       bif decide (n ≥ 4294967295) then
       bif decide (n ≤ 4294967295) then some (4, PUnit.unit) else some (5, PUnit.unit)
       else some (5, PUnit.unit)
       else
       bif decide (n ≥ 65535) then
       bif decide (n ≤ 65551) then some (4, PUnit.unit)
       else
       bif decide (n ≥ 4294967295) then
       bif decide (n ≤ 4294967295) then some (4, PUnit.unit) else some (5, PUnit.unit)
       else some (5, PUnit.unit)
       else
       bif decide (n ≥ 4294967295) then
       bif decide (n ≤ 4294967295) then some (4, PUnit.unit) else some (5, PUnit.unit)
       else some (5, PUnit.unit)
       else
       bif decide (n ≥ 4200000000) then
       bif decide (n ≤ 4294967294) then some (3, PUnit.unit)
       else
       bif decide (n ≥ 64496) then
       bif decide (n ≤ 64511) then some (4, PUnit.unit)
       else
       bif decide (n ≥ 65535) then
       bif decide (n ≤ 65551) then some (4, PUnit.unit)
       else
       bif decide (n ≥ 4294967295) then
       bif decide (n ≤ 4294967295) then some (4, PUnit.unit) else some (5, PUnit.unit)
       else some (5, PUnit.unit)
       else
       bif decide (n ≥ 4294967295) then
       bif decide (n ≤ 4294967295) then some (4, PUnit.unit) else some (5, PUnit.unit)
       else some (5, PUnit.unit)
       else
       bif decide (n ≥ 65535) then
       bif decide (n ≤ 65551) then some (4, PUnit.unit)
       else
       bif decide (n ≥ 4294967295) then
       bif decide (n ≤ 4294967295) then some (4, PUnit.unit) else some (5, PUnit.unit)
       else some (5, PUnit.unit)
       else
       bif decide (n ≥ 4294967295) then
       bif decide (n ≤ 4294967295) then some (4, PUnit.unit) else some (5, PUnit.unit)
       else some (5, PUnit.unit)
       else
       bif decide (n ≥ 64496) then
       bif decide (n ≤ 64511) then some (4, PUnit.unit)
       else
       bif decide (n ≥ 65535) then
       bif decide (n ≤ 65551) then some (4, PUnit.unit)
       else
       bif decide (n ≥ 4294967295) then
       bif decide (n ≤ 4294967295) then some (4, PUnit.unit) else some (5, PUnit.unit)
       else some (5, PUnit.unit)
       else
       bif decide (n ≥ 4294967295) then
       bif decide (n ≤ 4294967295) then some (4, PUnit.unit) else some (5, PUnit.unit)
       else some (5, PUnit.unit)
       else
       bif decide (n ≥ 65535) then
       bif decide (n ≤ 65551) then some (4, PUnit.unit)
       else
       bif decide (n ≥ 4294967295) then
       bif decide (n ≤ 4294967295) then some (4, PUnit.unit) else some (5, PUnit.unit)
       else some (5, PUnit.unit)
       else
       bif decide (n ≥ 4294967295) then
       bif decide (n ≤ 4294967295) then some (4, PUnit.unit) else some (5, PUnit.unit)
       else some (5, PUnit.unit)
theorem fe (d : Int) : bodyF (tabC Tryd.prog (tab) ((58, .none) :: pls) 100 14) 100 58 i o d = fP d := by kernel_rfl
noncomputable def f : FT := fP
def plan : Plan := .none
theorem planOk : PlanOk Tryd.prog (plan) (bodyOf Tryd.prog 58) := (planOk_of (plan) _ [] (by kernel_rfl) trivial)
theorem meets : MeetsF Tryd.prog 58 ⟨i, o, f⟩ :=
  funcT (fuel := 100) (depth := 14) (pl := (58, plan) :: pls) mixed tabS ⟨planOk, plsP⟩ (fun d =>  fe  d)
theorem spec : SpecOk Tryd.prog (fun _ => none) 58 (specF ⟨i, o, f⟩) := specF_ok (by kernel_rfl) meets
end Go.Proofs.YtpfbpcaehmhefaaDoorB.F58

/- What comes of function 28 of this program, consulate.peer.Told, as the engine gives it. -/
namespace Go.Proofs.YtpfbpcaehmhefaaDoorB.F28
open Go Go.Proofs Go.Proofs.YtpfbpcaehmhefaaDoor Go.RowKit Go.Proofs.YtpfbpcaehmhefaaDoorB.Sx
set_option linter.unusedVariables false
set_option maxRecDepth 100000
def tab (x58 : F58.FT) : List (FuncId × Sx.Spec) := [(58, specF ⟨F58.i, F58.o, x58⟩)]
def pls (x58 : F58.FT) : List (FuncId × Plan) := []
@[reducible] def i : Sh := .sc (.int .u32) .nil
@[reducible] def o : Sh := .sc .bool .nil
abbrev FT := Int → Option (Bool × Unit)
theorem tabS : AllS Tryd.prog (tab F58.f) := ⟨F58.spec, trivial⟩
theorem plsP : AllP Tryd.prog (pls F58.f) := trivial
theorem mixed : Tryd.prog.follows .mixedOrders = true := by kernel_rfl
def fP (x58 : F58.FT) : FT := fun n =>
    (x58 n).bind fun r0 =>
      bif r0.fst != 1 then
       bif r0.fst != 2 then bif n != 65535 then some (n != 4294967295, PUnit.unit) else some (false, PUnit.unit)
       else some (false, PUnit.unit)
      else some (false, PUnit.unit)
theorem fe (x58 : F58.FT) (d : Int) : bodyF (tabC Tryd.prog (tab x58) ((28, .none) :: pls x58) 100 14) 100 28 i o d = fP x58 d := by kernel_rfl
noncomputable def f : FT := fP F58.f
def plan : Plan := .none
theorem planOk : PlanOk Tryd.prog (plan) (bodyOf Tryd.prog 28) := (planOk_of (plan) _ [] (by kernel_rfl) trivial)
theorem meets : MeetsF Tryd.prog 28 ⟨i, o, f⟩ :=
  funcT (fuel := 100) (depth := 14) (pl := (28, plan) :: pls F58.f) mixed tabS ⟨planOk, plsP⟩ (fun d =>  fe F58.f d)
theorem spec : SpecOk Tryd.prog (fun _ => none) 28 (specF ⟨i, o, f⟩) := specF_ok (by kernel_rfl) meets
end Go.Proofs.YtpfbpcaehmhefaaDoorB.F28

/- What comes of function 60 of this program, slices.IndexFunc[[]consulate.api.AS,consulate.api.AS], as the engine gives it. -/
namespace Go.Proofs.YtpfbpcaehmhefaaDoorB.F60
open Go Go.Proofs Go.Proofs.YtpfbpcaehmhefaaDoor Go.RowKit Go.Proofs.YtpfbpcaehmhefaaDoorB.Sx
set_option linter.unusedVariables false
set_option maxRecDepth 100000
def tab (x28 : F28.FT) : List (FuncId × Sx.Spec) := [(28, specF ⟨F28.i, F28.o, x28⟩)]
def pls (x28 : F28.FT) : List (FuncId × Plan) := []
@[reducible] def k1 : Sh := .sl false 32 (.sc (.int .u32) .nil) (.ag (some 55) (.pt false 44 (.sc (.int .u32) (.sc (.int .u32) (.sl false 32 (.sc (.int .u32) .nil) (.sc (.int .u32) .nil)))) .nil) (.sc (.int .i64) .nil))
@[reducible] def i1 : Sh := .sc (.int .i64) .nil
@[reducible] def o1 : Sh := .sc (.int .i64) (.sc (.int .i64) .nil)
abbrev G1 := (List (Int) × ((Int × Int × List (Int) × Int)) × Int) → Int → Option ((Int × Int) × Unit)
def u1 (F : G1) : Un := ⟨19, [0, 1, 7], k1, [8], i1, [4], o1, [0, 1, 7], [(.exit 0, [false]), (.ret, [true])], F⟩
@[reducible] def i : Sh := .sl false 32 (.sc (.int .u32) .nil) (.ag (some 55) (.pt false 44 (.sc (.int .u32) (.sc (.int .u32) (.sl false 32 (.sc (.int .u32) .nil) (.sc (.int .u32) .nil)))) .nil) .nil)
@[reducible] def o : Sh := .sc (.int .i64) .nil
abbrev FT := (List (Int) × ((Int × Int × List (Int) × Int))) → Option (Int × Unit)
theorem tabS : AllS Tryd.prog (tab F28.f) := ⟨F28.spec, trivial⟩
theorem plsP : AllP Tryd.prog (pls F28.f) := trivial
theorem mixed : Tryd.prog.follows .mixedOrders = true := by kernel_rfl
def r1P (x28 : F28.FT) : (List (Int) × ((Int × Int × List (Int) × Int)) × Int) → Int → Option (Int ⊕ ((Int × Int) × Unit)) := fun (s, (f0, f1, f2, f3), t7) t8 =>
    bif decide (t8 < t7) then
      bif decide ((0 : Int) ≤ t8 ∧ t8 < (↑s.length : Int) ∧ (0 : Nat) < s.length) then
       bif decide ((0 : Nat) + t8.toNat < s.length) then
       (x28 (s.getD ((0 : Nat) + t8.toNat) (0 : Int))).bind fun r0 =>
       bif !r0.fst then some (Sum.inr (((1 : Int), t8), PUnit.unit))
       else
       bif s.getD ((0 : Nat) + t8.toNat) (0 : Int) == f0 then some (Sum.inr (((1 : Int), t8), PUnit.unit))
       else
       bif s.getD ((0 : Nat) + t8.toNat) (0 : Int) == f1 then some (Sum.inr (((1 : Int), t8), PUnit.unit))
       else some (Sum.inl (IntKind.i64.wrap (t8 + (1 : Int))))
       else none
      else none
    else some (Sum.inr (((0 : Int), (0 : Int)), PUnit.unit))
theorem r1e (x28 : F28.FT) (kd : List (Int) × ((Int × Int × List (Int) × Int)) × Int) (d : Int) : roundF (tabC Tryd.prog (tab x28) (pls x28) 100 14) 100 .none (u1 fun _ _ => none) (codeAt [1, 0, 1, 0, 0] (bodyOf Tryd.prog 60)) kd d = r1P x28 kd d := by kernel_rfl
noncomputable def r1 : (List (Int) × ((Int × Int × List (Int) × Int)) × Int) → Int → Option (Int ⊕ ((Int × Int) × Unit)) := r1P F28.f
noncomputable def l1 : G1 := fun kd d => iterO (r1 kd) d
theorem ok1 : UnOk Tryd.prog (u1 l1) (codeAt [1, 0, 1, 0] (bodyOf Tryd.prog 60)) :=
  loopT (p := .none) (c := codeAt [1, 0, 1, 0, 0] (bodyOf Tryd.prog 60)) (fuel := 100) (depth := 14) mixed tabS plsP (by kernel_rfl) trivial (by kernel_rfl) (fun kd d => r1e F28.f kd d) rfl
def fP (x28 : F28.FT) (l1 : G1) : FT := fun (s, (f0, f1, f2, f3)) =>
    bif decide ((0 : Nat) + s.length ≤ s.length) && true then
      (l1 (List.take s.length s, (f0, f1, f2, f3), (↑s.length : Int)) (OfNat.ofNat (0 : Nat))).bind fun r0 =>
       bif decide (r0.fst.fst = (0 : Int)) then some ((-1 : Int), PUnit.unit)
       else bif decide (r0.fst.fst = (1 : Int)) then some (r0.fst.snd, PUnit.unit) else none
    else none
theorem fe (x28 : F28.FT) (l1 : G1) (d : List (Int) × ((Int × Int × List (Int) × Int))) : bodyF (tabC Tryd.prog (tab x28) ((60, (.node .none (.node (.node .none (.node (.unit (u1 l1)) .none)) .none))) :: pls x28) 100 14) 100 60 i o d = fP x28 l1 d := by kernel_rfl
noncomputable def f : FT := fP F28.f l1
def plan (l1 : G1) : Plan := (.node .none (.node (.node .none (.node (.unit (u1 l1)) .none)) .none))
theorem planOk : PlanOk Tryd.prog (plan l1) (bodyOf Tryd.prog 60) := (planOk_of (plan l1) _ [([1, 0, 1, 0], u1 l1)] rfl ⟨ok1, trivial⟩)
theorem meets : MeetsF Tryd.prog 60 ⟨i, o, f⟩ :=
  funcT (fuel := 100) (depth := 14) (pl := (60, plan l1) :: pls F28.f) mixed tabS ⟨planOk, plsP⟩ (fun d =>  fe F28.f l1 d)
theorem spec : SpecOk Tryd.prog (fun _ => none) 60 (specF ⟨i, o, f⟩) := specF_ok (by kernel_rfl) meets
end Go.Proofs.YtpfbpcaehmhefaaDoorB.F60

/- What comes of function 56 of this program, slices.ContainsFunc[[]consulate.api.AS,consulate.api.AS], as the engine gives it. -/
namespace Go.Proofs.YtpfbpcaehmhefaaDoorB.F56
open Go Go.Proofs Go.Proofs.YtpfbpcaehmhefaaDoor Go.RowKit Go.Proofs.YtpfbpcaehmhefaaDoorB.Sx
set_option linter.unusedVariables false
set_option maxRecDepth 100000
def tab (x60 : F60.FT) : List (FuncId × Sx.Spec) := [(60, specF ⟨F60.i, F60.o, x60⟩)]
def pls (x60 : F60.FT) : List (FuncId × Plan) := []
@[reducible] def i : Sh := .sl false 32 (.sc (.int .u32) .nil) (.ag (some 55) (.pt false 44 (.sc (.int .u32) (.sc (.int .u32) (.sl false 32 (.sc (.int .u32) .nil) (.sc (.int .u32) .nil)))) .nil) .nil)
@[reducible] def o : Sh := .sc .bool .nil
abbrev FT := (List (Int) × ((Int × Int × List (Int) × Int))) → Option (Bool × Unit)
theorem tabS : AllS Tryd.prog (tab F60.f) := ⟨F60.spec, trivial⟩
theorem plsP : AllP Tryd.prog (pls F60.f) := trivial
theorem mixed : Tryd.prog.follows .mixedOrders = true := by kernel_rfl
def fP (x60 : F60.FT) : FT := fun (s, (f0, f1, f2, f3)) =>
    bif decide ((0 : Nat) + s.length ≤ s.length) && true then
      (x60 (List.take s.length s, f0, f1, f2, f3)).bind fun r0 => some (decide (r0.fst ≥ (0 : Int)), PUnit.unit)
    else none
theorem fe (x60 : F60.FT) (d : List (Int) × ((Int × Int × List (Int) × Int))) : bodyF (tabC Tryd.prog (tab x60) ((56, .none) :: pls x60) 100 14) 100 56 i o d = fP x60 d := by kernel_rfl
noncomputable def f : FT := fP F60.f
def plan : Plan := .none
theorem planOk : PlanOk Tryd.prog (plan) (bodyOf Tryd.prog 56) := (planOk_of (plan) _ [] (by kernel_rfl) trivial)
theorem meets : MeetsF Tryd.prog 56 ⟨i, o, f⟩ :=
  funcT (fuel := 100) (depth := 14) (pl := (56, plan) :: pls F60.f) mixed tabS ⟨planOk, plsP⟩ (fun d =>  fe F60.f d)
theorem spec : SpecOk Tryd.prog (fun _ => none) 56 (specF ⟨i, o, f⟩) := specF_ok (by kernel_rfl) meets
end Go.Proofs.YtpfbpcaehmhefaaDoorB.F56

/- What comes of function 23 of this program, (consulate.peer.Own).May, as the engine gives it. -/
namespace Go.Proofs.YtpfbpcaehmhefaaDoorB.F23
open Go Go.Proofs Go.Proofs.YtpfbpcaehmhefaaDoor Go.RowKit Go.Proofs.YtpfbpcaehmhefaaDoorB.Sx
set_option linter.unusedVariables false
set_option maxRecDepth 100000
def tab (x28 : F28.FT) (x56 : F56.FT) : List (FuncId × Sx.Spec) := [(28, specF ⟨F28.i, F28.o, x28⟩), (56, specF ⟨F56.i, F56.o, x56⟩)]
def pls (x28 : F28.FT) (x56 : F56.FT) : List (FuncId × Plan) := []
@[reducible] def k1 : Sh := .pt true 44 (.sc (.int .u32) (.sc (.int .u32) (.sl true 32 (.sc (.int .u32) .nil) (.sc (.int .u32) .nil)))) .nil
@[reducible] def i1 : Sh := .sc (.int .i64) .nil
@[reducible] def o1 : Sh := .sc (.int .i64) (.sc .bool .nil)
abbrev G1 := ((Int × Int × List (Int) × Int)) → Int → Option ((Int × Bool) × Unit)
def u1 (F : G1) : Un := ⟨71, [1], k1, [4], i1, [2], o1, [1, 3], [(.exit 0, [false]), (.ret, [true])], F⟩
@[reducible] def i : Sh := .ag none (.sc (.int .u32) (.sc (.int .u32) (.sl false 32 (.sc (.int .u32) .nil) (.sc (.int .u32) .nil)))) .nil
@[reducible] def o : Sh := .sc .bool .nil
abbrev FT := ((Int × Int × List (Int) × Int)) → Option (Bool × Unit)
theorem tabS : AllS Tryd.prog (tab F28.f F56.f) := ⟨F28.spec, F56.spec, trivial⟩
theorem plsP : AllP Tryd.prog (pls F28.f F56.f) := trivial
theorem mixed : Tryd.prog.follows .mixedOrders = true := by kernel_rfl
def r1P (x28 : F28.FT) (x56 : F56.FT) : ((Int × Int × List (Int) × Int)) → Int → Option (Int ⊕ ((Int × Bool) × Unit)) := fun (o0_2, o1_2, o2_2, o3_2) k =>
    bif decide (k < (↑o2_2.length : Int)) then
      bif
       decide
       ((0 : Int) ≤ IntKind.i64.wrap (k - (1 : Int)) ∧
       IntKind.i64.wrap (k - (1 : Int)) < (↑o2_2.length : Int) ∧ (0 : Nat) < o2_2.length) then
       bif decide ((0 : Nat) + (IntKind.i64.wrap (k - (1 : Int))).toNat < o2_2.length) then
       bif decide ((0 : Int) ≤ k ∧ k < (↑o2_2.length : Int) ∧ (0 : Nat) < o2_2.length) then
       bif decide ((0 : Nat) + k.toNat < o2_2.length) then
       bif
       decide
       (o2_2.getD ((0 : Nat) + (IntKind.i64.wrap (k - (1 : Int))).toNat) (0 : Int) ≥
       o2_2.getD ((0 : Nat) + k.toNat) (0 : Int)) then
       some (Sum.inr (((1 : Int), false), PUnit.unit))
       else some (Sum.inl (IntKind.i64.wrap (k + (1 : Int))))
       else none
       else none
       else none
      else none
    else some (Sum.inr (((0 : Int), false), PUnit.unit))
theorem r1e (x28 : F28.FT) (x56 : F56.FT) (kd : (Int × Int × List (Int) × Int)) (d : Int) : roundF (tabC Tryd.prog (tab x28 x56) (pls x28 x56) 100 14) 100 .none (u1 fun _ _ => none) (codeAt [1, 1, 0, 1, 0, 0] (bodyOf Tryd.prog 23)) kd d = r1P x28 x56 kd d := by kernel_rfl
noncomputable def r1 : ((Int × Int × List (Int) × Int)) → Int → Option (Int ⊕ ((Int × Bool) × Unit)) := r1P F28.f F56.f
noncomputable def l1 : G1 := fun kd d => iterO (r1 kd) d
theorem ok1 : UnOk Tryd.prog (u1 l1) (codeAt [1, 1, 0, 1, 0] (bodyOf Tryd.prog 23)) :=
  loopT (p := .none) (c := codeAt [1, 1, 0, 1, 0, 0] (bodyOf Tryd.prog 23)) (fuel := 100) (depth := 14) mixed tabS plsP (by kernel_rfl) trivial (by kernel_rfl) (fun kd d => r1e F28.f F56.f kd d) rfl
def fP (x28 : F28.FT) (x56 : F56.FT) (l1 : G1) : FT := fun (o0_2, o1_2, o2_2, o3_2) =>
    bif decide ((0 : Nat) + o2_2.length ≤ o2_2.length) && true then
      (l1 (o0_2, o1_2, List.take o2_2.length o2_2, o3_2) (OfNat.ofNat (1 : Nat))).bind fun r0 =>
       bif decide (r0.fst.fst = (0 : Int)) then
       bif o0_2 != o1_2 then
       (x28 o0_2).bind fun r1 =>
       bif r1.fst then
       (x28 o1_2).bind fun r2 =>
       bif r2.fst then
       bif decide ((↑o2_2.length : Int) ≤ (16 : Int)) then
       bif decide ((0 : Nat) + o2_2.length ≤ o2_2.length) && true then
       bif decide ((0 : Nat) + o2_2.length ≤ o2_2.length) && true then
       (x56 (List.take o2_2.length o2_2, o0_2, o1_2, List.take o2_2.length o2_2, o3_2)).bind fun r3 =>
       bif !r3.fst then
       bif o3_2 != (0 : Int) then some (decide (o3_2 < (3758096384 : Int)), PUnit.unit)
       else some (false, PUnit.unit)
       else some (false, PUnit.unit)
       else none
       else none
       else some (false, PUnit.unit)
       else some (false, PUnit.unit)
       else some (false, PUnit.unit)
       else
       (x28 o0_2).bind fun r1 =>
       bif r1.fst then
       (x28 o1_2).bind fun r2 =>
       bif r2.fst then
       bif (↑o2_2.length : Int) == (0 : Int) then
       bif decide ((↑o2_2.length : Int) ≤ (16 : Int)) then
       bif decide ((0 : Nat) + o2_2.length ≤ o2_2.length) && true then
       bif decide ((0 : Nat) + o2_2.length ≤ o2_2.length) && true then
       (x56 (List.take o2_2.length o2_2, o0_2, o1_2, List.take o2_2.length o2_2, o3_2)).bind
       fun r3 =>
       bif !r3.fst then
       bif o3_2 != (0 : Int) then some (decide (o3_2 < (3758096384 : Int)), PUnit.unit)
       else some (false, PUnit.unit)
       else some (false, PUnit.unit)
       else none
       else none
       else some (false, PUnit.unit)
       else some (false, PUnit.unit)
       else some (false, PUnit.unit)
       else some (false, PUnit.unit)
       else bif decide (r0.fst.fst = (1 : Int)) then some (r0.fst.snd, PUnit.unit) else none
    else none
theorem fe (x28 : F28.FT) (x56 : F56.FT) (l1 : G1) (d : (Int × Int × List (Int) × Int)) : bodyF (tabC Tryd.prog (tab x28 x56) ((23, (.node .none (.node .none (.node (.node .none (.node (.unit (u1 l1)) .none)) .none)))) :: pls x28 x56) 100 14) 100 23 i o d = fP x28 x56 l1 d := by kernel_rfl
noncomputable def f : FT := fP F28.f F56.f l1
def plan (l1 : G1) : Plan := (.node .none (.node .none (.node (.node .none (.node (.unit (u1 l1)) .none)) .none)))
theorem planOk : PlanOk Tryd.prog (plan l1) (bodyOf Tryd.prog 23) := (planOk_of (plan l1) _ [([1, 1, 0, 1, 0], u1 l1)] rfl ⟨ok1, trivial⟩)
theorem meets : MeetsF Tryd.prog 23 ⟨i, o, f⟩ :=
  funcT (fuel := 100) (depth := 14) (pl := (23, plan l1) :: pls F28.f F56.f) mixed tabS ⟨planOk, plsP⟩ (fun d =>  fe F28.f F56.f l1 d)
theorem spec : SpecOk Tryd.prog (fun _ => none) 23 (specF ⟨i, o, f⟩) := specF_ok (by kernel_rfl) meets
end Go.Proofs.YtpfbpcaehmhefaaDoorB.F23

/- What comes of function 35 of this program, slices.Equal[[]consulate.api.AS,consulate.api.AS], as the engine gives it. -/
namespace Go.Proofs.YtpfbpcaehmhefaaDoorB.F35
open Go Go.Proofs Go.Proofs.YtpfbpcaehmhefaaDoor Go.RowKit Go.Proofs.YtpfbpcaehmhefaaDoorB.Sx
set_option linter.unusedVariables false
set_option maxRecDepth 100000
def tab : List (FuncId × Sx.Spec) := []
def pls : List (FuncId × Plan) := []
@[reducible] def k1 : Sh := .sl false 32 (.sc (.int .u32) .nil) (.sl false 32 (.sc (.int .u32) .nil) (.sc (.int .i64) .nil))
@[reducible] def i1 : Sh := .sc (.int .i64) .nil
@[reducible] def o1 : Sh := .sc (.int .i64) (.sc .bool .nil)
abbrev G1 := (List (Int) × List (Int) × Int) → Int → Option ((Int × Bool) × Unit)
def u1 (F : G1) : Un := ⟨26, [0, 1, 12], k1, [13], i1, [4], o1, [0, 1, 12], [(.exit 0, [false]), (.ret, [true])], F⟩
@[reducible] def i : Sh := .sl false 32 (.sc (.int .u32) .nil) (.sl false 32 (.sc (.int .u32) .nil) .nil)
@[reducible] def o : Sh := .sc .bool .nil
abbrev FT := (List (Int) × List (Int)) → Option (Bool × Unit)
theorem tabS : AllS Tryd.prog (tab) := trivial
theorem plsP : AllP Tryd.prog (pls) := trivial
theorem mixed : Tryd.prog.follows .mixedOrders = true := by kernel_rfl
def r1P : (List (Int) × List (Int) × Int) → Int → Option (Int ⊕ ((Int × Bool) × Unit)) := fun (s1, s2, t12) t13 =>
    bif decide (t13 < t12) then
      bif decide ((0 : Int) ≤ t13 ∧ t13 < (↑s1.length : Int) ∧ (0 : Nat) < s1.length) then
       bif decide ((0 : Nat) + t13.toNat < s1.length) then
       bif decide ((0 : Int) ≤ t13 ∧ t13 < (↑s2.length : Int) ∧ (0 : Nat) < s2.length) then
       bif decide ((0 : Nat) + t13.toNat < s2.length) then
       bif s1.getD ((0 : Nat) + t13.toNat) (0 : Int) != s2.getD ((0 : Nat) + t13.toNat) (0 : Int) then
       some (Sum.inr (((1 : Int), false), PUnit.unit))
       else some (Sum.inl (IntKind.i64.wrap (t13 + (1 : Int))))
       else none
       else none
       else none
      else none
    else some (Sum.inr (((0 : Int), false), PUnit.unit))
theorem r1e (kd : List (Int) × List (Int) × Int) (d : Int) : roundF (tabC Tryd.prog (tab) (pls) 100 14) 100 .none (u1 fun _ _ => none) (codeAt [1, 1, 0, 1, 0, 0] (bodyOf Tryd.prog 35)) kd d = r1P kd d := by kernel_rfl
noncomputable def r1 : (List (Int) × List (Int) × Int) → Int → Option (Int ⊕ ((Int × Bool) × Unit)) := r1P
noncomputable def l1 : G1 := fun kd d => iterO (r1 kd) d
theorem ok1 : UnOk Tryd.prog (u1 l1) (codeAt [1, 1, 0, 1, 0] (bodyOf Tryd.prog 35)) :=
  loopT (p := .none) (c := codeAt [1, 1, 0, 1, 0, 0] (bodyOf Tryd.prog 35)) (fuel := 100) (depth := 14) mixed tabS plsP (by kernel_rfl) trivial (by kernel_rfl) (fun kd d => r1e  kd d) rfl
def fP (l1 : G1) : FT := fun (s1, s2) =>
    bif (↑s1.length : Int) != (↑s2.length : Int) then some (false, PUnit.unit)
    else
      bif decide ((0 : Nat) + s1.length ≤ s1.length) && true then
       bif decide ((0 : Nat) + s2.length ≤ s2.length) && true then
       (l1 (List.take s1.length s1, List.take s2.length s2, (↑s1.length : Int)) (OfNat.ofNat (0 : Nat))).bind fun r0 =>
       bif decide (r0.fst.fst = (0 : Int)) then some (true, PUnit.unit)
       else bif decide (r0.fst.fst = (1 : Int)) then some (r0.fst.snd, PUnit.unit) else none
       else none
      else none
theorem fe (l1 : G1) (d : List (Int) × List (Int)) : bodyF (tabC Tryd.prog (tab) ((35, (.node .none (.node .none (.node (.node .none (.node (.unit (u1 l1)) .none)) .none)))) :: pls) 100 14) 100 35 i o d = fP l1 d := by kernel_rfl
noncomputable def f : FT := fP l1
def plan (l1 : G1) : Plan := (.node .none (.node .none (.node (.node .none (.node (.unit (u1 l1)) .none)) .none)))
theorem planOk : PlanOk Tryd.prog (plan l1) (bodyOf Tryd.prog 35) := (planOk_of (plan l1) _ [([1, 1, 0, 1, 0], u1 l1)] rfl ⟨ok1, trivial⟩)
theorem meets : MeetsF Tryd.prog 35 ⟨i, o, f⟩ :=
  funcT (fuel := 100) (depth := 14) (pl := (35, plan l1) :: pls) mixed tabS ⟨planOk, plsP⟩ (fun d =>  fe l1 d)
theorem spec : SpecOk Tryd.prog (fun _ => none) 35 (specF ⟨i, o, f⟩) := specF_ok (by kernel_rfl) meets
end Go.Proofs.YtpfbpcaehmhefaaDoorB.F35

/- What comes of function 62 of this program, slices.Index[[]consulate.api.AS,consulate.api.AS], as the engine gives it. -/
namespace Go.Proofs.YtpfbpcaehmhefaaDoorB.F62
open Go Go.Proofs Go.Proofs.YtpfbpcaehmhefaaDoor Go.RowKit Go.Proofs.YtpfbpcaehmhefaaDoorB.Sx
set_option linter.unusedVariables false
set_option maxRecDepth 100000
def tab : List (FuncId × Sx.Spec) := []
def pls : List (FuncId × Plan) := []
@[reducible] def k1 : Sh := .sl false 32 (.sc (.int .u32) .nil) (.sc (.int .u32) (.sc (.int .i64) .nil))
@[reducible] def i1 : Sh := .sc (.int .i64) .nil
@[reducible] def o1 : Sh := .sc (.int .i64) (.sc (.int .i64) .nil)
abbrev G1 := (List (Int) × Int × Int) → Int → Option ((Int × Int) × Unit)
def u1 (F : G1) : Un := ⟨19, [0, 1, 7], k1, [8], i1, [4], o1, [0, 1, 7], [(.exit 0, [false]), (.ret, [true])], F⟩
@[reducible] def i : Sh := .sl false 32 (.sc (.int .u32) .nil) (.sc (.int .u32) .nil)
@[reducible] def o : Sh := .sc (.int .i64) .nil
abbrev FT := (List (Int) × Int) → Option (Int × Unit)
theorem tabS : AllS Tryd.prog (tab) := trivial
theorem plsP : AllP Tryd.prog (pls) := trivial
theorem mixed : Tryd.prog.follows .mixedOrders = true := by kernel_rfl
def r1P : (List (Int) × Int × Int) → Int → Option (Int ⊕ ((Int × Int) × Unit)) := fun (s, v, t7) t8 =>
    bif decide (t8 < t7) then
      bif decide ((0 : Int) ≤ t8 ∧ t8 < (↑s.length : Int) ∧ (0 : Nat) < s.length) then
       bif decide ((0 : Nat) + t8.toNat < s.length) then
       bif v == s.getD ((0 : Nat) + t8.toNat) (0 : Int) then some (Sum.inr (((1 : Int), t8), PUnit.unit))
       else some (Sum.inl (IntKind.i64.wrap (t8 + (1 : Int))))
       else none
      else none
    else some (Sum.inr (((0 : Int), (0 : Int)), PUnit.unit))
theorem r1e (kd : List (Int) × Int × Int) (d : Int) : roundF (tabC Tryd.prog (tab) (pls) 100 14) 100 .none (u1 fun _ _ => none) (codeAt [1, 0, 1, 0, 0] (bodyOf Tryd.prog 62)) kd d = r1P kd d := by kernel_rfl
noncomputable def r1 : (List (Int) × Int × Int) → Int → Option (Int ⊕ ((Int × Int) × Unit)) := r1P
noncomputable def l1 : G1 := fun kd d => iterO (r1 kd) d
theorem ok1 : UnOk Tryd.prog (u1 l1) (codeAt [1, 0, 1, 0] (bodyOf Tryd.prog 62)) :=
  loopT (p := .none) (c := codeAt [1, 0, 1, 0, 0] (bodyOf Tryd.prog 62)) (fuel := 100) (depth := 14) mixed tabS plsP (by kernel_rfl) trivial (by kernel_rfl) (fun kd d => r1e  kd d) rfl
def fP (l1 : G1) : FT := fun (s, v) =>
    bif decide ((0 : Nat) + s.length ≤ s.length) && true then
      (l1 (List.take s.length s, v, (↑s.length : Int)) (OfNat.ofNat (0 : Nat))).bind fun r0 =>
       bif decide (r0.fst.fst = (0 : Int)) then some ((-1 : Int), PUnit.unit)
       else bif decide (r0.fst.fst = (1 : Int)) then some (r0.fst.snd, PUnit.unit) else none
    else none
theorem fe (l1 : G1) (d : List (Int) × Int) : bodyF (tabC Tryd.prog (tab) ((62, (.node .none (.node (.node .none (.node (.unit (u1 l1)) .none)) .none))) :: pls) 100 14) 100 62 i o d = fP l1 d := by kernel_rfl
noncomputable def f : FT := fP l1
def plan (l1 : G1) : Plan := (.node .none (.node (.node .none (.node (.unit (u1 l1)) .none)) .none))
theorem planOk : PlanOk Tryd.prog (plan l1) (bodyOf Tryd.prog 62) := (planOk_of (plan l1) _ [([1, 0, 1, 0], u1 l1)] rfl ⟨ok1, trivial⟩)
theorem meets : MeetsF Tryd.prog 62 ⟨i, o, f⟩ :=
  funcT (fuel := 100) (depth := 14) (pl := (62, plan l1) :: pls) mixed tabS ⟨planOk, plsP⟩ (fun d =>  fe l1 d)
theorem spec : SpecOk Tryd.prog (fun _ => none) 62 (specF ⟨i, o, f⟩) := specF_ok (by kernel_rfl) meets
end Go.Proofs.YtpfbpcaehmhefaaDoorB.F62

/- What comes of function 37 of this program, slices.Contains[[]consulate.api.AS,consulate.api.AS], as the engine gives it. -/
namespace Go.Proofs.YtpfbpcaehmhefaaDoorB.F37
open Go Go.Proofs Go.Proofs.YtpfbpcaehmhefaaDoor Go.RowKit Go.Proofs.YtpfbpcaehmhefaaDoorB.Sx
set_option linter.unusedVariables false
set_option maxRecDepth 100000
def tab (x62 : F62.FT) : List (FuncId × Sx.Spec) := [(62, specF ⟨F62.i, F62.o, x62⟩)]
def pls (x62 : F62.FT) : List (FuncId × Plan) := []
@[reducible] def i : Sh := .sl false 32 (.sc (.int .u32) .nil) (.sc (.int .u32) .nil)
@[reducible] def o : Sh := .sc .bool .nil
abbrev FT := (List (Int) × Int) → Option (Bool × Unit)
theorem tabS : AllS Tryd.prog (tab F62.f) := ⟨F62.spec, trivial⟩
theorem plsP : AllP Tryd.prog (pls F62.f) := trivial
theorem mixed : Tryd.prog.follows .mixedOrders = true := by kernel_rfl
def fP (x62 : F62.FT) : FT := fun (s, v) =>
    bif decide ((0 : Nat) + s.length ≤ s.length) && true then
      (x62 (List.take s.length s, v)).bind fun r0 => some (decide (r0.fst ≥ (0 : Int)), PUnit.unit)
    else none
theorem fe (x62 : F62.FT) (d : List (Int) × Int) : bodyF (tabC Tryd.prog (tab x62) ((37, .none) :: pls x62) 100 14) 100 37 i o d = fP x62 d := by kernel_rfl
noncomputable def f : FT := fP F62.f
def plan : Plan := .none
theorem planOk : PlanOk Tryd.prog (plan) (bodyOf Tryd.prog 37) := (planOk_of (plan) _ [] (by kernel_rfl) trivial)
theorem meets : MeetsF Tryd.prog 37 ⟨i, o, f⟩ :=
  funcT (fuel := 100) (depth := 14) (pl := (37, plan) :: pls F62.f) mixed tabS ⟨planOk, plsP⟩ (fun d =>  fe F62.f d)
theorem spec : SpecOk Tryd.prog (fun _ => none) 37 (specF ⟨i, o, f⟩) := specF_ok (by kernel_rfl) meets
end Go.Proofs.YtpfbpcaehmhefaaDoorB.F37

/- What comes of function 24 of this program, (consulate.peer.Own).Class, as the engine gives it. -/
namespace Go.Proofs.YtpfbpcaehmhefaaDoorB.F24
open Go Go.Proofs Go.Proofs.YtpfbpcaehmhefaaDoor Go.RowKit Go.Proofs.YtpfbpcaehmhefaaDoorB.Sx
set_option linter.unusedVariables false
set_option maxRecDepth 100000
def tab (x23 : F23.FT) (x28 : F28.FT) (x37 : F37.FT) : List (FuncId × Sx.Spec) := [(23, specF ⟨F23.i, F23.o, x23⟩), (28, specF ⟨F28.i, F28.o, x28⟩), (37, specF ⟨F37.i, F37.o, x37⟩)]
def pls (x23 : F23.FT) (x28 : F28.FT) (x37 : F37.FT) : List (FuncId × Plan) := []
@[reducible] def i : Sh := .ag none (.sc (.int .u32) (.sc (.int .u32) (.sl false 32 (.sc (.int .u32) .nil) (.sc (.int .u32) .nil)))) (.sc (.int .u32) .nil)
@[reducible] def o : Sh := .sc (.int .i64) .nil
abbrev FT := ((Int × Int × List (Int) × Int) × Int) → Option (Int × Unit)
theorem tabS : AllS Tryd.prog (tab F23.f F28.f F37.f) := ⟨F23.spec, F28.spec, F37.spec, trivial⟩
theorem plsP : AllP Tryd.prog (pls F23.f F28.f F37.f) := trivial
theorem mixed : Tryd.prog.follows .mixedOrders = true := by kernel_rfl
def fP (x23 : F23.FT) (x28 : F28.FT) (x37 : F37.FT) : FT := fun ((o0_2, o1_2, o2_2, o3_2), n) =>
    bif decide ((0 : Nat) + o2_2.length ≤ o2_2.length) && true then
      (x23 (o0_2, o1_2, List.take o2_2.length o2_2, o3_2)).bind fun r0 =>
       bif !r0.fst then some ((0 : Int), PUnit.unit)
       else
       (x28 n).bind fun r1 =>
       bif !r1.fst then some ((0 : Int), PUnit.unit)
       else
       bif n == o0_2 then some ((1 : Int), PUnit.unit)
       else
       bif decide ((0 : Nat) + o2_2.length ≤ o2_2.length) && true then
       (x37 (List.take o2_2.length o2_2, n)).bind fun r2 =>
       bif r2.fst then some ((2 : Int), PUnit.unit)
       else bif n == o1_2 then some ((0 : Int), PUnit.unit) else some ((3 : Int), PUnit.unit)
       else none
    else none
theorem fe (x23 : F23.FT) (x28 : F28.FT) (x37 : F37.FT) (d : (Int × Int × List (Int) × Int) × Int) : bodyF (tabC Tryd.prog (tab x23 x28 x37) ((24, .none) :: pls x23 x28 x37) 100 14) 100 24 i o d = fP x23 x28 x37 d := by kernel_rfl
noncomputable def f : FT := fP F23.f F28.f F37.f
def plan : Plan := .none
theorem planOk : PlanOk Tryd.prog (plan) (bodyOf Tryd.prog 24) := (planOk_of (plan) _ [] (by kernel_rfl) trivial)
theorem meets : MeetsF Tryd.prog 24 ⟨i, o, f⟩ :=
  funcT (fuel := 100) (depth := 14) (pl := (24, plan) :: pls F23.f F28.f F37.f) mixed tabS ⟨planOk, plsP⟩ (fun d =>  fe F23.f F28.f F37.f d)
theorem spec : SpecOk Tryd.prog (fun _ => none) 24 (specF ⟨i, o, f⟩) := specF_ok (by kernel_rfl) meets
end Go.Proofs.YtpfbpcaehmhefaaDoorB.F24

/- What comes of function 25 of this program, (consulate.peer.Own).Tells, as the engine gives it. -/
namespace Go.Proofs.YtpfbpcaehmhefaaDoorB.F25
open Go Go.Proofs Go.Proofs.YtpfbpcaehmhefaaDoor Go.RowKit Go.Proofs.YtpfbpcaehmhefaaDoorB.Sx
set_option linter.unusedVariables false
set_option maxRecDepth 100000
def tab : List (FuncId × Sx.Spec) := []
def pls : List (FuncId × Plan) := []
@[reducible] def i : Sh := .ag none (.sc (.int .u32) (.sc (.int .u32) (.sl false 32 (.sc (.int .u32) .nil) (.sc (.int .u32) .nil)))) (.sc (.int .i64) .nil)
@[reducible] def o : Sh := .sc (.int .u32) .nil
abbrev FT := ((Int × Int × List (Int) × Int) × Int) → Option (Int × Unit)
theorem tabS : AllS Tryd.prog (tab) := trivial
theorem plsP : AllP Tryd.prog (pls) := trivial
theorem mixed : Tryd.prog.follows .mixedOrders = true := by kernel_rfl
def fP : FT := fun ((o0_2, o1_2, o2_2, o3_2), class0) =>
    bif class0 == (1 : Int) then some (o0_2, PUnit.unit)
    else
      bif class0 == (2 : Int) then some (o0_2, PUnit.unit)
      else bif class0 == (3 : Int) then some (o1_2, PUnit.unit) else some ((0 : Int), PUnit.unit)
theorem fe (d : (Int × Int × List (Int) × Int) × Int) : bodyF (tabC Tryd.prog (tab) ((25, .none) :: pls) 100 14) 100 25 i o d = fP d := by kernel_rfl
noncomputable def f : FT := fP
def plan : Plan := .none
theorem planOk : PlanOk Tryd.prog (plan) (bodyOf Tryd.prog 25) := (planOk_of (plan) _ [] (by kernel_rfl) trivial)
theorem meets : MeetsF Tryd.prog 25 ⟨i, o, f⟩ :=
  funcT (fuel := 100) (depth := 14) (pl := (25, plan) :: pls) mixed tabS ⟨planOk, plsP⟩ (fun d =>  fe  d)
theorem spec : SpecOk Tryd.prog (fun _ => none) 25 (specF ⟨i, o, f⟩) := specF_ok (by kernel_rfl) meets
end Go.Proofs.YtpfbpcaehmhefaaDoorB.F25

/- What stands on its own: function 10 says true. -/
namespace Go.Proofs.YtpfbpcaehmhefaaDoorB.KA
open Go Go.Proofs Go.Proofs.YtpfbpcaehmhefaaDoor Go.RowKit Go.Proofs.YtpfbpcaehmhefaaDoorB.Sx
theorem mixed : Tryd.prog.follows .mixedOrders = true := by kernel_rfl
theorem tells (W : World) (hW : GlobW W) : Calls Tryd.prog 10 #[] W (Law.Told W) :=
  closed_law (C := tower (base Tryd.prog) [] 100 12) (tower_ok (base_ok _) (noPlans _ rfl) mixed (fun _ _ h => by cases h) 12) rfl (by kernel_rfl) W hW
end Go.Proofs.YtpfbpcaehmhefaaDoorB.KA

/- What comes of function 6 of this program, consulate.consulatelaw15.PeerClass, as the engine gives it. -/
namespace Go.Proofs.YtpfbpcaehmhefaaDoorB.F6
open Go Go.Proofs Go.Proofs.YtpfbpcaehmhefaaDoor Go.RowKit Go.Proofs.YtpfbpcaehmhefaaDoorB.Sx
set_option linter.unusedVariables false
set_option maxRecDepth 100000
def tab (x29 : F29.FT) (x33 : F33.FT) (x32 : F32.FT) (x23 : F23.FT) (x36 : F36.FT) (x35 : F35.FT) (x24 : F24.FT) (x25 : F25.FT) (x37 : F37.FT) (x28 : F28.FT) : List (FuncId × Sx.Spec) := [(29, specF ⟨F29.i, F29.o, x29⟩), (33, specF ⟨F33.i, F33.o, x33⟩), (32, specF ⟨F32.i, F32.o, x32⟩), (23, specF ⟨F23.i, F23.o, x23⟩), (36, specF ⟨F36.i, F36.o, x36⟩), (35, specF ⟨F35.i, F35.o, x35⟩), (24, specF ⟨F24.i, F24.o, x24⟩), (25, specF ⟨F25.i, F25.o, x25⟩), (37, specF ⟨F37.i, F37.o, x37⟩), (28, specF ⟨F28.i, F28.o, x28⟩), (10, pureS saysS)]
def pls (x29 : F29.FT) (x33 : F33.FT) (x32 : F32.FT) (x23 : F23.FT) (x36 : F36.FT) (x35 : F35.FT) (x24 : F24.FT) (x25 : F25.FT) (x37 : F37.FT) (x28 : F28.FT) : List (FuncId × Plan) := []
@[reducible] def k1 : Sh := .sc (.int .u8) .nil
@[reducible] def i1 : Sh := .pt true 41 (.sl true 32 (.sc (.int .u32) .nil) .nil) (.sc (.int .u8) .nil)
@[reducible] def o1 : Sh := .nil
abbrev G1 := Int → (List (Int) × Int) → Option (Unit × List (Int))
def u1 (F : G1) : Un := ⟨137, [23], k1, [8, 24], i1, [], o1, [1, 6, 7, 8, 23], [(.exit 0, [])], F⟩
@[reducible] def k2 : Sh := .pt true 41 (.sl true 32 (.sc (.int .u32) .nil) .nil) (.pt true 44 (.sc (.int .u32) (.sc (.int .u32) (.sl true 32 (.sc (.int .u32) .nil) (.sc (.int .u32) .nil)))) (.pt true 44 (.sc (.int .u32) (.sc (.int .u32) (.sl true 32 (.sc (.int .u32) .nil) (.sc (.int .u32) .nil)))) .nil))
@[reducible] def i2 : Sh := .nil
@[reducible] def o2 : Sh := .sc .bool .nil
abbrev G2 := (List (Int) × (Int × Int × List (Int) × Int) × (Int × Int × List (Int) × Int)) → Unit → Option (Bool × Unit)
def u2 (F : G2) : Un := ⟨137, [8, 11, 12], k2, [], i2, [61], o2, [1, 8, 11, 12], [(.normal, [true])], F⟩
@[reducible] def k3 : Sh := .pt true 44 (.sc (.int .u32) (.sc (.int .u32) (.sl true 32 (.sc (.int .u32) .nil) (.sc (.int .u32) .nil)))) (.pt true 44 (.sc (.int .u32) (.sc (.int .u32) (.sl true 32 (.sc (.int .u32) .nil) (.sc (.int .u32) .nil)))) (.sc (.int .i64) .nil))
@[reducible] def i3 : Sh := .nil
@[reducible] def o3 : Sh := .sc .bool .nil
abbrev G3 := ((Int × Int × List (Int) × Int) × (Int × Int × List (Int) × Int) × Int) → Unit → Option (Bool × Unit)
def u3 (F : G3) : Un := ⟨137, [11, 12, 13], k3, [], i3, [85], o3, [1, 8, 11, 12], [(.normal, [true])], F⟩
@[reducible] def k4 : Sh := .pt true 44 (.sc (.int .u32) (.sc (.int .u32) (.sl true 32 (.sc (.int .u32) .nil) (.sc (.int .u32) .nil)))) .nil
@[reducible] def i4 : Sh := .nil
@[reducible] def o4 : Sh := .sc .bool .nil
abbrev G4 := ((Int × Int × List (Int) × Int)) → Unit → Option (Bool × Unit)
def u4 (F : G4) : Un := ⟨137, [11], k4, [], i4, [102], o4, [1, 8, 11, 12], [(.normal, [true])], F⟩
@[reducible] def k5 : Sh := .sc (.int .u32) (.pt true 41 (.sl true 32 (.sc (.int .u32) .nil) .nil) .nil)
@[reducible] def i5 : Sh := .nil
@[reducible] def o5 : Sh := .sc .bool .nil
abbrev G5 := (Int × List (Int)) → Unit → Option (Bool × Unit)
def u5 (F : G5) : Un := ⟨137, [1, 8], k5, [], i5, [109], o5, [1, 11, 12], [(.normal, [true])], F⟩
@[reducible] def k6 : Sh := .sc (.int .u32) (.pt true 44 (.sc (.int .u32) (.sc (.int .u32) (.sl true 32 (.sc (.int .u32) .nil) (.sc (.int .u32) .nil)))) (.sc (.int .i64) .nil))
@[reducible] def i6 : Sh := .nil
@[reducible] def o6 : Sh := .sc .bool .nil
abbrev G6 := (Int × (Int × Int × List (Int) × Int) × Int) → Unit → Option (Bool × Unit)
def u6 (F : G6) : Un := ⟨137, [1, 12, 14], k6, [], i6, [4], o6, [], [(.normal, [true])], F⟩
@[reducible] def i : Sh := .ag none (.sc (.int .u8) (.sc (.int .u8) (.sc (.int .u8) .nil))) (.sc (.int .u32) .nil)
@[reducible] def o : Sh := .sc .bool .nil
abbrev FT := ((Int × Int × Int) × Int) → Option (Bool × Unit)
theorem tabS : AllS Tryd.prog (tab F29.f F33.f F32.f F23.f F36.f F35.f F24.f F25.f F37.f F28.f) := ⟨F29.spec, F33.spec, F32.spec, F23.spec, F36.spec, F35.spec, F24.spec, F25.spec, F37.spec, F28.spec, says_ok (by kernel_rfl) KA.tells, trivial⟩
theorem plsP : AllP Tryd.prog (pls F29.f F33.f F32.f F23.f F36.f F35.f F24.f F25.f F37.f F28.f) := trivial
theorem mixed : Tryd.prog.follows .mixedOrders = true := by kernel_rfl
def r1P (x29 : F29.FT) (x33 : F33.FT) (x32 : F32.FT) (x23 : F23.FT) (x36 : F36.FT) (x35 : F35.FT) (x24 : F24.FT) (x25 : F25.FT) (x37 : F37.FT) (x28 : F28.FT) : Int → (List (Int) × Int) → Option ((List (Int) × Int) ⊕ (Unit × List (Int))) := fun t23 (all, t24) =>
    bif decide (t24 < t23) then
      (x29 t24).bind fun r0 =>
       bif decide (all.length + (1 : Nat) / OfNat.ofNat (1 : Nat) ≤ (1073741824 : Nat)) then
       bif decide ((0 : Nat) + all.length ≤ all.length) then
       bif
       decide
       ((0 : Nat) + (all.length + (1 : Nat) / OfNat.ofNat (1 : Nat)) ≤
       (List.take all.length all ++ [r0.fst]).length) &&
       true then
       some
       (Sum.inl
       (List.take (all.length + (1 : Nat) / OfNat.ofNat (1 : Nat))
       (List.drop (0 : Nat) (List.take all.length all ++ [r0.fst])),
       IntKind.u8.wrap (t24 + (1 : Int))))
       else none
       else none
       else none
    else some (Sum.inr (PUnit.unit, all))
theorem r1e (x29 : F29.FT) (x33 : F33.FT) (x32 : F32.FT) (x23 : F23.FT) (x36 : F36.FT) (x35 : F35.FT) (x24 : F24.FT) (x25 : F25.FT) (x37 : F37.FT) (x28 : F28.FT) (kd : Int) (d : List (Int) × Int) : roundF (tabC Tryd.prog (tab x29 x33 x32 x23 x36 x35 x24 x25 x37 x28) (pls x29 x33 x32 x23 x36 x35 x24 x25 x37 x28) 100 14) 100 .none (u1 fun _ _ => none) (codeAt [1, 1, 1, 0, 1, 0, 0] (bodyOf Tryd.prog 6)) kd d = r1P x29 x33 x32 x23 x36 x35 x24 x25 x37 x28 kd d := by kernel_rfl
noncomputable def r1 : Int → (List (Int) × Int) → Option ((List (Int) × Int) ⊕ (Unit × List (Int))) := r1P F29.f F33.f F32.f F23.f F36.f F35.f F24.f F25.f F37.f F28.f
noncomputable def l1 : G1 := fun kd d => iterO (r1 kd) d
theorem ok1 : UnOk Tryd.prog (u1 l1) (codeAt [1, 1, 1, 0, 1, 0] (bodyOf Tryd.prog 6)) :=
  loopT (p := .none) (c := codeAt [1, 1, 1, 0, 1, 0, 0] (bodyOf Tryd.prog 6)) (fuel := 100) (depth := 14) mixed tabS plsP (by kernel_rfl) trivial (by kernel_rfl) (fun kd d => r1e F29.f F33.f F32.f F23.f F36.f F35.f F24.f F25.f F37.f F28.f kd d) rfl
def r2P (x29 : F29.FT) (x33 : F33.FT) (x32 : F32.FT) (x23 : F23.FT) (x36 : F36.FT) (x35 : F35.FT) (x24 : F24.FT) (x25 : F25.FT) (x37 : F37.FT) (x28 : F28.FT) : G2 := fun (all, (x0_2, x1_2, x2_2, x3_2), (y0, y1, y2, y3)) () =>
    bif decide ((0 : Nat) + x2_2.length ≤ x2_2.length) && true then
      (x23 (x0_2, x1_2, List.take x2_2.length x2_2, x3_2)).bind fun r0 =>
       bif !r0.fst then some (true, PUnit.unit)
       else
       bif decide ((0 : Nat) + y2.length ≤ y2.length) && true then
       (x23 (y0, y1, List.take y2.length y2, y3)).bind fun r1 =>
       bif !r1.fst then some (true, PUnit.unit)
       else
       bif decide ((0 : Nat) + x2_2.length ≤ x2_2.length) && true then
       (x36 (x0_2, x1_2, List.take x2_2.length x2_2, x3_2)).bind fun r2 =>
       bif decide ((0 : Nat) + List.length r2.fst ≤ List.length r2.fst) && true then
       bif decide ((0 : Nat) + all.length ≤ all.length) && true then
       (x35 (List.take (List.length r2.fst) (List.drop (0 : Nat) r2.fst), List.take all.length all)).bind
       fun r3 =>
       bif !r3.fst then some (true, PUnit.unit)
       else
       bif decide ((0 : Nat) + y2.length ≤ y2.length) && true then
       (x36 (y0, y1, List.take y2.length y2, y3)).bind fun r4 =>
       bif decide ((0 : Nat) + List.length r4.fst ≤ List.length r4.fst) && true then
       bif decide ((0 : Nat) + all.length ≤ all.length) && true then
       (x35
       (List.take (List.length r4.fst) (List.drop (0 : Nat) r4.fst),
       List.take all.length all)).bind
       fun r5 => some (!r5.fst, PUnit.unit)
       else none
       else none
       else none
       else none
       else none
       else none
       else none
    else none
theorem r2e (x29 : F29.FT) (x33 : F33.FT) (x32 : F32.FT) (x23 : F23.FT) (x36 : F36.FT) (x35 : F35.FT) (x24 : F24.FT) (x25 : F25.FT) (x37 : F37.FT) (x28 : F28.FT) (kd : List (Int) × (Int × Int × List (Int) × Int) × (Int × Int × List (Int) × Int)) (d : Unit) : unitF (tabC Tryd.prog (tab x29 x33 x32 x23 x36 x35 x24 x25 x37 x28) (pls x29 x33 x32 x23 x36 x35 x24 x25 x37 x28) 100 14) 100 .none (u2 fun _ _ => none) (codeAt [1, 1, 1, 1, 1, 1, 0, 0] (bodyOf Tryd.prog 6)) kd d = r2P x29 x33 x32 x23 x36 x35 x24 x25 x37 x28 kd d := by kernel_rfl
noncomputable def r2 : G2 := r2P F29.f F33.f F32.f F23.f F36.f F35.f F24.f F25.f F37.f F28.f
noncomputable def l2 : G2 := r2
theorem ok2 : UnOk Tryd.prog (u2 l2) (codeAt [1, 1, 1, 1, 1, 1, 0, 0] (bodyOf Tryd.prog 6)) :=
  blockT (p := .none) (fuel := 100) (depth := 14) mixed tabS plsP trivial (fun kd d =>  r2e F29.f F33.f F32.f F23.f F36.f F35.f F24.f F25.f F37.f F28.f kd d)
def r3P (x29 : F29.FT) (x33 : F33.FT) (x32 : F32.FT) (x23 : F23.FT) (x36 : F36.FT) (x35 : F35.FT) (x24 : F24.FT) (x25 : F25.FT) (x37 : F37.FT) (x28 : F28.FT) : G3 := fun ((x0_2, x1_2, x2_2, x3_2), (y0, y1, y2, y3), want) () =>
    bif decide ((0 : Nat) + x2_2.length ≤ x2_2.length) && true then
      (x24 ((x0_2, x1_2, List.take x2_2.length x2_2, x3_2), y0)).bind fun r0 =>
       bif r0.fst != want then some (true, PUnit.unit)
       else
       bif decide ((0 : Nat) + y2.length ≤ y2.length) && true then
       (x24 ((y0, y1, List.take y2.length y2, y3), x0_2)).bind fun r1 =>
       bif r1.fst != want then some (true, PUnit.unit)
       else
       bif decide ((0 : Nat) + x2_2.length ≤ x2_2.length) && true then
       (x24 ((x0_2, x1_2, List.take x2_2.length x2_2, x3_2), (100 : Int))).bind fun r2 =>
       some (r2.fst != (0 : Int), PUnit.unit)
       else none
       else none
    else none
theorem r3e (x29 : F29.FT) (x33 : F33.FT) (x32 : F32.FT) (x23 : F23.FT) (x36 : F36.FT) (x35 : F35.FT) (x24 : F24.FT) (x25 : F25.FT) (x37 : F37.FT) (x28 : F28.FT) (kd : (Int × Int × List (Int) × Int) × (Int × Int × List (Int) × Int) × Int) (d : Unit) : unitF (tabC Tryd.prog (tab x29 x33 x32 x23 x36 x35 x24 x25 x37 x28) (pls x29 x33 x32 x23 x36 x35 x24 x25 x37 x28) 100 14) 100 .none (u3 fun _ _ => none) (codeAt [1, 1, 1, 1, 1, 1, 1, 1, 1, 0, 0] (bodyOf Tryd.prog 6)) kd d = r3P x29 x33 x32 x23 x36 x35 x24 x25 x37 x28 kd d := by kernel_rfl
noncomputable def r3 : G3 := r3P F29.f F33.f F32.f F23.f F36.f F35.f F24.f F25.f F37.f F28.f
noncomputable def l3 : G3 := r3
theorem ok3 : UnOk Tryd.prog (u3 l3) (codeAt [1, 1, 1, 1, 1, 1, 1, 1, 1, 0, 0] (bodyOf Tryd.prog 6)) :=
  blockT (p := .none) (fuel := 100) (depth := 14) mixed tabS plsP trivial (fun kd d =>  r3e F29.f F33.f F32.f F23.f F36.f F35.f F24.f F25.f F37.f F28.f kd d)
def r4P (x29 : F29.FT) (x33 : F33.FT) (x32 : F32.FT) (x23 : F23.FT) (x36 : F36.FT) (x35 : F35.FT) (x24 : F24.FT) (x25 : F25.FT) (x37 : F37.FT) (x28 : F28.FT) : G4 := fun (x0_2, x1_2, x2_2, x3_2) () =>
    bif decide ((0 : Nat) + x2_2.length ≤ x2_2.length) && true then
      (x25 ((x0_2, x1_2, List.take x2_2.length x2_2, x3_2), (3 : Int))).bind fun r0 =>
       bif r0.fst != (100 : Int) then some (true, PUnit.unit)
       else
       bif decide ((0 : Nat) + x2_2.length ≤ x2_2.length) && true then
       (x25 ((x0_2, x1_2, List.take x2_2.length x2_2, x3_2), (1 : Int))).bind fun r1 =>
       bif r1.fst != x0_2 then some (true, PUnit.unit)
       else
       bif decide ((0 : Nat) + x2_2.length ≤ x2_2.length) && true then
       (x25 ((x0_2, x1_2, List.take x2_2.length x2_2, x3_2), (2 : Int))).bind fun r2 =>
       some (r2.fst != x0_2, PUnit.unit)
       else none
       else none
    else none
theorem r4e (x29 : F29.FT) (x33 : F33.FT) (x32 : F32.FT) (x23 : F23.FT) (x36 : F36.FT) (x35 : F35.FT) (x24 : F24.FT) (x25 : F25.FT) (x37 : F37.FT) (x28 : F28.FT) (kd : (Int × Int × List (Int) × Int)) (d : Unit) : unitF (tabC Tryd.prog (tab x29 x33 x32 x23 x36 x35 x24 x25 x37 x28) (pls x29 x33 x32 x23 x36 x35 x24 x25 x37 x28) 100 14) 100 .none (u4 fun _ _ => none) (codeAt [1, 1, 1, 1, 1, 1, 1, 1, 1, 1, 0, 0] (bodyOf Tryd.prog 6)) kd d = r4P x29 x33 x32 x23 x36 x35 x24 x25 x37 x28 kd d := by kernel_rfl
noncomputable def r4 : G4 := r4P F29.f F33.f F32.f F23.f F36.f F35.f F24.f F25.f F37.f F28.f
noncomputable def l4 : G4 := r4
theorem ok4 : UnOk Tryd.prog (u4 l4) (codeAt [1, 1, 1, 1, 1, 1, 1, 1, 1, 1, 0, 0] (bodyOf Tryd.prog 6)) :=
  blockT (p := .none) (fuel := 100) (depth := 14) mixed tabS plsP trivial (fun kd d =>  r4e F29.f F33.f F32.f F23.f F36.f F35.f F24.f F25.f F37.f F28.f kd d)
def r5P (x29 : F29.FT) (x33 : F33.FT) (x32 : F32.FT) (x23 : F23.FT) (x36 : F36.FT) (x35 : F35.FT) (x24 : F24.FT) (x25 : F25.FT) (x37 : F37.FT) (x28 : F28.FT) : G5 := fun (out, all) () =>
    bif decide ((0 : Nat) + all.length ≤ all.length) && true then
      (x37 (List.take all.length all, out)).bind fun r0 =>
       bif r0.fst then some (true, PUnit.unit) else some (out == (100 : Int), PUnit.unit)
    else none
theorem r5e (x29 : F29.FT) (x33 : F33.FT) (x32 : F32.FT) (x23 : F23.FT) (x36 : F36.FT) (x35 : F35.FT) (x24 : F24.FT) (x25 : F25.FT) (x37 : F37.FT) (x28 : F28.FT) (kd : Int × List (Int)) (d : Unit) : unitF (tabC Tryd.prog (tab x29 x33 x32 x23 x36 x35 x24 x25 x37 x28) (pls x29 x33 x32 x23 x36 x35 x24 x25 x37 x28) 100 14) 100 .none (u5 fun _ _ => none) (codeAt [1, 1, 1, 1, 1, 1, 1, 1, 1, 1, 1, 0, 0] (bodyOf Tryd.prog 6)) kd d = r5P x29 x33 x32 x23 x36 x35 x24 x25 x37 x28 kd d := by kernel_rfl
noncomputable def r5 : G5 := r5P F29.f F33.f F32.f F23.f F36.f F35.f F24.f F25.f F37.f F28.f
noncomputable def l5 : G5 := r5
theorem ok5 : UnOk Tryd.prog (u5 l5) (codeAt [1, 1, 1, 1, 1, 1, 1, 1, 1, 1, 1, 0, 0] (bodyOf Tryd.prog 6)) :=
  blockT (p := .none) (fuel := 100) (depth := 14) mixed tabS plsP trivial (fun kd d =>  r5e F29.f F33.f F32.f F23.f F36.f F35.f F24.f F25.f F37.f F28.f kd d)
def r6P (x29 : F29.FT) (x33 : F33.FT) (x32 : F32.FT) (x23 : F23.FT) (x36 : F36.FT) (x35 : F35.FT) (x24 : F24.FT) (x25 : F25.FT) (x37 : F37.FT) (x28 : F28.FT) : G6 := fun (out, (y0, y1, y2, y3), strange) () =>
    (x28 out).bind fun r0 =>
      bif (strange == (3 : Int)) == r0.fst then
       bif decide ((0 : Nat) + y2.length ≤ y2.length) && true then
       (x24 ((y0, y1, List.take y2.length y2, y3), out)).bind fun r1 =>
       bif strange == r1.fst then
       bif strange == (3 : Int) then some (true, PUnit.unit)
       else bif strange == (0 : Int) then some (true, PUnit.unit) else some (false, PUnit.unit)
       else some (false, PUnit.unit)
       else none
      else some (false, PUnit.unit)
theorem r6e (x29 : F29.FT) (x33 : F33.FT) (x32 : F32.FT) (x23 : F23.FT) (x36 : F36.FT) (x35 : F35.FT) (x24 : F24.FT) (x25 : F25.FT) (x37 : F37.FT) (x28 : F28.FT) (kd : Int × (Int × Int × List (Int) × Int) × Int) (d : Unit) : unitF (tabC Tryd.prog (tab x29 x33 x32 x23 x36 x35 x24 x25 x37 x28) (pls x29 x33 x32 x23 x36 x35 x24 x25 x37 x28) 100 14) 100 .none (u6 fun _ _ => none) (codeAt [1, 1, 1, 1, 1, 1, 1, 1, 1, 1, 1, 1, 1, 0] (bodyOf Tryd.prog 6)) kd d = r6P x29 x33 x32 x23 x36 x35 x24 x25 x37 x28 kd d := by kernel_rfl
noncomputable def r6 : G6 := r6P F29.f F33.f F32.f F23.f F36.f F35.f F24.f F25.f F37.f F28.f
noncomputable def l6 : G6 := r6
theorem ok6 : UnOk Tryd.prog (u6 l6) (codeAt [1, 1, 1, 1, 1, 1, 1, 1, 1, 1, 1, 1, 1, 0] (bodyOf Tryd.prog 6)) :=
  blockT (p := .none) (fuel := 100) (depth := 14) mixed tabS plsP trivial (fun kd d =>  r6e F29.f F33.f F32.f F23.f F36.f F35.f F24.f F25.f F37.f F28.f kd d)
def fP (x29 : F29.FT) (x33 : F33.FT) (x32 : F32.FT) (x23 : F23.FT) (x36 : F36.FT) (x35 : F35.FT) (x24 : F24.FT) (x25 : F25.FT) (x37 : F37.FT) (x28 : F28.FT) (l1 : G1) (l2 : G2) (l3 : G3) (l4 : G4) (l5 : G5) (l6 : G6) : FT := fun ((l0, l1_2, l2_2), out) =>
    (l1 (IntKind.u8.wrap ((1 : Int) + l0.tmod (16 : Int))) ([], (0 : Int))).bind fun r0 =>
      bif decide ((↑(List.length r0.snd) : Int) ≠ (0 : Int)) then
       bif
       decide
       ((0 : Int) ≤ (IntKind.i64.wrap l1_2).tmod (↑(List.length r0.snd) : Int) ∧
       (IntKind.i64.wrap l1_2).tmod (↑(List.length r0.snd) : Int) < (↑(List.length r0.snd) : Int) ∧
       (0 : Nat) < List.length r0.snd) then
       bif
       decide
       ((0 : Nat) + ((IntKind.i64.wrap l1_2).tmod (↑(List.length r0.snd) : Int)).toNat < List.length r0.snd) then
       bif decide ((0 : Nat) + List.length r0.snd ≤ List.length r0.snd) && true then
       (x33 (List.take (List.length r0.snd) (List.drop (0 : Nat) r0.snd))).bind fun r1 =>
       bif decide ((0 : Nat) + List.length r1.fst ≤ List.length r1.fst) && true then
       (x32
       (List.take (List.length r1.fst) (List.drop (0 : Nat) r1.fst),
       List.getD r0.snd
       ((0 : Nat) + ((IntKind.i64.wrap l1_2).tmod (↑(List.length r0.snd) : Int)).toNat)
       (0 : Int))).bind
       fun r2 =>
       bif decide ((↑(List.length r0.snd) : Int) ≠ (0 : Int)) then
       bif
       decide
       ((0 : Int) ≤ (IntKind.i64.wrap l2_2).tmod (↑(List.length r0.snd) : Int) ∧
       (IntKind.i64.wrap l2_2).tmod (↑(List.length r0.snd) : Int) < (↑(List.length r0.snd) : Int) ∧
       (0 : Nat) < List.length r0.snd) then
       bif
       decide
       ((0 : Nat) + ((IntKind.i64.wrap l2_2).tmod (↑(List.length r0.snd) : Int)).toNat <
       List.length r0.snd) then
       bif decide ((0 : Nat) + List.length r0.snd ≤ List.length r0.snd) && true then
       (x33 (List.take (List.length r0.snd) (List.drop (0 : Nat) r0.snd))).bind fun r3 =>
       bif decide ((0 : Nat) + List.length r3.fst ≤ List.length r3.fst) && true then
       (x32
       (List.take (List.length r3.fst) (List.drop (0 : Nat) r3.fst),
       List.getD r0.snd
       ((0 : Nat) + ((IntKind.i64.wrap l2_2).tmod (↑(List.length r0.snd) : Int)).toNat)
       (0 : Int))).bind
       fun r4 =>
       bif decide ((0 : Nat) + List.length r0.snd ≤ List.length r0.snd) && true then
       bif decide ((0 : Nat) + List.length r2.fst ≤ List.length r2.fst) && true then
       bif decide ((0 : Nat) + List.length r4.fst ≤ List.length r4.fst) && true then
       (l2
       (List.take (List.length r0.snd) (List.drop (0 : Nat) r0.snd),
       (List.getD r0.snd
       ((0 : Nat) +
       ((IntKind.i64.wrap l1_2).tmod (↑(List.length r0.snd) : Int)).toNat)
       (0 : Int),
       (100 : Int),
       List.take (List.length r2.fst) (List.drop (0 : Nat) r2.fst),
       IntKind.u32.wrap ((1 : Int) + IntKind.u32.wrap l1_2)),
       List.getD r0.snd
       ((0 : Nat) +
       ((IntKind.i64.wrap l2_2).tmod (↑(List.length r0.snd) : Int)).toNat)
       (0 : Int),
       (100 : Int), List.take (List.length r4.fst) (List.drop (0 : Nat) r4.fst),
       IntKind.u32.wrap ((1 : Int) + IntKind.u32.wrap l2_2))
       PUnit.unit).bind
       fun r5 =>
       bif r5.fst then some (false, PUnit.unit)
       else
       bif
       List.getD r0.snd
       ((0 : Nat) +
       ((IntKind.i64.wrap l1_2).tmod (↑(List.length r0.snd) : Int)).toNat)
       (0 : Int) ==
       List.getD r0.snd
       ((0 : Nat) +
       ((IntKind.i64.wrap l2_2).tmod (↑(List.length r0.snd) : Int)).toNat)
       (0 : Int) then
       bif
       decide ((0 : Nat) + List.length r2.fst ≤ List.length r2.fst) &&
       true then
       bif
       decide ((0 : Nat) + List.length r4.fst ≤ List.length r4.fst) &&
       true then
       (l3
       ((List.getD r0.snd
       ((0 : Nat) +
       ((IntKind.i64.wrap l1_2).tmod
       (↑(List.length r0.snd) : Int)).toNat)
       (0 : Int),
       (100 : Int),
       List.take (List.length r2.fst) (List.drop (0 : Nat) r2.fst),
       IntKind.u32.wrap ((1 : Int) + IntKind.u32.wrap l1_2)),
       (List.getD r0.snd
       ((0 : Nat) +
       ((IntKind.i64.wrap l2_2).tmod
       (↑(List.length r0.snd) : Int)).toNat)
       (0 : Int),
       (100 : Int),
       List.take (List.length r4.fst) (List.drop (0 : Nat) r4.fst),
       IntKind.u32.wrap ((1 : Int) + IntKind.u32.wrap l2_2)),
       (1 : Int))
       PUnit.unit).bind
       fun r6 =>
       bif r6.fst then some (false, PUnit.unit)
       else
       bif
       decide ((0 : Nat) + List.length r2.fst ≤ List.length r2.fst) &&
       true then
       (l4
       (List.getD r0.snd
       ((0 : Nat) +
       ((IntKind.i64.wrap l1_2).tmod
       (↑(List.length r0.snd) : Int)).toNat)
       (0 : Int),
       (100 : Int),
       List.take (List.length r2.fst)
       (List.drop (0 : Nat) r2.fst),
       IntKind.u32.wrap ((1 : Int) + IntKind.u32.wrap l1_2))
       PUnit.unit).bind
       fun r7 =>
       bif r7.fst then some (false, PUnit.unit)
       else
       bif
       decide
       ((0 : Nat) + List.length r0.snd ≤
       List.length r0.snd) &&
       true then
       (l5
       (out,
       List.take (List.length r0.snd)
       (List.drop (0 : Nat) r0.snd))
       PUnit.unit).bind
       fun r8 =>
       bif r8.fst then some (true, PUnit.unit)
       else
       bif
       decide
       ((0 : Nat) + List.length r2.fst ≤
       List.length r2.fst) &&
       true then
       (x24
       ((List.getD r0.snd
       ((0 : Nat) +
       ((IntKind.i64.wrap l1_2).tmod
       (↑(List.length r0.snd) :
       Int)).toNat)
       (0 : Int),
       (100 : Int),
       List.take (List.length r2.fst)
       (List.drop (0 : Nat) r2.fst),
       IntKind.u32.wrap
       ((1 : Int) + IntKind.u32.wrap l1_2)),
       out)).bind
       fun r9 =>
       bif
       decide
       ((0 : Nat) + List.length r4.fst ≤
       List.length r4.fst) &&
       true then
       (l6
       (out,
       (List.getD r0.snd
       ((0 : Nat) +
       ((IntKind.i64.wrap l2_2).tmod
       (↑(List.length r0.snd) :
       Int)).toNat)
       (0 : Int),
       (100 : Int),
       List.take (List.length r4.fst)
       (List.drop (0 : Nat) r4.fst),
       IntKind.u32.wrap
       ((1 : Int) + IntKind.u32.wrap l2_2)),
       r9.fst)
       PUnit.unit).bind
       fun r10 => some (r10.fst, PUnit.unit)
       else none
       else none
       else none
       else none
       else none
       else none
       else
       bif
       decide ((0 : Nat) + List.length r2.fst ≤ List.length r2.fst) &&
       true then
       bif
       decide ((0 : Nat) + List.length r4.fst ≤ List.length r4.fst) &&
       true then
       (l3
       ((List.getD r0.snd
       ((0 : Nat) +
       ((IntKind.i64.wrap l1_2).tmod
       (↑(List.length r0.snd) : Int)).toNat)
       (0 : Int),
       (100 : Int),
       List.take (List.length r2.fst) (List.drop (0 : Nat) r2.fst),
       IntKind.u32.wrap ((1 : Int) + IntKind.u32.wrap l1_2)),
       (List.getD r0.snd
       ((0 : Nat) +
       ((IntKind.i64.wrap l2_2).tmod
       (↑(List.length r0.snd) : Int)).toNat)
       (0 : Int),
       (100 : Int),
       List.take (List.length r4.fst) (List.drop (0 : Nat) r4.fst),
       IntKind.u32.wrap ((1 : Int) + IntKind.u32.wrap l2_2)),
       (2 : Int))
       PUnit.unit).bind
       fun r6 =>
       bif r6.fst then some (false, PUnit.unit)
       else
       bif
       decide ((0 : Nat) + List.length r2.fst ≤ List.length r2.fst) &&
       true then
       (l4
       (List.getD r0.snd
       ((0 : Nat) +
       ((IntKind.i64.wrap l1_2).tmod
       (↑(List.length r0.snd) : Int)).toNat)
       (0 : Int),
       (100 : Int),
       List.take (List.length r2.fst)
       (List.drop (0 : Nat) r2.fst),
       IntKind.u32.wrap ((1 : Int) + IntKind.u32.wrap l1_2))
       PUnit.unit).bind
       fun r7 =>
       bif r7.fst then some (false, PUnit.unit)
       else
       bif
       decide
       ((0 : Nat) + List.length r0.snd ≤
       List.length r0.snd) &&
       true then
       (l5
       (out,
       List.take (List.length r0.snd)
       (List.drop (0 : Nat) r0.snd))
       PUnit.unit).bind
       fun r8 =>
       bif r8.fst then some (true, PUnit.unit)
       else
       bif
       decide
       ((0 : Nat) + List.length r2.fst ≤
       List.length r2.fst) &&
       true then
       (x24
       ((List.getD r0.snd
       ((0 : Nat) +
       ((IntKind.i64.wrap l1_2).tmod
       (↑(List.length r0.snd) :
       Int)).toNat)
       (0 : Int),
       (100 : Int),
       List.take (List.length r2.fst)
       (List.drop (0 : Nat) r2.fst),
       IntKind.u32.wrap
       ((1 : Int) + IntKind.u32.wrap l1_2)),
       out)).bind
       fun r9 =>
       bif
       decide
       ((0 : Nat) + List.length r4.fst ≤
       List.length r4.fst) &&
       true then
       (l6
       (out,
       (List.getD r0.snd
       ((0 : Nat) +
       ((IntKind.i64.wrap l2_2).tmod
       (↑(List.length r0.snd) :
       Int)).toNat)
       (0 : Int),
       (100 : Int),
       List.take (List.length r4.fst)
       (List.drop (0 : Nat) r4.fst),
       IntKind.u32.wrap
       ((1 : Int) + IntKind.u32.wrap l2_2)),
       r9.fst)
       PUnit.unit).bind
       fun r10 => some (r10.fst, PUnit.unit)
       else none
       else none
       else none
       else none
       else none
       else none
       else none
       else none
       else none
       else none
       else none
       else none
       else none
       else none
       else none
       else none
       else none
       else none
      else none
theorem fe (x29 : F29.FT) (x33 : F33.FT) (x32 : F32.FT) (x23 : F23.FT) (x36 : F36.FT) (x35 : F35.FT) (x24 : F24.FT) (x25 : F25.FT) (x37 : F37.FT) (x28 : F28.FT) (l1 : G1) (l2 : G2) (l3 : G3) (l4 : G4) (l5 : G5) (l6 : G6) (d : (Int × Int × Int) × Int) : bodyF (tabC Tryd.prog (tab x29 x33 x32 x23 x36 x35 x24 x25 x37 x28) ((6, (.node .none (.node .none (.node .none (.node (.node .none (.node (.unit (u1 l1)) .none)) (.node .none (.node .none (.node (.node (.unit (u2 l2)) .none) (.node .none (.node .none (.node (.node (.unit (u3 l3)) .none) (.node (.node (.unit (u4 l4)) .none) (.node (.node (.unit (u5 l5)) .none) (.node .none (.node (.unit (u6 l6)) .none))))))))))))))) :: pls x29 x33 x32 x23 x36 x35 x24 x25 x37 x28) 100 14) 100 6 i o d = fP x29 x33 x32 x23 x36 x35 x24 x25 x37 x28 l1 l2 l3 l4 l5 l6 d := by kernel_rfl
noncomputable def f : FT := fP F29.f F33.f F32.f F23.f F36.f F35.f F24.f F25.f F37.f F28.f l1 l2 l3 l4 l5 l6
def plan (l1 : G1) (l2 : G2) (l3 : G3) (l4 : G4) (l5 : G5) (l6 : G6) : Plan := (.node .none (.node .none (.node .none (.node (.node .none (.node (.unit (u1 l1)) .none)) (.node .none (.node .none (.node (.node (.unit (u2 l2)) .none) (.node .none (.node .none (.node (.node (.unit (u3 l3)) .none) (.node (.node (.unit (u4 l4)) .none) (.node (.node (.unit (u5 l5)) .none) (.node .none (.node (.unit (u6 l6)) .none))))))))))))))
theorem planOk : PlanOk Tryd.prog (plan l1 l2 l3 l4 l5 l6) (bodyOf Tryd.prog 6) := (planOk_of (plan l1 l2 l3 l4 l5 l6) _ [([1, 1, 1, 0, 1, 0], u1 l1), ([1, 1, 1, 1, 1, 1, 0, 0], u2 l2), ([1, 1, 1, 1, 1, 1, 1, 1, 1, 0, 0], u3 l3), ([1, 1, 1, 1, 1, 1, 1, 1, 1, 1, 0, 0], u4 l4), ([1, 1, 1, 1, 1, 1, 1, 1, 1, 1, 1, 0, 0], u5 l5), ([1, 1, 1, 1, 1, 1, 1, 1, 1, 1, 1, 1, 1, 0], u6 l6)] rfl ⟨ok1, ok2, ok3, ok4, ok5, ok6, trivial⟩)
theorem meets : MeetsF Tryd.prog 6 ⟨i, o, f⟩ :=
  funcT (fuel := 100) (depth := 14) (pl := (6, plan l1 l2 l3 l4 l5 l6) :: pls F29.f F33.f F32.f F23.f F36.f F35.f F24.f F25.f F37.f F28.f) mixed tabS ⟨planOk, plsP⟩ (fun d =>  fe F29.f F33.f F32.f F23.f F36.f F35.f F24.f F25.f F37.f F28.f l1 l2 l3 l4 l5 l6 d)
theorem spec : SpecOk Tryd.prog (fun _ => none) 6 (specF ⟨i, o, f⟩) := specF_ok (by kernel_rfl) meets
end Go.Proofs.YtpfbpcaehmhefaaDoorB.F6
