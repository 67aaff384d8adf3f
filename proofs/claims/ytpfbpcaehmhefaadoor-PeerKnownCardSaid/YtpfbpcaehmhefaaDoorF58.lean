/- What comes of function 58 of this program, consulate.number.Kind, as the engine gives it. -/
import Derived.Test.YtpfbpcaehmhefaaDoorChecked
import Derived.Test.YtpfbpcaehmhefaaDoorZN
namespace Go.Proofs.YtpfbpcaehmhefaaDoor.F58
open Go Go.Proofs Go.Proofs.YtpfbpcaehmhefaaDoor Go.RowKit Go.Proofs.YtpfbpcaehmhefaaDoor.Sx
set_option linter.unusedVariables false
set_option maxRecDepth 100000
def tab : List (FuncId × Sx.Spec) := []
def pls : List (FuncId × Plan) := []
@[reducible] def i : Sh := .sc (.int .u32) .nil
@[reducible] def o : Sh := .sc (.int .i64) .nil
abbrev FT := Int → Option (Int × Unit)
theorem tabS : AllS Tryd.prog (tab) := trivial
theorem plsP : AllP Tryd.prog (pls) := trivial
theorem mixed : Tryd.prog.follows .mixedOrders = true := by kernel_rfl
def fP : FT := fun n =>
    bif decide (n ≥ 0) then
      bif decide (n ≤ 0) then some (1, PUnit.unit)
      else
        bif decide (n ≥ 23456) then
          bif decide (n ≤ 23456) then some (2, PUnit.unit)
          else
            bif decide (n ≥ 64512) then
              bif decide (n ≤ 65534) then some (3, PUnit.unit)
              else
                bif decide (n ≥ 4200000000) then
                  bif decide (n ≤ 4294967294) then some (3, PUnit.unit)
                  else
                    bif decide (n ≥ 64496) then
                      bif decide (n ≤ 64511) then some (4, PUnit.unit)
                      else
                        bif decide (n ≥ 65535) then
                          bif decide (n ≤ 65551) then some (4, PUnit.unit)
                          else
                            bif decide (n ≥ 4294967295) then
                              bif decide (n ≤ 4294967295) then some (4, PUnit.unit) else some (5, PUnit.unit)
                            else some (5, PUnit.unit)
                        else
                          bif decide (n ≥ 4294967295) then
                            bif decide (n ≤ 4294967295) then some (4, PUnit.unit) else some (5, PUnit.unit)
                          else some (5, PUnit.unit)
                    else
                      bif decide (n ≥ 65535) then
                        bif decide (n ≤ 65551) then some (4, PUnit.unit)
                        else
                          bif decide (n ≥ 4294967295) then
                            bif decide (n ≤ 4294967295) then some (4, PUnit.unit) else some (5, PUnit.unit)
                          else some (5, PUnit.unit)
                      else
                        bif decide (n ≥ 4294967295) then
                          bif decide (n ≤ 4294967295) then some (4, PUnit.unit) else some (5, PUnit.unit)
                        else some (5, PUnit.unit)
                else
                  bif decide (n ≥ 64496) then
                    bif decide (n ≤ 64511) then some (4, PUnit.unit)
                    else
                      bif decide (n ≥ 65535) then
                        bif decide (n ≤ 65551) then some (4, PUnit.unit)
                        else
                          bif decide (n ≥ 4294967295) then
                            bif decide (n ≤ 4294967295) then some (4, PUnit.unit) else some (5, PUnit.unit)
                          else some (5, PUnit.unit)
                      else
                        bif decide (n ≥ 4294967295) then
                          bif decide (n ≤ 4294967295) then some (4, PUnit.unit) else some (5, PUnit.unit)
                        else some (5, PUnit.unit)
                  else
                    bif decide (n ≥ 65535) then
                      bif decide (n ≤ 65551) then some (4, PUnit.unit)
                      else
                        bif decide (n ≥ 4294967295) then
                          bif decide (n ≤ 4294967295) then some (4, PUnit.unit) else some (5, PUnit.unit)
                        else some (5, PUnit.unit)
                    else
                      bif decide (n ≥ 4294967295) then
                        bif decide (n ≤ 4294967295) then some (4, PUnit.unit) else some (5, PUnit.unit)
                      else some (5, PUnit.unit)
            else
              bif decide (n ≥ 4200000000) then
                bif decide (n ≤ 4294967294) then some (3, PUnit.unit)
                else
                  bif decide (n ≥ 64496) then
                    bif decide (n ≤ 64511) then some (4, PUnit.unit)
                    else
                      bif decide (n ≥ 65535) then
                        bif decide (n ≤ 65551) then some (4, PUnit.unit)
                        else
                          bif decide (n ≥ 4294967295) then
                            bif decide (n ≤ 4294967295) then some (4, PUnit.unit) else some (5, PUnit.unit)
                          else some (5, PUnit.unit)
                      else
                        bif decide (n ≥ 4294967295) then
                          bif decide (n ≤ 4294967295) then some (4, PUnit.unit) else some (5, PUnit.unit)
                        else some (5, PUnit.unit)
                  else
                    bif decide (n ≥ 65535) then
                      bif decide (n ≤ 65551) then some (4, PUnit.unit)
                      else
                        bif decide (n ≥ 4294967295) then
                          bif decide (n ≤ 4294967295) then some (4, PUnit.unit) else some (5, PUnit.unit)
                        else some (5, PUnit.unit)
                    else
                      bif decide (n ≥ 4294967295) then
                        bif decide (n ≤ 4294967295) then some (4, PUnit.unit) else some (5, PUnit.unit)
                      else some (5, PUnit.unit)
              else
                bif decide (n ≥ 64496) then
                  bif decide (n ≤ 64511) then some (4, PUnit.unit)
                  else
                    bif decide (n ≥ 65535) then
                      bif decide (n ≤ 65551) then some (4, PUnit.unit)
                      else
                        bif decide (n ≥ 4294967295) then
                          bif decide (n ≤ 4294967295) then some (4, PUnit.unit) else some (5, PUnit.unit)
                        else some (5, PUnit.unit)
                    else
                      bif decide (n ≥ 4294967295) then
                        bif decide (n ≤ 4294967295) then some (4, PUnit.unit) else some (5, PUnit.unit)
                      else some (5, PUnit.unit)
                else
                  bif decide (n ≥ 65535) then
                    bif decide (n ≤ 65551) then some (4, PUnit.unit)
                    else
                      bif decide (n ≥ 4294967295) then
                        bif decide (n ≤ 4294967295) then some (4, PUnit.unit) else some (5, PUnit.unit)
                      else some (5, PUnit.unit)
                  else
                    bif decide (n ≥ 4294967295) then
                      bif decide (n ≤ 4294967295) then some (4, PUnit.unit) else some (5, PUnit.unit)
                    else some (5, PUnit.unit)
        else
          bif decide (n ≥ 64512) then
            bif decide (n ≤ 65534) then some (3, PUnit.unit)
            else
              bif decide (n ≥ 4200000000) then
                bif decide (n ≤ 4294967294) then some (3, PUnit.unit)
                else
                  bif decide (n ≥ 64496) then
                    bif decide (n ≤ 64511) then some (4, PUnit.unit)
                    else
                      bif decide (n ≥ 65535) then
                        bif decide (n ≤ 65551) then some (4, PUnit.unit)
                        else
                          bif decide (n ≥ 4294967295) then
                            bif decide (n ≤ 4294967295) then some (4, PUnit.unit) else some (5, PUnit.unit)
                          else some (5, PUnit.unit)
                      else
                        bif decide (n ≥ 4294967295) then
                          bif decide (n ≤ 4294967295) then some (4, PUnit.unit) else some (5, PUnit.unit)
                        else some (5, PUnit.unit)
                  else
                    bif decide (n ≥ 65535) then
                      bif decide (n ≤ 65551) then some (4, PUnit.unit)
                      else
                        bif decide (n ≥ 4294967295) then
                          bif decide (n ≤ 4294967295) then some (4, PUnit.unit) else some (5, PUnit.unit)
                        else some (5, PUnit.unit)
                    else
                      bif decide (n ≥ 4294967295) then
                        bif decide (n ≤ 4294967295) then some (4, PUnit.unit) else some (5, PUnit.unit)
                      else some (5, PUnit.unit)
              else
                bif decide (n ≥ 64496) then
                  bif decide (n ≤ 64511) then some (4, PUnit.unit)
                  else
                    bif decide (n ≥ 65535) then
                      bif decide (n ≤ 65551) then some (4, PUnit.unit)
                      else
                        bif decide (n ≥ 4294967295) then
                          bif decide (n ≤ 4294967295) then some (4, PUnit.unit) else some (5, PUnit.unit)
                        else some (5, PUnit.unit)
                    else
                      bif decide (n ≥ 4294967295) then
                        bif decide (n ≤ 4294967295) then some (4, PUnit.unit) else some (5, PUnit.unit)
                      else some (5, PUnit.unit)
                else
                  bif decide (n ≥ 65535) then
                    bif decide (n ≤ 65551) then some (4, PUnit.unit)
                    else
                      bif decide (n ≥ 4294967295) then
                        bif decide (n ≤ 4294967295) then some (4, PUnit.unit) else some (5, PUnit.unit)
                      else some (5, PUnit.unit)
                  else
                    bif decide (n ≥ 4294967295) then
                      bif decide (n ≤ 4294967295) then some (4, PUnit.unit) else some (5, PUnit.unit)
                    else some (5, PUnit.unit)
          else
            bif decide (n ≥ 4200000000) then
              bif decide (n ≤ 4294967294) then some (3, PUnit.unit)
              else
                bif decide (n ≥ 64496) then
                  bif decide (n ≤ 64511) then some (4, PUnit.unit)
                  else
                    bif decide (n ≥ 65535) then
                      bif decide (n ≤ 65551) then some (4, PUnit.unit)
                      else
                        bif decide (n ≥ 4294967295) then
                          bif decide (n ≤ 4294967295) then some (4, PUnit.unit) else some (5, PUnit.unit)
                        else some (5, PUnit.unit)
                    else
                      bif decide (n ≥ 4294967295) then
                        bif decide (n ≤ 4294967295) then some (4, PUnit.unit) else some (5, PUnit.unit)
                      else some (5, PUnit.unit)
                else
                  bif decide (n ≥ 65535) then
                    bif decide (n ≤ 65551) then some (4, PUnit.unit)
                    else
                      bif decide (n ≥ 4294967295) then
                        bif decide (n ≤ 4294967295) then some (4, PUnit.unit) else some (5, PUnit.unit)
                      else some (5, PUnit.unit)
                  else
                    bif decide (n ≥ 4294967295) then
                      bif decide (n ≤ 4294967295) then some (4, PUnit.unit) else some (5, PUnit.unit)
                    else some (5, PUnit.unit)
            else
              bif decide (n ≥ 64496) then
                bif decide (n ≤ 64511) then some (4, PUnit.unit)
                else
                  bif decide (n ≥ 65535) then
                    bif decide (n ≤ 65551) then some (4, PUnit.unit)
                    else
                      bif decide (n ≥ 4294967295) then
                        bif decide (n ≤ 4294967295) then some (4, PUnit.unit) else some (5, PUnit.unit)
                      else some (5, PUnit.unit)
                  else
                    bif decide (n ≥ 4294967295) then
                      bif decide (n ≤ 4294967295) then some (4, PUnit.unit) else some (5, PUnit.unit)
                    else some (5, PUnit.unit)
              else
                bif decide (n ≥ 65535) then
                  bif decide (n ≤ 65551) then some (4, PUnit.unit)
                  else
                    bif decide (n ≥ 4294967295) then
                      bif decide (n ≤ 4294967295) then some (4, PUnit.unit) else some (5, PUnit.unit)
                    else some (5, PUnit.unit)
                else
                  bif decide (n ≥ 4294967295) then
                    bif decide (n ≤ 4294967295) then some (4, PUnit.unit) else some (5, PUnit.unit)
                  else some (5, PUnit.unit)
    else
      bif decide (n ≥ 23456) then
        bif decide (n ≤ 23456) then some (2, PUnit.unit)
        else
          bif decide (n ≥ 64512) then
            bif decide (n ≤ 65534) then some (3, PUnit.unit)
            else
              bif decide (n ≥ 4200000000) then
                bif decide (n ≤ 4294967294) then some (3, PUnit.unit)
                else
                  bif decide (n ≥ 64496) then
                    bif decide (n ≤ 64511) then some (4, PUnit.unit)
                    else
                      bif decide (n ≥ 65535) then
                        bif decide (n ≤ 65551) then some (4, PUnit.unit)
                        else
                          bif decide (n ≥ 4294967295) then
                            bif decide (n ≤ 4294967295) then some (4, PUnit.unit) else some (5, PUnit.unit)
                          else some (5, PUnit.unit)
                      else
                        bif decide (n ≥ 4294967295) then
                          bif decide (n ≤ 4294967295) then some (4, PUnit.unit) else some (5, PUnit.unit)
                        else some (5, PUnit.unit)
                  else
                    bif decide (n ≥ 65535) then
                      bif decide (n ≤ 65551) then some (4, PUnit.unit)
                      else
                        bif decide (n ≥ 4294967295) then
                          bif decide (n ≤ 4294967295) then some (4, PUnit.unit) else some (5, PUnit.unit)
                        else some (5, PUnit.unit)
                    else
                      bif decide (n ≥ 4294967295) then
                        bif decide (n ≤ 4294967295) then some (4, PUnit.unit) else some (5, PUnit.unit)
                      else some (5, PUnit.unit)
              else
                bif decide (n ≥ 64496) then
                  bif decide (n ≤ 64511) then some (4, PUnit.unit)
                  else
                    bif decide (n ≥ 65535) then
                      bif decide (n ≤ 65551) then some (4, PUnit.unit)
                      else
                        bif decide (n ≥ 4294967295) then
                          bif decide (n ≤ 4294967295) then some (4, PUnit.unit) else some (5, PUnit.unit)
                        else some (5, PUnit.unit)
                    else
                      bif decide (n ≥ 4294967295) then
                        bif decide (n ≤ 4294967295) then some (4, PUnit.unit) else some (5, PUnit.unit)
                      else some (5, PUnit.unit)
                else
                  bif decide (n ≥ 65535) then
                    bif decide (n ≤ 65551) then some (4, PUnit.unit)
                    else
                      bif decide (n ≥ 4294967295) then
                        bif decide (n ≤ 4294967295) then some (4, PUnit.unit) else some (5, PUnit.unit)
                      else some (5, PUnit.unit)
                  else
                    bif decide (n ≥ 4294967295) then
                      bif decide (n ≤ 4294967295) then some (4, PUnit.unit) else some (5, PUnit.unit)
                    else some (5, PUnit.unit)
          else
            bif decide (n ≥ 4200000000) then
              bif decide (n ≤ 4294967294) then some (3, PUnit.unit)
              else
                bif decide (n ≥ 64496) then
                  bif decide (n ≤ 64511) then some (4, PUnit.unit)
                  else
                    bif decide (n ≥ 65535) then
                      bif decide (n ≤ 65551) then some (4, PUnit.unit)
                      else
                        bif decide (n ≥ 4294967295) then
                          bif decide (n ≤ 4294967295) then some (4, PUnit.unit) else some (5, PUnit.unit)
                        else some (5, PUnit.unit)
                    else
                      bif decide (n ≥ 4294967295) then
                        bif decide (n ≤ 4294967295) then some (4, PUnit.unit) else some (5, PUnit.unit)
                      else some (5, PUnit.unit)
                else
                  bif decide (n ≥ 65535) then
                    bif decide (n ≤ 65551) then some (4, PUnit.unit)
                    else
                      bif decide (n ≥ 4294967295) then
                        bif decide (n ≤ 4294967295) then some (4, PUnit.unit) else some (5, PUnit.unit)
                      else some (5, PUnit.unit)
                  else
                    bif decide (n ≥ 4294967295) then
                      bif decide (n ≤ 4294967295) then some (4, PUnit.unit) else some (5, PUnit.unit)
                    else some (5, PUnit.unit)
            else
              bif decide (n ≥ 64496) then
                bif decide (n ≤ 64511) then some (4, PUnit.unit)
                else
                  bif decide (n ≥ 65535) then
                    bif decide (n ≤ 65551) then some (4, PUnit.unit)
                    else
                      bif decide (n ≥ 4294967295) then
                        bif decide (n ≤ 4294967295) then some (4, PUnit.unit) else some (5, PUnit.unit)
                      else some (5, PUnit.unit)
                  else
                    bif decide (n ≥ 4294967295) then
                      bif decide (n ≤ 4294967295) then some (4, PUnit.unit) else some (5, PUnit.unit)
                    else some (5, PUnit.unit)
              else
                bif decide (n ≥ 65535) then
                  bif decide (n ≤ 65551) then some (4, PUnit.unit)
                  else
                    bif decide (n ≥ 4294967295) then
                      bif decide (n ≤ 4294967295) then some (4, PUnit.unit) else some (5, PUnit.unit)
                    else some (5, PUnit.unit)
                else
                  bif decide (n ≥ 4294967295) then
                    bif decide (n ≤ 4294967295) then some (4, PUnit.unit) else some (5, PUnit.unit)
                  else some (5, PUnit.unit)
      else
        bif decide (n ≥ 64512) then
          bif decide (n ≤ 65534) then some (3, PUnit.unit)
          else
            bif decide (n ≥ 4200000000) then
              bif decide (n ≤ 4294967294) then some (3, PUnit.unit)
              else
                bif decide (n ≥ 64496) then
                  bif decide (n ≤ 64511) then some (4, PUnit.unit)
                  else
                    bif decide (n ≥ 65535) then
                      bif decide (n ≤ 65551) then some (4, PUnit.unit)
                      else
                        bif decide (n ≥ 4294967295) then
                          bif decide (n ≤ 4294967295) then some (4, PUnit.unit) else some (5, PUnit.unit)
                        else some (5, PUnit.unit)
                    else
                      bif decide (n ≥ 4294967295) then
                        bif decide (n ≤ 4294967295) then some (4, PUnit.unit) else some (5, PUnit.unit)
                      else some (5, PUnit.unit)
                else
                  bif decide (n ≥ 65535) then
                    bif decide (n ≤ 65551) then some (4, PUnit.unit)
                    else
                      bif decide (n ≥ 4294967295) then
                        bif decide (n ≤ 4294967295) then some (4, PUnit.unit) else some (5, PUnit.unit)
                      else some (5, PUnit.unit)
                  else
                    bif decide (n ≥ 4294967295) then
                      bif decide (n ≤ 4294967295) then some (4, PUnit.unit) else some (5, PUnit.unit)
                    else some (5, PUnit.unit)
            else
              bif decide (n ≥ 64496) then
                bif decide (n ≤ 64511) then some (4, PUnit.unit)
                else
                  bif decide (n ≥ 65535) then
                    bif decide (n ≤ 65551) then some (4, PUnit.unit)
                    else
                      bif decide (n ≥ 4294967295) then
                        bif decide (n ≤ 4294967295) then some (4, PUnit.unit) else some (5, PUnit.unit)
                      else some (5, PUnit.unit)
                  else
                    bif decide (n ≥ 4294967295) then
                      bif decide (n ≤ 4294967295) then some (4, PUnit.unit) else some (5, PUnit.unit)
                    else some (5, PUnit.unit)
              else
                bif decide (n ≥ 65535) then
                  bif decide (n ≤ 65551) then some (4, PUnit.unit)
                  else
                    bif decide (n ≥ 4294967295) then
                      bif decide (n ≤ 4294967295) then some (4, PUnit.unit) else some (5, PUnit.unit)
                    else some (5, PUnit.unit)
                else
                  bif decide (n ≥ 4294967295) then
                    bif decide (n ≤ 4294967295) then some (4, PUnit.unit) else some (5, PUnit.unit)
                  else some (5, PUnit.unit)
        else
          bif decide (n ≥ 4200000000) then
            bif decide (n ≤ 4294967294) then some (3, PUnit.unit)
            else
              bif decide (n ≥ 64496) then
                bif decide (n ≤ 64511) then some (4, PUnit.unit)
                else
                  bif decide (n ≥ 65535) then
                    bif decide (n ≤ 65551) then some (4, PUnit.unit)
                    else
                      bif decide (n ≥ 4294967295) then
                        bif decide (n ≤ 4294967295) then some (4, PUnit.unit) else some (5, PUnit.unit)
                      else some (5, PUnit.unit)
                  else
                    bif decide (n ≥ 4294967295) then
                      bif decide (n ≤ 4294967295) then some (4, PUnit.unit) else some (5, PUnit.unit)
                    else some (5, PUnit.unit)
              else
                bif decide (n ≥ 65535) then
                  bif decide (n ≤ 65551) then some (4, PUnit.unit)
                  else
                    bif decide (n ≥ 4294967295) then
                      bif decide (n ≤ 4294967295) then some (4, PUnit.unit) else some (5, PUnit.unit)
                    else some (5, PUnit.unit)
                else
                  bif decide (n ≥ 4294967295) then
                    bif decide (n ≤ 4294967295) then some (4, PUnit.unit) else some (5, PUnit.unit)
                  else some (5, PUnit.unit)
          else
            bif decide (n ≥ 64496) then
              bif decide (n ≤ 64511) then some (4, PUnit.unit)
              else
                bif decide (n ≥ 65535) then
                  bif decide (n ≤ 65551) then some (4, PUnit.unit)
                  else
                    bif decide (n ≥ 4294967295) then
                      bif decide (n ≤ 4294967295) then some (4, PUnit.unit) else some (5, PUnit.unit)
                    else some (5, PUnit.unit)
                else
                  bif decide (n ≥ 4294967295) then
                    bif decide (n ≤ 4294967295) then some (4, PUnit.unit) else some (5, PUnit.unit)
                  else some (5, PUnit.unit)
            else
              bif decide (n ≥ 65535) then
                bif decide (n ≤ 65551) then some (4, PUnit.unit)
                else
                  bif decide (n ≥ 4294967295) then
                    bif decide (n ≤ 4294967295) then some (4, PUnit.unit) else some (5, PUnit.unit)
                  else some (5, PUnit.unit)
              else
                bif decide (n ≥ 4294967295) then
                  bif decide (n ≤ 4294967295) then some (4, PUnit.unit) else some (5, PUnit.unit)
                else some (5, PUnit.unit)
theorem fe (d : Int) : bodyF (tabC Tryd.prog (tab) ((58, .none) :: pls) 100 14) 100 58 i o d = fP d := by kernel_rfl
noncomputable def f : FT := fP
def plan : Plan := .none
theorem planOk : PlanOk Tryd.prog (plan) (bodyOf Tryd.prog 58) := (planOk_of (plan) _ [] (by kernel_rfl) trivial)
theorem meets : MeetsF Tryd.prog 58 ⟨i, o, f⟩ :=
  funcT (fuel := 100) (depth := 14) (pl := (58, plan) :: pls) mixed tabS ⟨planOk, plsP⟩ (fun d => fe  d)
theorem spec : SpecOk Tryd.prog (fun _ => none) 58 (specF ⟨i, o, f⟩) := specF_ok (by kernel_rfl) meets
end Go.Proofs.YtpfbpcaehmhefaaDoor.F58
