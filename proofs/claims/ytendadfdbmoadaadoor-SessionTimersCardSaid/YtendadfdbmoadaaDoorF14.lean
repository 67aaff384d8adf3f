/- What comes of function 14 of this program, (*consulate.consulatelaw14.watch).does, as the engine gives it. -/
import Derived.Test.YtendadfdbmoadaaDoorChecked
import Derived.Test.YtendadfdbmoadaaDoorZN
namespace Go.Proofs.YtendadfdbmoadaaDoor.F14
open Go Go.Proofs Go.Proofs.YtendadfdbmoadaaDoor Go.RowKit Go.Proofs.YtendadfdbmoadaaDoor.Sx
set_option linter.unusedVariables false
set_option maxRecDepth 100000
def tab : List (FuncId × Sx.Spec) := []
def pls : List (FuncId × Plan) := []
@[reducible] def i : Sh := .pt true 46 (.sc .bool (.sc .bool (.sc .bool (.sc .bool (.sc .bool (.sc .bool (.sc .bool (.sc .bool (.sc .bool .nil))))))))) (.ag (.sc (.int .i64) (.sc (.int .u8) (.sc (.int .i64) (.sc (.int .u8) (.sc (.int .u8) (.sl false 5 (.sc (.int .u8) .nil) .nil)))))) .nil)
@[reducible] def o : Sh := .sc .bool .nil
abbrev FT := ((Bool × Bool × Bool × Bool × Bool × Bool × Bool × Bool × Bool) × (Int × Int × Int × Int × Int × List (Int))) → Option (Bool × ((Bool × Bool × Bool × Bool × Bool × Bool × Bool × Bool × Bool)))
theorem tabS : AllS Tryd.prog (tab) := trivial
theorem plsP : AllP Tryd.prog (pls) := trivial
theorem mixed : Tryd.prog.follows .mixedOrders = true := by kernel_rfl
def fP : FT := fun ((w0, w1, w2, w3, w4, w5, w6, w7, w8), (a0, a1, a2, a3, a4, a5)) =>
    bif a0 == 1 then
      bif !w0 then some (false, w0, w1, w2, w3, w4, w5, w6, w7, w8)
      else
        bif a0 == 1 then
          bif a1 != 1 then
            bif a1 != 4 then some (false, w0, w1, w2, w3, w4, w5, w6, w7, w8)
            else
              bif w1 then some (true, w0, true, w2, w3, w4, w5, w6, w7, w8)
              else some (true, w0, a1 == 1, w2, w3, w4, w5, w6, w7, w8)
          else
            bif w1 then some (true, w0, true, w2, w3, w4, w5, w6, w7, w8)
            else some (true, w0, a1 == 1, w2, w3, w4, w5, w6, w7, w8)
        else
          bif w1 then some (true, w0, true, w2, w3, w4, w5, w6, w7, w8)
          else some (true, w0, a1 == 1, w2, w3, w4, w5, w6, w7, w8)
    else
      bif a0 == 2 then
        bif !w0 then some (false, w0, w1, w2, w3, w4, w5, w6, w7, w8)
        else
          bif a0 == 1 then
            bif a1 != 1 then
              bif a1 != 4 then some (false, w0, w1, w2, w3, w4, w5, w6, w7, w8)
              else
                bif w1 then some (true, w0, true, w2, w3, w4, w5, w6, w7, w8)
                else some (true, w0, a1 == 1, w2, w3, w4, w5, w6, w7, w8)
            else
              bif w1 then some (true, w0, true, w2, w3, w4, w5, w6, w7, w8)
              else some (true, w0, a1 == 1, w2, w3, w4, w5, w6, w7, w8)
          else
            bif w1 then some (true, w0, true, w2, w3, w4, w5, w6, w7, w8)
            else some (true, w0, a1 == 1, w2, w3, w4, w5, w6, w7, w8)
      else
        bif a0 == 3 then
          bif decide (a1 < 1) then some (false, w0, w1, w2, w3, w4, w5, w6, w7, w8)
          else
            bif decide (a1 > 3) then some (false, w0, w1, w2, w3, w4, w5, w6, w7, w8)
            else
              bif decide (a2 < 1) then some (false, w0, w1, w2, w3, w4, w5, w6, w7, w8)
              else
                bif decide (0 ≤ a1 ∧ a1 < 4) then
                  bif a1.toNat.beq 0 then some (true, w0, w1, w2, w3, w4, true, w6, w7, w8)
                  else
                    bif a1.toNat.beq 1 then some (true, w0, w1, w2, w3, w4, w5, true, w7, w8)
                    else
                      bif a1.toNat.beq 2 then some (true, w0, w1, w2, w3, w4, w5, w6, true, w8)
                      else bif a1.toNat.beq 3 then some (true, w0, w1, w2, w3, w4, w5, w6, w7, true) else none
                else none
        else
          bif a0 == 4 then
            bif decide (a1 < 1) then some (false, w0, w1, w2, w3, w4, w5, w6, w7, w8)
            else
              bif decide (a1 > 3) then some (false, w0, w1, w2, w3, w4, w5, w6, w7, w8)
              else
                bif decide (0 ≤ a1 ∧ a1 < 4) then
                  bif a1.toNat.beq 0 then some (true, w0, w1, w2, w3, w4, false, w6, w7, w8)
                  else
                    bif a1.toNat.beq 1 then some (true, w0, w1, w2, w3, w4, w5, false, w7, w8)
                    else
                      bif a1.toNat.beq 2 then some (true, w0, w1, w2, w3, w4, w5, w6, false, w8)
                      else bif a1.toNat.beq 3 then some (true, w0, w1, w2, w3, w4, w5, w6, w7, false) else none
                else none
          else
            bif a0 == 5 then some (true, false, false, false, false, w4, w5, w6, w7, w8)
            else
              bif a0 == 7 then
                bif w4 then some (false, w0, w1, w2, w3, w4, w5, w6, w7, w8)
                else
                  bif !w0 then some (false, w0, w1, w2, w3, w4, w5, w6, w7, w8)
                  else
                    bif !w1 then some (false, w0, w1, w2, w3, w4, w5, w6, w7, w8)
                    else
                      bif !w2 then some (false, w0, w1, w2, w3, w4, w5, w6, w7, w8)
                      else
                        bif !w3 then some (false, w0, w1, w2, w3, w4, w5, w6, w7, w8)
                        else some (true, w0, w1, w2, w3, true, w5, w6, w7, w8)
              else
                bif a0 == 8 then
                  bif !w4 then some (false, w0, w1, w2, w3, w4, w5, w6, w7, w8)
                  else some (true, w0, w1, w2, w3, false, w5, w6, w7, w8)
                else
                  bif a0 == 9 then some (w4, w0, w1, w2, w3, w4, w5, w6, w7, w8)
                  else some (true, w0, w1, w2, w3, w4, w5, w6, w7, w8)
theorem fe (d : (Bool × Bool × Bool × Bool × Bool × Bool × Bool × Bool × Bool) × (Int × Int × Int × Int × Int × List (Int))) : bodyF (tabC Tryd.prog (tab) ((14, .none) :: pls) 100 10) 100 14 i o d = fP d := by kernel_rfl
noncomputable def f : FT := fP
def plan : Plan := .none
theorem planOk : PlanOk Tryd.prog (plan) (bodyOf Tryd.prog 14) := (planOk_of (plan) _ [] (by kernel_rfl) trivial)
theorem meets : MeetsF Tryd.prog 14 ⟨i, o, f⟩ :=
  funcT (fuel := 100) (depth := 10) (pl := (14, plan) :: pls) mixed tabS ⟨planOk, plsP⟩ (fun d => fe  d)
theorem spec : SpecOk Tryd.prog (fun _ => none) 14 (specF ⟨i, o, f⟩) := specF_ok (by kernel_rfl) meets
end Go.Proofs.YtendadfdbmoadaaDoor.F14
