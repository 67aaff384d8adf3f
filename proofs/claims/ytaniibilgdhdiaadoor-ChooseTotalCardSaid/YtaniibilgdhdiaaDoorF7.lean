/- What comes of function 7 of this program, consulate.choose.Compare, as the engine gives it. -/
import Derived.Test.YtaniibilgdhdiaaDoorChecked
import Derived.Test.YtaniibilgdhdiaaDoorZN
import Derived.Test.YtaniibilgdhdiaaDoorF20
import Derived.Test.YtaniibilgdhdiaaDoorF21
import Derived.Test.YtaniibilgdhdiaaDoorF22
import Derived.Test.YtaniibilgdhdiaaDoorF23
import Derived.Test.YtaniibilgdhdiaaDoorF24
import Derived.Test.YtaniibilgdhdiaaDoorF25
namespace Go.Proofs.YtaniibilgdhdiaaDoor.F7
open Go Go.Proofs Go.Proofs.YtaniibilgdhdiaaDoor Go.RowKit Go.Proofs.YtaniibilgdhdiaaDoor.Sx
set_option linter.unusedVariables false
set_option maxRecDepth 100000
def tab (x20 : F20.FT) (x21 : F21.FT) (x22 : F22.FT) (x23 : F23.FT) (x24 : F24.FT) (x25 : F25.FT) : List (FuncId × Sx.Spec) := [(20, specF ⟨F20.i, F20.o, x20⟩), (21, specF ⟨F21.i, F21.o, x21⟩), (22, specF ⟨F22.i, F22.o, x22⟩), (23, specF ⟨F23.i, F23.o, x23⟩), (24, specF ⟨F24.i, F24.o, x24⟩), (25, specF ⟨F25.i, F25.o, x25⟩)]
def pls (x20 : F20.FT) (x21 : F21.FT) (x22 : F22.FT) (x23 : F23.FT) (x24 : F24.FT) (x25 : F25.FT) : List (FuncId × Plan) := []
@[reducible] def i : Sh := .ag (.sc (.int .u32) (.sc (.int .i64) (.sc (.int .u8) (.sc (.int .u32) (.sc (.int .u32) (.sc (.int .i64) (.sc (.int .i64) (.sc (.int .u32) (.sc (.int .i64) .nil))))))))) (.ag (.sc (.int .u32) (.sc (.int .i64) (.sc (.int .u8) (.sc (.int .u32) (.sc (.int .u32) (.sc (.int .i64) (.sc (.int .i64) (.sc (.int .u32) (.sc (.int .i64) .nil))))))))) (.sc .bool .nil))
@[reducible] def o : Sh := .sc (.int .i64) (.sc (.int .i64) .nil)
abbrev FT := ((Int × Int × Int × Int × Int × Int × Int × Int × Int) × (Int × Int × Int × Int × Int × Int × Int × Int × Int) × Bool) → Option ((Int × Int) × Unit)
theorem tabS : AllS Tryd.prog (tab F20.f F21.f F22.f F23.f F24.f F25.f) := ⟨F20.spec, F21.spec, F22.spec, F23.spec, F24.spec, F25.spec, trivial⟩
theorem plsP : AllP Tryd.prog (pls F20.f F21.f F22.f F23.f F24.f F25.f) := trivial
theorem mixed : Tryd.prog.follows .mixedOrders = true := by kernel_rfl
def fP (x20 : F20.FT) (x21 : F21.FT) (x22 : F22.FT) (x23 : F23.FT) (x24 : F24.FT) (x25 : F25.FT) : FT := fun ((a0, a1, a2, a3, a4, a5, a6, a7, a8), (b0, b1, b2, b3, b4, b5, b6, b7, b8), med) =>
    (x20 (b0, a0)).bind fun r0 =>
      (x21 (a1, b1)).bind fun r1 =>
        (x22 (a2, b2)).bind fun r2 =>
          (x20 (a3, b3)).bind fun r3 =>
            (x23 a5).bind fun r4 =>
              (x23 b5).bind fun r5 =>
                (x21 (r4.fst, r5.fst)).bind fun r6 =>
                  (x24 (a6, b6)).bind fun r7 =>
                    (x25 (a7, b7)).bind fun r8 =>
                      (x21 (a8, b8)).bind fun r9 =>
                        bif !med then
                          bif r0.fst != 0 then some ((r0.fst, 1), PUnit.unit)
                          else
                            bif r1.fst != 0 then some ((r1.fst, 2), PUnit.unit)
                            else
                              bif r2.fst != 0 then some ((r2.fst, 3), PUnit.unit)
                              else
                                bif r6.fst != 0 then some ((r6.fst, 5), PUnit.unit)
                                else
                                  bif r7.fst != 0 then some ((r7.fst, 6), PUnit.unit)
                                  else
                                    bif r8.fst != 0 then some ((r8.fst, 7), PUnit.unit)
                                    else
                                      bif r9.fst != 0 then some ((r9.fst, 8), PUnit.unit) else some ((0, 0), PUnit.unit)
                        else
                          bif a4 != b4 then
                            bif r0.fst != 0 then some ((r0.fst, 1), PUnit.unit)
                            else
                              bif r1.fst != 0 then some ((r1.fst, 2), PUnit.unit)
                              else
                                bif r2.fst != 0 then some ((r2.fst, 3), PUnit.unit)
                                else
                                  bif r6.fst != 0 then some ((r6.fst, 5), PUnit.unit)
                                  else
                                    bif r7.fst != 0 then some ((r7.fst, 6), PUnit.unit)
                                    else
                                      bif r8.fst != 0 then some ((r8.fst, 7), PUnit.unit)
                                      else
                                        bif r9.fst != 0 then some ((r9.fst, 8), PUnit.unit) else some ((0, 0), PUnit.unit)
                          else
                            bif r0.fst != 0 then some ((r0.fst, 1), PUnit.unit)
                            else
                              bif r1.fst != 0 then some ((r1.fst, 2), PUnit.unit)
                              else
                                bif r2.fst != 0 then some ((r2.fst, 3), PUnit.unit)
                                else
                                  bif r3.fst != 0 then some ((r3.fst, 4), PUnit.unit)
                                  else
                                    bif r6.fst != 0 then some ((r6.fst, 5), PUnit.unit)
                                    else
                                      bif r7.fst != 0 then some ((r7.fst, 6), PUnit.unit)
                                      else
                                        bif r8.fst != 0 then some ((r8.fst, 7), PUnit.unit)
                                        else
                                          bif r9.fst != 0 then some ((r9.fst, 8), PUnit.unit)
                                          else some ((0, 0), PUnit.unit)
theorem fe (x20 : F20.FT) (x21 : F21.FT) (x22 : F22.FT) (x23 : F23.FT) (x24 : F24.FT) (x25 : F25.FT) (d : (Int × Int × Int × Int × Int × Int × Int × Int × Int) × (Int × Int × Int × Int × Int × Int × Int × Int × Int) × Bool) : bodyF (tabC Tryd.prog (tab x20 x21 x22 x23 x24 x25) ((7, .none) :: pls x20 x21 x22 x23 x24 x25) 100 10) 100 7 i o d = fP x20 x21 x22 x23 x24 x25 d := by kernel_rfl
noncomputable def f : FT := fP F20.f F21.f F22.f F23.f F24.f F25.f
def plan : Plan := .none
theorem planOk : PlanOk Tryd.prog (plan) (bodyOf Tryd.prog 7) := (planOk_of (plan) _ [] (by kernel_rfl) trivial)
theorem meets : MeetsF Tryd.prog 7 ⟨i, o, f⟩ :=
  funcT (fuel := 100) (depth := 10) (pl := (7, plan) :: pls F20.f F21.f F22.f F23.f F24.f F25.f) mixed tabS ⟨planOk, plsP⟩ (fun d => fe F20.f F21.f F22.f F23.f F24.f F25.f d)
theorem spec : SpecOk Tryd.prog (fun _ => none) 7 (specF ⟨i, o, f⟩) := specF_ok (by kernel_rfl) meets
end Go.Proofs.YtaniibilgdhdiaaDoor.F7
