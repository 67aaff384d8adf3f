/- What comes of function 10 of this program, consulate.choose.Compare, as the engine gives it. -/
import Derived.Test.YtaniibilgdhdiaaChecked
import Derived.Test.YtaniibilgdhdiaaZN
import Derived.Test.YtaniibilgdhdiaaF16
import Derived.Test.YtaniibilgdhdiaaF17
import Derived.Test.YtaniibilgdhdiaaF18
import Derived.Test.YtaniibilgdhdiaaF19
import Derived.Test.YtaniibilgdhdiaaF20
import Derived.Test.YtaniibilgdhdiaaF21
namespace Go.Proofs.Ytaniibilgdhdiaa.F10
open Go Go.Proofs Go.Proofs.Ytaniibilgdhdiaa Go.RowKit Go.Proofs.Ytaniibilgdhdiaa.Sx
set_option linter.unusedVariables false
set_option maxRecDepth 100000
def tab (x16 : F16.FT) (x17 : F17.FT) (x18 : F18.FT) (x19 : F19.FT) (x20 : F20.FT) (x21 : F21.FT) : List (FuncId × Sx.Spec) := [(16, specF ⟨F16.i, F16.o, x16⟩), (17, specF ⟨F17.i, F17.o, x17⟩), (18, specF ⟨F18.i, F18.o, x18⟩), (19, specF ⟨F19.i, F19.o, x19⟩), (20, specF ⟨F20.i, F20.o, x20⟩), (21, specF ⟨F21.i, F21.o, x21⟩)]
def pls (x16 : F16.FT) (x17 : F17.FT) (x18 : F18.FT) (x19 : F19.FT) (x20 : F20.FT) (x21 : F21.FT) : List (FuncId × Plan) := []
@[reducible] def i : Sh := .ag (.sc (.int .u32) (.sc (.int .i64) (.sc (.int .u8) (.sc (.int .u32) (.sc (.int .u32) (.sc (.int .i64) (.sc (.int .i64) (.sc (.int .u32) (.sc (.int .i64) .nil))))))))) (.ag (.sc (.int .u32) (.sc (.int .i64) (.sc (.int .u8) (.sc (.int .u32) (.sc (.int .u32) (.sc (.int .i64) (.sc (.int .i64) (.sc (.int .u32) (.sc (.int .i64) .nil))))))))) (.sc .bool .nil))
@[reducible] def o : Sh := .sc (.int .i64) (.sc (.int .i64) .nil)
abbrev FT := ((Int × Int × Int × Int × Int × Int × Int × Int × Int) × (Int × Int × Int × Int × Int × Int × Int × Int × Int) × Bool) → Option ((Int × Int) × Unit)
theorem tabS : AllS Try.prog (tab F16.f F17.f F18.f F19.f F20.f F21.f) := ⟨F16.spec, F17.spec, F18.spec, F19.spec, F20.spec, F21.spec, trivial⟩
theorem plsP : AllP Try.prog (pls F16.f F17.f F18.f F19.f F20.f F21.f) := trivial
theorem mixed : Try.prog.follows .mixedOrders = true := by kernel_rfl
def fP (x16 : F16.FT) (x17 : F17.FT) (x18 : F18.FT) (x19 : F19.FT) (x20 : F20.FT) (x21 : F21.FT) : FT := fun ((a0, a1, a2, a3, a4, a5, a6, a7, a8), (b0, b1, b2, b3, b4, b5, b6, b7, b8), med) =>
    (x16 (b0, a0)).bind fun r0 =>
      (x17 (a1, b1)).bind fun r1 =>
        (x18 (a2, b2)).bind fun r2 =>
          (x16 (a3, b3)).bind fun r3 =>
            (x19 a5).bind fun r4 =>
              (x19 b5).bind fun r5 =>
                (x17 (r4.fst, r5.fst)).bind fun r6 =>
                  (x20 (a6, b6)).bind fun r7 =>
                    (x21 (a7, b7)).bind fun r8 =>
                      (x17 (a8, b8)).bind fun r9 =>
                        bif !med then
                          bif r0.fst != 0 then some ((r0.fst, 1), PUnit.unit)
                          else
                            bif r1.fst != 0 then some ((r1.fst, 2), PUnit.unit)
                            else
                              bif r2.fst != 0 then some ((r2.fst, 3), PUnit.unit)
                              else
                                bif r6.fst != 0 then some ((r6.fst, 5), PUnit.unit)
                                else
                                  bif r7.fst != 0 then some ((r7.fst, 6), PUnit.unit)
                                  else
                                    bif r8.fst != 0 then some ((r8.fst, 7), PUnit.unit)
                                    else
                                      bif r9.fst != 0 then some ((r9.fst, 8), PUnit.unit) else some ((0, 0), PUnit.unit)
                        else
                          bif a4 != b4 then
                            bif r0.fst != 0 then some ((r0.fst, 1), PUnit.unit)
                            else
                              bif r1.fst != 0 then some ((r1.fst, 2), PUnit.unit)
                              else
                                bif r2.fst != 0 then some ((r2.fst, 3), PUnit.unit)
                                else
                                  bif r6.fst != 0 then some ((r6.fst, 5), PUnit.unit)
                                  else
                                    bif r7.fst != 0 then some ((r7.fst, 6), PUnit.unit)
                                    else
                                      bif r8.fst != 0 then some ((r8.fst, 7), PUnit.unit)
                                      else
                                        bif r9.fst != 0 then some ((r9.fst, 8), PUnit.unit) else some ((0, 0), PUnit.unit)
                          else
                            bif r0.fst != 0 then some ((r0.fst, 1), PUnit.unit)
                            else
                              bif r1.fst != 0 then some ((r1.fst, 2), PUnit.unit)
                              else
                                bif r2.fst != 0 then some ((r2.fst, 3), PUnit.unit)
                                else
                                  bif r3.fst != 0 then some ((r3.fst, 4), PUnit.unit)
                                  else
                                    bif r6.fst != 0 then some ((r6.fst, 5), PUnit.unit)
                                    else
                                      bif r7.fst != 0 then some ((r7.fst, 6), PUnit.unit)
                                      else
                                        bif r8.fst != 0 then some ((r8.fst, 7), PUnit.unit)
                                        else
                                          bif r9.fst != 0 then some ((r9.fst, 8), PUnit.unit)
                                          else some ((0, 0), PUnit.unit)
theorem fe (x16 : F16.FT) (x17 : F17.FT) (x18 : F18.FT) (x19 : F19.FT) (x20 : F20.FT) (x21 : F21.FT) (d : (Int × Int × Int × Int × Int × Int × Int × Int × Int) × (Int × Int × Int × Int × Int × Int × Int × Int × Int) × Bool) : bodyF (tabC Try.prog (tab x16 x17 x18 x19 x20 x21) ((10, .none) :: pls x16 x17 x18 x19 x20 x21) 100 10) 100 10 i o d = fP x16 x17 x18 x19 x20 x21 d := by kernel_rfl
noncomputable def f : FT := fP F16.f F17.f F18.f F19.f F20.f F21.f
def plan : Plan := .none
theorem planOk : PlanOk Try.prog (plan) (bodyOf Try.prog 10) := (planOk_of (plan) _ [] (by kernel_rfl) trivial)
theorem meets : MeetsF Try.prog 10 ⟨i, o, f⟩ :=
  funcT (fuel := 100) (depth := 10) (pl := (10, plan) :: pls F16.f F17.f F18.f F19.f F20.f F21.f) mixed tabS ⟨planOk, plsP⟩ (fun d => fe F16.f F17.f F18.f F19.f F20.f F21.f d)
theorem spec : SpecOk Try.prog (fun _ => none) 10 (specF ⟨i, o, f⟩) := specF_ok (by kernel_rfl) meets
end Go.Proofs.Ytaniibilgdhdiaa.F10
