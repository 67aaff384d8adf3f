/- What comes of function 3 of this program, consulate.consulatelaw21.ChooseSteps, as the engine gives it. -/
import Derived.Test.YtaniibilgdhdiaaChecked
import Derived.Test.YtaniibilgdhdiaaZN
import Derived.Test.YtaniibilgdhdiaaF10
import Derived.Test.YtaniibilgdhdiaaKA
namespace Go.Proofs.Ytaniibilgdhdiaa.F3
open Go Go.Proofs Go.Proofs.Ytaniibilgdhdiaa Go.RowKit Go.Proofs.Ytaniibilgdhdiaa.Sx
set_option linter.unusedVariables false
set_option maxRecDepth 100000
def tab (x10 : F10.FT) : List (FuncId × Sx.Spec) := [(10, specF ⟨F10.i, F10.o, x10⟩), (8, pureS saysS)]
def pls (x10 : F10.FT) : List (FuncId × Plan) := []
@[reducible] def i : Sh := .ag (.sc (.int .u32) (.sc (.int .i64) (.sc (.int .u8) (.sc (.int .u32) (.sc (.int .u32) (.sc (.int .i64) (.sc (.int .i64) (.sc (.int .u32) (.sc (.int .i64) .nil))))))))) (.ag (.sc (.int .u32) (.sc (.int .i64) (.sc (.int .u8) (.sc (.int .u32) (.sc (.int .u32) (.sc (.int .i64) (.sc (.int .i64) (.sc (.int .u32) (.sc (.int .i64) .nil))))))))) .nil)
@[reducible] def o : Sh := .sc .bool .nil
abbrev FT := ((Int × Int × Int × Int × Int × Int × Int × Int × Int) × (Int × Int × Int × Int × Int × Int × Int × Int × Int)) → Option (Bool × Unit)
theorem tabS : AllS Try.prog (tab F10.f) := ⟨F10.spec, says_ok (by kernel_rfl) KA.tells, trivial⟩
theorem plsP : AllP Try.prog (pls F10.f) := trivial
theorem mixed : Try.prog.follows .mixedOrders = true := by kernel_rfl
def fP (x10 : F10.FT) : FT := fun ((a0, a1, a2, a3, a4, a5, a6, a7, a8), (b0, b1, b2, b3, b4, b5, b6, b7, b8)) =>
    (x10
          ((IntKind.u32.wrap (IntKind.u32.wrap (IntKind.u32.wrap (a0.tdiv 2) + 1) - 1), b1, b2, b3, 2, b5, b6, b7, b8),
            (IntKind.u32.wrap (IntKind.u32.wrap (a0.tdiv 2) + 1), a1, a2, a3, 1, a5, a6, a7, a8), false)).bind
      fun r0 =>
      bif decide (r0.fst.fst < 0) then
        (x10
              ((IntKind.u32.wrap (IntKind.u32.wrap (a0.tdiv 2) + 1), a1, a2, a3, 1, a5, a6, a7, a8),
                (IntKind.u32.wrap (IntKind.u32.wrap (IntKind.u32.wrap (a0.tdiv 2) + 1) - 1), b1, b2, b3, 2, b5, b6, b7,
                  b8),
                false)).bind
          fun r1 => bif decide (r1.fst.fst < 0) then some (false, PUnit.unit) else some (false, PUnit.unit)
      else
        (x10
              ((IntKind.u32.wrap (IntKind.u32.wrap (a0.tdiv 2) + 1), a1, a2, a3, 1, a5, a6, a7, a8),
                (IntKind.u32.wrap (IntKind.u32.wrap (IntKind.u32.wrap (a0.tdiv 2) + 1) - 1), b1, b2, b3, 2, b5, b6, b7,
                  b8),
                false)).bind
          fun r1 =>
          bif decide (r1.fst.fst < 0) then
            (x10
                  ((IntKind.u32.wrap (IntKind.u32.wrap (a0.tdiv 2) + 1),
                      IntKind.i64.wrap (IntKind.i64.wrap ((IntKind.u64.wrap a1).tmod 1000) + 1), b2, b3, 2, b5, b6, b7,
                      b8),
                    (IntKind.u32.wrap (IntKind.u32.wrap (a0.tdiv 2) + 1),
                      IntKind.i64.wrap ((IntKind.u64.wrap a1).tmod 1000), a2, a3, 1, a5, a6, a7, a8),
                    false)).bind
              fun r2 =>
              bif decide (r2.fst.fst < 0) then
                (x10
                      ((IntKind.u32.wrap (IntKind.u32.wrap (a0.tdiv 2) + 1),
                          IntKind.i64.wrap ((IntKind.u64.wrap a1).tmod 1000), a2, a3, 1, a5, a6, a7, a8),
                        (IntKind.u32.wrap (IntKind.u32.wrap (a0.tdiv 2) + 1),
                          IntKind.i64.wrap (IntKind.i64.wrap ((IntKind.u64.wrap a1).tmod 1000) + 1), b2, b3, 2, b5, b6,
                          b7, b8),
                        false)).bind
                  fun r3 => bif decide (r3.fst.fst < 0) then some (false, PUnit.unit) else some (false, PUnit.unit)
              else
                (x10
                      ((IntKind.u32.wrap (IntKind.u32.wrap (a0.tdiv 2) + 1),
                          IntKind.i64.wrap ((IntKind.u64.wrap a1).tmod 1000), a2, a3, 1, a5, a6, a7, a8),
                        (IntKind.u32.wrap (IntKind.u32.wrap (a0.tdiv 2) + 1),
                          IntKind.i64.wrap (IntKind.i64.wrap ((IntKind.u64.wrap a1).tmod 1000) + 1), b2, b3, 2, b5, b6,
                          b7, b8),
                        false)).bind
                  fun r3 =>
                  bif decide (r3.fst.fst < 0) then
                    (x10
                          ((IntKind.u32.wrap (IntKind.u32.wrap (a0.tdiv 2) + 1),
                              IntKind.i64.wrap ((IntKind.u64.wrap a1).tmod 1000), IntKind.u8.wrap (a2.tmod 2 + 1), b3, 2,
                              b5, b6, b7, b8),
                            (IntKind.u32.wrap (IntKind.u32.wrap (a0.tdiv 2) + 1),
                              IntKind.i64.wrap ((IntKind.u64.wrap a1).tmod 1000), a2.tmod 2, a3, 1, a5, a6, a7, a8),
                            false)).bind
                      fun r4 =>
                      bif decide (r4.fst.fst < 0) then
                        (x10
                              ((IntKind.u32.wrap (IntKind.u32.wrap (a0.tdiv 2) + 1),
                                  IntKind.i64.wrap ((IntKind.u64.wrap a1).tmod 1000), a2.tmod 2, a3, 1, a5, a6, a7, a8),
                                (IntKind.u32.wrap (IntKind.u32.wrap (a0.tdiv 2) + 1),
                                  IntKind.i64.wrap ((IntKind.u64.wrap a1).tmod 1000), IntKind.u8.wrap (a2.tmod 2 + 1), b3,
                                  2, b5, b6, b7, b8),
                                false)).bind
                          fun r5 =>
                          bif decide (r5.fst.fst < 0) then some (false, PUnit.unit) else some (false, PUnit.unit)
                      else
                        (x10
                              ((IntKind.u32.wrap (IntKind.u32.wrap (a0.tdiv 2) + 1),
                                  IntKind.i64.wrap ((IntKind.u64.wrap a1).tmod 1000), a2.tmod 2, a3, 1, a5, a6, a7, a8),
                                (IntKind.u32.wrap (IntKind.u32.wrap (a0.tdiv 2) + 1),
                                  IntKind.i64.wrap ((IntKind.u64.wrap a1).tmod 1000), IntKind.u8.wrap (a2.tmod 2 + 1), b3,
                                  2, b5, b6, b7, b8),
                                false)).bind
                          fun r5 =>
                          bif decide (r5.fst.fst < 0) then
                            (x10
                                  ((IntKind.u32.wrap (IntKind.u32.wrap (a0.tdiv 2) + 1),
                                      IntKind.i64.wrap ((IntKind.u64.wrap a1).tmod 1000), a2.tmod 2, b3, 2, 3, b6, b7,
                                      b8),
                                    (IntKind.u32.wrap (IntKind.u32.wrap (a0.tdiv 2) + 1),
                                      IntKind.i64.wrap ((IntKind.u64.wrap a1).tmod 1000), a2.tmod 2, a3, 1, 0, a6, a7,
                                      a8),
                                    false)).bind
                              fun r6 =>
                              bif decide (r6.fst.fst < 0) then
                                (x10
                                      ((IntKind.u32.wrap (IntKind.u32.wrap (a0.tdiv 2) + 1),
                                          IntKind.i64.wrap ((IntKind.u64.wrap a1).tmod 1000), a2.tmod 2, a3, 1, 0, a6, a7,
                                          a8),
                                        (IntKind.u32.wrap (IntKind.u32.wrap (a0.tdiv 2) + 1),
                                          IntKind.i64.wrap ((IntKind.u64.wrap a1).tmod 1000), a2.tmod 2, b3, 2, 3, b6, b7,
                                          b8),
                                        false)).bind
                                  fun r7 =>
                                  bif decide (r7.fst.fst < 0) then some (false, PUnit.unit) else some (false, PUnit.unit)
                              else
                                (x10
                                      ((IntKind.u32.wrap (IntKind.u32.wrap (a0.tdiv 2) + 1),
                                          IntKind.i64.wrap ((IntKind.u64.wrap a1).tmod 1000), a2.tmod 2, a3, 1, 0, a6, a7,
                                          a8),
                                        (IntKind.u32.wrap (IntKind.u32.wrap (a0.tdiv 2) + 1),
                                          IntKind.i64.wrap ((IntKind.u64.wrap a1).tmod 1000), a2.tmod 2, b3, 2, 3, b6, b7,
                                          b8),
                                        false)).bind
                                  fun r7 =>
                                  bif decide (r7.fst.fst < 0) then
                                    (x10
                                          ((IntKind.u32.wrap (IntKind.u32.wrap (a0.tdiv 2) + 1),
                                              IntKind.i64.wrap ((IntKind.u64.wrap a1).tmod 1000), a2.tmod 2, b3, 2, 1, b6,
                                              b7, b8),
                                            (IntKind.u32.wrap (IntKind.u32.wrap (a0.tdiv 2) + 1),
                                              IntKind.i64.wrap ((IntKind.u64.wrap a1).tmod 1000), a2.tmod 2, a3, 1, 0, a6,
                                              a7, a8),
                                            false)).bind
                                      fun r8 =>
                                      bif decide (r8.fst.fst < 0) then
                                        (x10
                                              ((IntKind.u32.wrap (IntKind.u32.wrap (a0.tdiv 2) + 1),
                                                  IntKind.i64.wrap ((IntKind.u64.wrap a1).tmod 1000), a2.tmod 2, a3, 1, 0,
                                                  a6, a7, a8),
                                                (IntKind.u32.wrap (IntKind.u32.wrap (a0.tdiv 2) + 1),
                                                  IntKind.i64.wrap ((IntKind.u64.wrap a1).tmod 1000), a2.tmod 2, b3, 2, 1,
                                                  b6, b7, b8),
                                                false)).bind
                                          fun r9 =>
                                          bif decide (r9.fst.fst < 0) then some (false, PUnit.unit)
                                          else some (false, PUnit.unit)
                                      else
                                        (x10
                                              ((IntKind.u32.wrap (IntKind.u32.wrap (a0.tdiv 2) + 1),
                                                  IntKind.i64.wrap ((IntKind.u64.wrap a1).tmod 1000), a2.tmod 2, a3, 1, 0,
                                                  a6, a7, a8),
                                                (IntKind.u32.wrap (IntKind.u32.wrap (a0.tdiv 2) + 1),
                                                  IntKind.i64.wrap ((IntKind.u64.wrap a1).tmod 1000), a2.tmod 2, b3, 2, 1,
                                                  b6, b7, b8),
                                                false)).bind
                                          fun r9 =>
                                          bif decide (r9.fst.fst < 0) then
                                            (x10
                                                  ((IntKind.u32.wrap (IntKind.u32.wrap (a0.tdiv 2) + 1),
                                                      IntKind.i64.wrap ((IntKind.u64.wrap a1).tmod 1000), a2.tmod 2, b3,
                                                      2, 2, b6, b7, b8),
                                                    (IntKind.u32.wrap (IntKind.u32.wrap (a0.tdiv 2) + 1),
                                                      IntKind.i64.wrap ((IntKind.u64.wrap a1).tmod 1000), a2.tmod 2, a3,
                                                      1, 3, a6, a7, a8),
                                                    false)).bind
                                              fun r10 =>
                                              bif decide (r10.fst.fst < 0) then
                                                (x10
                                                      ((IntKind.u32.wrap (IntKind.u32.wrap (a0.tdiv 2) + 1),
                                                          IntKind.i64.wrap ((IntKind.u64.wrap a1).tmod 1000), a2.tmod 2,
                                                          a3, 1, 3, a6, a7, a8),
                                                        (IntKind.u32.wrap (IntKind.u32.wrap (a0.tdiv 2) + 1),
                                                          IntKind.i64.wrap ((IntKind.u64.wrap a1).tmod 1000), a2.tmod 2,
                                                          b3, 2, 2, b6, b7, b8),
                                                        false)).bind
                                                  fun r11 =>
                                                  bif decide (r11.fst.fst < 0) then some (false, PUnit.unit)
                                                  else some (false, PUnit.unit)
                                              else
                                                (x10
                                                      ((IntKind.u32.wrap (IntKind.u32.wrap (a0.tdiv 2) + 1),
                                                          IntKind.i64.wrap ((IntKind.u64.wrap a1).tmod 1000), a2.tmod 2,
                                                          a3, 1, 3, a6, a7, a8),
                                                        (IntKind.u32.wrap (IntKind.u32.wrap (a0.tdiv 2) + 1),
                                                          IntKind.i64.wrap ((IntKind.u64.wrap a1).tmod 1000), a2.tmod 2,
                                                          b3, 2, 2, b6, b7, b8),
                                                        false)).bind
                                                  fun r11 =>
                                                  bif decide (r11.fst.fst < 0) then
                                                    (x10
                                                          ((IntKind.u32.wrap (IntKind.u32.wrap (a0.tdiv 2) + 1),
                                                              IntKind.i64.wrap ((IntKind.u64.wrap a1).tmod 1000),
                                                              a2.tmod 2, b3, 2, 1, b6, b7, b8),
                                                            (IntKind.u32.wrap (IntKind.u32.wrap (a0.tdiv 2) + 1),
                                                              IntKind.i64.wrap ((IntKind.u64.wrap a1).tmod 1000),
                                                              a2.tmod 2, a3, 1, 3, a6, a7, a8),
                                                            false)).bind
                                                      fun r12 =>
                                                      bif decide (r12.fst.fst < 0) then
                                                        (x10
                                                              ((IntKind.u32.wrap (IntKind.u32.wrap (a0.tdiv 2) + 1),
                                                                  IntKind.i64.wrap ((IntKind.u64.wrap a1).tmod 1000),
                                                                  a2.tmod 2, a3, 1, 3, a6, a7, a8),
                                                                (IntKind.u32.wrap (IntKind.u32.wrap (a0.tdiv 2) + 1),
                                                                  IntKind.i64.wrap ((IntKind.u64.wrap a1).tmod 1000),
                                                                  a2.tmod 2, b3, 2, 1, b6, b7, b8),
                                                                false)).bind
                                                          fun r13 =>
                                                          bif decide (r13.fst.fst < 0) then some (false, PUnit.unit)
                                                          else some (false, PUnit.unit)
                                                      else
                                                        (x10
                                                              ((IntKind.u32.wrap (IntKind.u32.wrap (a0.tdiv 2) + 1),
                                                                  IntKind.i64.wrap ((IntKind.u64.wrap a1).tmod 1000),
                                                                  a2.tmod 2, a3, 1, 3, a6, a7, a8),
                                                                (IntKind.u32.wrap (IntKind.u32.wrap (a0.tdiv 2) + 1),
                                                                  IntKind.i64.wrap ((IntKind.u64.wrap a1).tmod 1000),
                                                                  a2.tmod 2, b3, 2, 1, b6, b7, b8),
                                                                false)).bind
                                                          fun r13 =>
                                                          bif decide (r13.fst.fst < 0) then
                                                            (x10
                                                                  ((IntKind.u32.wrap (IntKind.u32.wrap (a0.tdiv 2) + 1),
                                                                      IntKind.i64.wrap ((IntKind.u64.wrap a1).tmod 1000),
                                                                      a2.tmod 2, b3, 2, 9, b6, b7, b8),
                                                                    (IntKind.u32.wrap (IntKind.u32.wrap (a0.tdiv 2) + 1),
                                                                      IntKind.i64.wrap ((IntKind.u64.wrap a1).tmod 1000),
                                                                      a2.tmod 2, a3, 1, 1, a6, a7, a8),
                                                                    false)).bind
                                                              fun r14 =>
                                                              bif decide (r14.fst.fst < 0) then
                                                                (x10
                                                                      ((IntKind.u32.wrap
                                                                            (IntKind.u32.wrap (a0.tdiv 2) + 1),
                                                                          IntKind.i64.wrap
                                                                            ((IntKind.u64.wrap a1).tmod 1000),
                                                                          a2.tmod 2, a3, 1, 1, a6, a7, a8),
                                                                        (IntKind.u32.wrap
                                                                            (IntKind.u32.wrap (a0.tdiv 2) + 1),
                                                                          IntKind.i64.wrap
                                                                            ((IntKind.u64.wrap a1).tmod 1000),
                                                                          a2.tmod 2, b3, 2, 9, b6, b7, b8),
                                                                        false)).bind
                                                                  fun r15 =>
                                                                  bif decide (r15.fst.fst < 0) then
                                                                    some (false, PUnit.unit)
                                                                  else some (false, PUnit.unit)
                                                              else
                                                                (x10
                                                                      ((IntKind.u32.wrap
                                                                            (IntKind.u32.wrap (a0.tdiv 2) + 1),
                                                                          IntKind.i64.wrap
                                                                            ((IntKind.u64.wrap a1).tmod 1000),
                                                                          a2.tmod 2, a3, 1, 1, a6, a7, a8),
                                                                        (IntKind.u32.wrap
                                                                            (IntKind.u32.wrap (a0.tdiv 2) + 1),
                                                                          IntKind.i64.wrap
                                                                            ((IntKind.u64.wrap a1).tmod 1000),
                                                                          a2.tmod 2, b3, 2, 9, b6, b7, b8),
                                                                        false)).bind
                                                                  fun r15 =>
                                                                  bif decide (r15.fst.fst < 0) then
                                                                    (x10
                                                                          ((IntKind.u32.wrap
                                                                                (IntKind.u32.wrap (a0.tdiv 2) + 1),
                                                                              IntKind.i64.wrap
                                                                                ((IntKind.u64.wrap a1).tmod 1000),
                                                                              a2.tmod 2, b3, 2, 1,
                                                                              IntKind.i64.wrap
                                                                                (IntKind.i64.wrap
                                                                                    (IntKind.i64.wrap (a6.tdiv 2) - 1) +
                                                                                  1),
                                                                              b7, b8),
                                                                            (IntKind.u32.wrap
                                                                                (IntKind.u32.wrap (a0.tdiv 2) + 1),
                                                                              IntKind.i64.wrap
                                                                                ((IntKind.u64.wrap a1).tmod 1000),
                                                                              a2.tmod 2, a3, 1, 2,
                                                                              IntKind.i64.wrap
                                                                                (IntKind.i64.wrap (a6.tdiv 2) - 1),
                                                                              a7, a8),
                                                                            false)).bind
                                                                      fun r16 =>
                                                                      bif decide (r16.fst.fst < 0) then
                                                                        (x10
                                                                              ((IntKind.u32.wrap
                                                                                    (IntKind.u32.wrap (a0.tdiv 2) + 1),
                                                                                  IntKind.i64.wrap
                                                                                    ((IntKind.u64.wrap a1).tmod 1000),
                                                                                  a2.tmod 2, a3, 1, 2,
                                                                                  IntKind.i64.wrap
                                                                                    (IntKind.i64.wrap (a6.tdiv 2) - 1),
                                                                                  a7, a8),
                                                                                (IntKind.u32.wrap
                                                                                    (IntKind.u32.wrap (a0.tdiv 2) + 1),
                                                                                  IntKind.i64.wrap
                                                                                    ((IntKind.u64.wrap a1).tmod 1000),
                                                                                  a2.tmod 2, b3, 2, 1,
                                                                                  IntKind.i64.wrap
                                                                                    (IntKind.i64.wrap
                                                                                        (IntKind.i64.wrap (a6.tdiv 2) -
                                                                                          1) +
                                                                                      1),
                                                                                  b7, b8),
                                                                                false)).bind
                                                                          fun r17 =>
                                                                          bif decide (r17.fst.fst < 0) then
                                                                            some (false, PUnit.unit)
                                                                          else some (false, PUnit.unit)
                                                                      else
                                                                        (x10
                                                                              ((IntKind.u32.wrap
                                                                                    (IntKind.u32.wrap (a0.tdiv 2) + 1),
                                                                                  IntKind.i64.wrap
                                                                                    ((IntKind.u64.wrap a1).tmod 1000),
                                                                                  a2.tmod 2, a3, 1, 2,
                                                                                  IntKind.i64.wrap
                                                                                    (IntKind.i64.wrap (a6.tdiv 2) - 1),
                                                                                  a7, a8),
                                                                                (IntKind.u32.wrap
                                                                                    (IntKind.u32.wrap (a0.tdiv 2) + 1),
                                                                                  IntKind.i64.wrap
                                                                                    ((IntKind.u64.wrap a1).tmod 1000),
                                                                                  a2.tmod 2, b3, 2, 1,
                                                                                  IntKind.i64.wrap
                                                                                    (IntKind.i64.wrap
                                                                                        (IntKind.i64.wrap (a6.tdiv 2) -
                                                                                          1) +
                                                                                      1),
                                                                                  b7, b8),
                                                                                false)).bind
                                                                          fun r17 =>
                                                                          bif decide (r17.fst.fst < 0) then
                                                                            some (true, PUnit.unit)
                                                                          else some (false, PUnit.unit)
                                                                  else some (false, PUnit.unit)
                                                          else some (false, PUnit.unit)
                                                  else some (false, PUnit.unit)
                                          else some (false, PUnit.unit)
                                  else some (false, PUnit.unit)
                          else some (false, PUnit.unit)
                  else some (false, PUnit.unit)
          else some (false, PUnit.unit)
theorem fe (x10 : F10.FT) (d : (Int × Int × Int × Int × Int × Int × Int × Int × Int) × (Int × Int × Int × Int × Int × Int × Int × Int × Int)) : bodyF (tabC Try.prog (tab x10) ((3, .none) :: pls x10) 100 10) 100 3 i o d = fP x10 d := by kernel_rfl
noncomputable def f : FT := fP F10.f
def plan : Plan := .none
theorem planOk : PlanOk Try.prog (plan) (bodyOf Try.prog 3) := (planOk_of (plan) _ [] (by kernel_rfl) trivial)
theorem meets : MeetsF Try.prog 3 ⟨i, o, f⟩ :=
  funcT (fuel := 100) (depth := 10) (pl := (3, plan) :: pls F10.f) mixed tabS ⟨planOk, plsP⟩ (fun d => fe F10.f d)
theorem spec : SpecOk Try.prog (fun _ => none) 3 (specF ⟨i, o, f⟩) := specF_ok (by kernel_rfl) meets
end Go.Proofs.Ytaniibilgdhdiaa.F3
