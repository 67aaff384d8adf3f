/- What comes of function 9 of this program, (consulate.session.Machine).Do, as the engine gives it. -/
import Derived.Test.YtendadfdbmoadaaDoorChecked
import Derived.Test.YtendadfdbmoadaaDoorZN
import Derived.Test.YtendadfdbmoadaaDoorF16
import Derived.Test.YtendadfdbmoadaaDoorF17
namespace Go.Proofs.YtendadfdbmoadaaDoor.F9
open Go Go.Proofs Go.Proofs.YtendadfdbmoadaaDoor Go.RowKit Go.Proofs.YtendadfdbmoadaaDoor.Sx
set_option linter.unusedVariables false
set_option maxRecDepth 100000
def tab (x16 : F16.FT) (x17 : F17.FT) : List (FuncId × Sx.Spec) := [(16, specF ⟨F16.i, F16.o, x16⟩), (17, specF ⟨F17.i, F17.o, x17⟩)]
def pls (x16 : F16.FT) (x17 : F17.FT) : List (FuncId × Plan) := []
@[reducible] def i : Sh := .ag (.sc (.int .i64) (.sc (.int .i64) .nil)) (.ag (.sc (.int .i64) (.sc (.int .u8) (.sc (.int .i64) (.sc (.int .u8) (.sc (.int .u8) (.sl false 5 (.sc (.int .u8) .nil) .nil)))))) .nil)
@[reducible] def o : Sh := .ag (.sc (.int .i64) (.sc (.int .i64) .nil)) (.sl true 48 (.sc (.int .i64) (.sc (.int .u8) (.sc (.int .i64) (.sc (.int .u8) (.sc (.int .u8) (.sl false 5 (.sc (.int .u8) .nil) .nil)))))) .nil)
abbrev FT := ((Int × Int) × (Int × Int × Int × Int × Int × List (Int))) → Option (((Int × Int) × (List (Int × Int × Int × Int × Int × List (Int)))) × Unit)
theorem tabS : AllS Tryd.prog (tab F16.f F17.f) := ⟨F16.spec, F17.spec, trivial⟩
theorem plsP : AllP Tryd.prog (pls F16.f F17.f) := trivial
theorem mixed : Tryd.prog.follows .mixedOrders = true := by kernel_rfl
def fP (x16 : F16.FT) (x17 : F17.FT) : FT := fun ((m0, m1), (e0, e1, e2, e3, e4, e5)) =>
    bif decide (0 + e5.length ≤ e5.length) && true then
      (x16 ((m0, m1), e0, e1, e2, e3, e4, List.take e5.length e5)).bind fun r0 =>
        bif
            decide (0 + List.length r0.fst.snd.snd.snd.snd.snd.snd ≤ List.length r0.fst.snd.snd.snd.snd.snd.snd) &&
              true then
          (x17
                ((r0.fst.fst.fst, r0.fst.fst.snd), r0.fst.snd.fst, r0.fst.snd.snd.fst, r0.fst.snd.snd.snd.fst,
                  r0.fst.snd.snd.snd.snd.fst, r0.fst.snd.snd.snd.snd.snd.fst,
                  List.take (List.length r0.fst.snd.snd.snd.snd.snd.snd)
                    (List.drop 0 r0.fst.snd.snd.snd.snd.snd.snd))).bind
            fun r1 =>
            bif r1.fst.snd.snd then
              bif decide (0 + r1.fst.snd.fst.length ≤ r1.fst.snd.fst.length) && true then
                some
                  (((r1.fst.fst.fst, r1.fst.fst.snd), List.take r1.fst.snd.fst.length (List.drop 0 r1.fst.snd.fst)),
                    PUnit.unit)
              else none
            else
              bif decide (r0.fst.fst.fst = 1) then
                bif r0.fst.snd.fst == 1 then
                  some (((2, r0.fst.fst.snd), [(3, 1, 120, 0, 0, []), (6, 0, 0, 0, 0, [])]), PUnit.unit)
                else
                  bif r0.fst.snd.fst == 6 then
                    bif r0.fst.snd.snd.fst == 1 then
                      some (((2, r0.fst.fst.snd), [(3, 1, 120, 0, 0, []), (6, 0, 0, 0, 0, [])]), PUnit.unit)
                    else
                      bif r0.fst.snd.fst == 2 then some (((1, r0.fst.fst.snd), [(4, 1, 0, 0, 0, [])]), PUnit.unit)
                      else some (((r0.fst.fst.fst, r0.fst.fst.snd), []), PUnit.unit)
                  else
                    bif r0.fst.snd.fst == 2 then some (((1, r0.fst.fst.snd), [(4, 1, 0, 0, 0, [])]), PUnit.unit)
                    else some (((r0.fst.fst.fst, r0.fst.fst.snd), []), PUnit.unit)
              else
                bif decide (r0.fst.fst.fst = 2) then
                  bif r0.fst.snd.fst == 2 then
                    bif r0.fst.fst.fst == 6 then
                      bif r0.fst.snd.fst != 2 then
                        some
                          (((1, 0),
                              [(5, 0, 0, 0, 0, []), (4, 1, 0, 0, 0, []), (4, 2, 0, 0, 0, []), (4, 3, 0, 0, 0, []),
                                (8, 0, 0, 0, 0, []), (3, 1, 120, 0, 0, [])]),
                            PUnit.unit)
                      else
                        some
                          (((1, 0),
                              [(5, 0, 0, 0, 0, []), (4, 1, 0, 0, 0, []), (4, 2, 0, 0, 0, []), (4, 3, 0, 0, 0, []),
                                (8, 0, 0, 0, 0, [])]),
                            PUnit.unit)
                    else
                      bif r0.fst.snd.fst != 2 then
                        some
                          (((1, 0),
                              [(5, 0, 0, 0, 0, []), (4, 1, 0, 0, 0, []), (4, 2, 0, 0, 0, []), (4, 3, 0, 0, 0, []),
                                (3, 1, 120, 0, 0, [])]),
                            PUnit.unit)
                      else
                        some
                          (((1, 0), [(5, 0, 0, 0, 0, []), (4, 1, 0, 0, 0, []), (4, 2, 0, 0, 0, []), (4, 3, 0, 0, 0, [])]),
                            PUnit.unit)
                  else
                    bif r0.fst.snd.fst == 3 then
                      some
                        (((4, r0.fst.fst.snd), [(4, 1, 0, 0, 0, []), (1, 1, 0, 0, 0, []), (3, 2, 240, 0, 0, [])]),
                          PUnit.unit)
                    else
                      bif r0.fst.snd.fst == 4 then some (((3, r0.fst.fst.snd), [(3, 1, 120, 0, 0, [])]), PUnit.unit)
                      else
                        bif r0.fst.snd.fst == 6 then
                          bif r0.fst.snd.snd.fst == 1 then
                            some (((2, r0.fst.fst.snd), [(3, 1, 120, 0, 0, []), (6, 0, 0, 0, 0, [])]), PUnit.unit)
                          else some (((r0.fst.fst.fst, r0.fst.fst.snd), []), PUnit.unit)
                        else some (((r0.fst.fst.fst, r0.fst.fst.snd), []), PUnit.unit)
                else
                  bif decide (r0.fst.fst.fst = 3) then
                    bif r0.fst.snd.fst == 2 then
                      bif r0.fst.fst.fst == 6 then
                        bif r0.fst.snd.fst != 2 then
                          some
                            (((1, 0),
                                [(5, 0, 0, 0, 0, []), (4, 1, 0, 0, 0, []), (4, 2, 0, 0, 0, []), (4, 3, 0, 0, 0, []),
                                  (8, 0, 0, 0, 0, []), (3, 1, 120, 0, 0, [])]),
                              PUnit.unit)
                        else
                          some
                            (((1, 0),
                                [(5, 0, 0, 0, 0, []), (4, 1, 0, 0, 0, []), (4, 2, 0, 0, 0, []), (4, 3, 0, 0, 0, []),
                                  (8, 0, 0, 0, 0, [])]),
                              PUnit.unit)
                      else
                        bif r0.fst.snd.fst != 2 then
                          some
                            (((1, 0),
                                [(5, 0, 0, 0, 0, []), (4, 1, 0, 0, 0, []), (4, 2, 0, 0, 0, []), (4, 3, 0, 0, 0, []),
                                  (3, 1, 120, 0, 0, [])]),
                              PUnit.unit)
                        else
                          some
                            (((1, 0),
                                [(5, 0, 0, 0, 0, []), (4, 1, 0, 0, 0, []), (4, 2, 0, 0, 0, []), (4, 3, 0, 0, 0, [])]),
                              PUnit.unit)
                    else
                      bif r0.fst.snd.fst == 3 then
                        some
                          (((4, r0.fst.fst.snd), [(4, 1, 0, 0, 0, []), (1, 1, 0, 0, 0, []), (3, 2, 240, 0, 0, [])]),
                            PUnit.unit)
                      else
                        bif r0.fst.snd.fst == 4 then some (((3, r0.fst.fst.snd), [(3, 1, 120, 0, 0, [])]), PUnit.unit)
                        else
                          bif r0.fst.snd.fst == 6 then
                            bif r0.fst.snd.snd.fst == 1 then
                              some (((2, r0.fst.fst.snd), [(3, 1, 120, 0, 0, []), (6, 0, 0, 0, 0, [])]), PUnit.unit)
                            else some (((r0.fst.fst.fst, r0.fst.fst.snd), []), PUnit.unit)
                          else some (((r0.fst.fst.fst, r0.fst.fst.snd), []), PUnit.unit)
                  else
                    bif decide (r0.fst.fst.fst = 4) then
                      bif r0.fst.snd.fst == 4 then
                        some
                          (((3, r0.fst.fst.snd), [(5, 0, 0, 0, 0, []), (4, 2, 0, 0, 0, []), (3, 1, 120, 0, 0, [])]),
                            PUnit.unit)
                      else
                        bif r0.fst.snd.fst == 5 then
                          bif r0.fst.snd.snd.fst == 1 then
                            bif r0.fst.snd.snd.snd.fst == 0 then
                              some (((5, r0.fst.snd.snd.snd.fst), [(1, 4, 0, 0, 0, []), (4, 2, 0, 0, 0, [])]), PUnit.unit)
                            else
                              some
                                (((5, r0.fst.snd.snd.snd.fst),
                                    [(1, 4, 0, 0, 0, []), (3, 2, r0.fst.snd.snd.snd.fst, 0, 0, []),
                                      (3, 3, IntKind.i64.wrap (Int.tdiv r0.fst.snd.snd.snd.fst 3), 0, 0, [])]),
                                  PUnit.unit)
                          else
                            bif r0.fst.snd.fst == 5 then
                              bif r0.fst.fst.fst == 6 then
                                bif r0.fst.snd.fst != 2 then
                                  some
                                    (((1, 0),
                                        [(2, 0, 0, 5, 1, []), (5, 0, 0, 0, 0, []), (4, 1, 0, 0, 0, []),
                                          (4, 2, 0, 0, 0, []), (4, 3, 0, 0, 0, []), (8, 0, 0, 0, 0, []),
                                          (3, 1, 120, 0, 0, [])]),
                                      PUnit.unit)
                                else
                                  some
                                    (((1, 0),
                                        [(2, 0, 0, 5, 1, []), (5, 0, 0, 0, 0, []), (4, 1, 0, 0, 0, []),
                                          (4, 2, 0, 0, 0, []), (4, 3, 0, 0, 0, []), (8, 0, 0, 0, 0, [])]),
                                      PUnit.unit)
                              else
                                bif r0.fst.snd.fst != 2 then
                                  some
                                    (((1, 0),
                                        [(2, 0, 0, 5, 1, []), (5, 0, 0, 0, 0, []), (4, 1, 0, 0, 0, []),
                                          (4, 2, 0, 0, 0, []), (4, 3, 0, 0, 0, []), (3, 1, 120, 0, 0, [])]),
                                      PUnit.unit)
                                else
                                  some
                                    (((1, 0),
                                        [(2, 0, 0, 5, 1, []), (5, 0, 0, 0, 0, []), (4, 1, 0, 0, 0, []),
                                          (4, 2, 0, 0, 0, []), (4, 3, 0, 0, 0, [])]),
                                      PUnit.unit)
                            else some (((r0.fst.fst.fst, r0.fst.fst.snd), []), PUnit.unit)
                        else
                          bif r0.fst.snd.fst == 5 then
                            bif r0.fst.fst.fst == 6 then
                              bif r0.fst.snd.fst != 2 then
                                some
                                  (((1, 0),
                                      [(2, 0, 0, 5, 1, []), (5, 0, 0, 0, 0, []), (4, 1, 0, 0, 0, []), (4, 2, 0, 0, 0, []),
                                        (4, 3, 0, 0, 0, []), (8, 0, 0, 0, 0, []), (3, 1, 120, 0, 0, [])]),
                                    PUnit.unit)
                              else
                                some
                                  (((1, 0),
                                      [(2, 0, 0, 5, 1, []), (5, 0, 0, 0, 0, []), (4, 1, 0, 0, 0, []), (4, 2, 0, 0, 0, []),
                                        (4, 3, 0, 0, 0, []), (8, 0, 0, 0, 0, [])]),
                                    PUnit.unit)
                            else
                              bif r0.fst.snd.fst != 2 then
                                some
                                  (((1, 0),
                                      [(2, 0, 0, 5, 1, []), (5, 0, 0, 0, 0, []), (4, 1, 0, 0, 0, []), (4, 2, 0, 0, 0, []),
                                        (4, 3, 0, 0, 0, []), (3, 1, 120, 0, 0, [])]),
                                    PUnit.unit)
                              else
                                some
                                  (((1, 0),
                                      [(2, 0, 0, 5, 1, []), (5, 0, 0, 0, 0, []), (4, 1, 0, 0, 0, []), (4, 2, 0, 0, 0, []),
                                        (4, 3, 0, 0, 0, [])]),
                                    PUnit.unit)
                          else some (((r0.fst.fst.fst, r0.fst.fst.snd), []), PUnit.unit)
                    else
                      bif decide (r0.fst.fst.fst = 5) then
                        bif r0.fst.snd.fst == 5 then
                          bif r0.fst.snd.snd.fst == 4 then
                            bif r0.fst.fst.snd == 0 then some (((6, r0.fst.fst.snd), [(7, 0, 0, 0, 0, [])]), PUnit.unit)
                            else
                              some
                                (((6, r0.fst.fst.snd), [(3, 2, r0.fst.fst.snd, 0, 0, []), (7, 0, 0, 0, 0, [])]),
                                  PUnit.unit)
                          else
                            bif r0.fst.snd.fst == 5 then
                              bif r0.fst.fst.fst == 6 then
                                bif r0.fst.snd.fst != 2 then
                                  some
                                    (((1, 0),
                                        [(2, 0, 0, 5, 2, []), (5, 0, 0, 0, 0, []), (4, 1, 0, 0, 0, []),
                                          (4, 2, 0, 0, 0, []), (4, 3, 0, 0, 0, []), (8, 0, 0, 0, 0, []),
                                          (3, 1, 120, 0, 0, [])]),
                                      PUnit.unit)
                                else
                                  some
                                    (((1, 0),
                                        [(2, 0, 0, 5, 2, []), (5, 0, 0, 0, 0, []), (4, 1, 0, 0, 0, []),
                                          (4, 2, 0, 0, 0, []), (4, 3, 0, 0, 0, []), (8, 0, 0, 0, 0, [])]),
                                      PUnit.unit)
                              else
                                bif r0.fst.snd.fst != 2 then
                                  some
                                    (((1, 0),
                                        [(2, 0, 0, 5, 2, []), (5, 0, 0, 0, 0, []), (4, 1, 0, 0, 0, []),
                                          (4, 2, 0, 0, 0, []), (4, 3, 0, 0, 0, []), (3, 1, 120, 0, 0, [])]),
                                      PUnit.unit)
                                else
                                  some
                                    (((1, 0),
                                        [(2, 0, 0, 5, 2, []), (5, 0, 0, 0, 0, []), (4, 1, 0, 0, 0, []),
                                          (4, 2, 0, 0, 0, []), (4, 3, 0, 0, 0, [])]),
                                      PUnit.unit)
                            else
                              bif r0.fst.snd.fst == 4 then
                                bif r0.fst.fst.fst == 6 then
                                  bif r0.fst.snd.fst != 2 then
                                    some
                                      (((1, 0),
                                          [(5, 0, 0, 0, 0, []), (4, 1, 0, 0, 0, []), (4, 2, 0, 0, 0, []),
                                            (4, 3, 0, 0, 0, []), (8, 0, 0, 0, 0, []), (3, 1, 120, 0, 0, [])]),
                                        PUnit.unit)
                                  else
                                    some
                                      (((1, 0),
                                          [(5, 0, 0, 0, 0, []), (4, 1, 0, 0, 0, []), (4, 2, 0, 0, 0, []),
                                            (4, 3, 0, 0, 0, []), (8, 0, 0, 0, 0, [])]),
                                        PUnit.unit)
                                else
                                  bif r0.fst.snd.fst != 2 then
                                    some
                                      (((1, 0),
                                          [(5, 0, 0, 0, 0, []), (4, 1, 0, 0, 0, []), (4, 2, 0, 0, 0, []),
                                            (4, 3, 0, 0, 0, []), (3, 1, 120, 0, 0, [])]),
                                        PUnit.unit)
                                  else
                                    some
                                      (((1, 0),
                                          [(5, 0, 0, 0, 0, []), (4, 1, 0, 0, 0, []), (4, 2, 0, 0, 0, []),
                                            (4, 3, 0, 0, 0, [])]),
                                        PUnit.unit)
                              else
                                bif r0.fst.snd.fst == 6 then
                                  bif r0.fst.snd.snd.fst == 3 then
                                    bif decide (r0.fst.fst.snd > 0) then
                                      some
                                        (((r0.fst.fst.fst, r0.fst.fst.snd),
                                            [(1, 4, 0, 0, 0, []),
                                              (3, 3, IntKind.i64.wrap (Int.tdiv r0.fst.fst.snd 3), 0, 0, [])]),
                                          PUnit.unit)
                                    else some (((r0.fst.fst.fst, r0.fst.fst.snd), []), PUnit.unit)
                                  else some (((r0.fst.fst.fst, r0.fst.fst.snd), []), PUnit.unit)
                                else some (((r0.fst.fst.fst, r0.fst.fst.snd), []), PUnit.unit)
                        else
                          bif r0.fst.snd.fst == 5 then
                            bif r0.fst.fst.fst == 6 then
                              bif r0.fst.snd.fst != 2 then
                                some
                                  (((1, 0),
                                      [(2, 0, 0, 5, 2, []), (5, 0, 0, 0, 0, []), (4, 1, 0, 0, 0, []), (4, 2, 0, 0, 0, []),
                                        (4, 3, 0, 0, 0, []), (8, 0, 0, 0, 0, []), (3, 1, 120, 0, 0, [])]),
                                    PUnit.unit)
                              else
                                some
                                  (((1, 0),
                                      [(2, 0, 0, 5, 2, []), (5, 0, 0, 0, 0, []), (4, 1, 0, 0, 0, []), (4, 2, 0, 0, 0, []),
                                        (4, 3, 0, 0, 0, []), (8, 0, 0, 0, 0, [])]),
                                    PUnit.unit)
                            else
                              bif r0.fst.snd.fst != 2 then
                                some
                                  (((1, 0),
                                      [(2, 0, 0, 5, 2, []), (5, 0, 0, 0, 0, []), (4, 1, 0, 0, 0, []), (4, 2, 0, 0, 0, []),
                                        (4, 3, 0, 0, 0, []), (3, 1, 120, 0, 0, [])]),
                                    PUnit.unit)
                              else
                                some
                                  (((1, 0),
                                      [(2, 0, 0, 5, 2, []), (5, 0, 0, 0, 0, []), (4, 1, 0, 0, 0, []), (4, 2, 0, 0, 0, []),
                                        (4, 3, 0, 0, 0, [])]),
                                    PUnit.unit)
                          else
                            bif r0.fst.snd.fst == 4 then
                              bif r0.fst.fst.fst == 6 then
                                bif r0.fst.snd.fst != 2 then
                                  some
                                    (((1, 0),
                                        [(5, 0, 0, 0, 0, []), (4, 1, 0, 0, 0, []), (4, 2, 0, 0, 0, []),
                                          (4, 3, 0, 0, 0, []), (8, 0, 0, 0, 0, []), (3, 1, 120, 0, 0, [])]),
                                      PUnit.unit)
                                else
                                  some
                                    (((1, 0),
                                        [(5, 0, 0, 0, 0, []), (4, 1, 0, 0, 0, []), (4, 2, 0, 0, 0, []),
                                          (4, 3, 0, 0, 0, []), (8, 0, 0, 0, 0, [])]),
                                      PUnit.unit)
                              else
                                bif r0.fst.snd.fst != 2 then
                                  some
                                    (((1, 0),
                                        [(5, 0, 0, 0, 0, []), (4, 1, 0, 0, 0, []), (4, 2, 0, 0, 0, []),
                                          (4, 3, 0, 0, 0, []), (3, 1, 120, 0, 0, [])]),
                                      PUnit.unit)
                                else
                                  some
                                    (((1, 0),
                                        [(5, 0, 0, 0, 0, []), (4, 1, 0, 0, 0, []), (4, 2, 0, 0, 0, []),
                                          (4, 3, 0, 0, 0, [])]),
                                      PUnit.unit)
                            else
                              bif r0.fst.snd.fst == 6 then
                                bif r0.fst.snd.snd.fst == 3 then
                                  bif decide (r0.fst.fst.snd > 0) then
                                    some
                                      (((r0.fst.fst.fst, r0.fst.fst.snd),
                                          [(1, 4, 0, 0, 0, []),
                                            (3, 3, IntKind.i64.wrap (Int.tdiv r0.fst.fst.snd 3), 0, 0, [])]),
                                        PUnit.unit)
                                  else some (((r0.fst.fst.fst, r0.fst.fst.snd), []), PUnit.unit)
                                else some (((r0.fst.fst.fst, r0.fst.fst.snd), []), PUnit.unit)
                              else some (((r0.fst.fst.fst, r0.fst.fst.snd), []), PUnit.unit)
                      else
                        bif decide (r0.fst.fst.fst = 6) then
                          bif r0.fst.snd.fst != 5 then
                            bif r0.fst.snd.fst == 4 then
                              bif r0.fst.fst.fst == 6 then
                                bif r0.fst.snd.fst != 2 then
                                  some
                                    (((1, 0),
                                        [(5, 0, 0, 0, 0, []), (4, 1, 0, 0, 0, []), (4, 2, 0, 0, 0, []),
                                          (4, 3, 0, 0, 0, []), (8, 0, 0, 0, 0, []), (3, 1, 120, 0, 0, [])]),
                                      PUnit.unit)
                                else
                                  some
                                    (((1, 0),
                                        [(5, 0, 0, 0, 0, []), (4, 1, 0, 0, 0, []), (4, 2, 0, 0, 0, []),
                                          (4, 3, 0, 0, 0, []), (8, 0, 0, 0, 0, [])]),
                                      PUnit.unit)
                              else
                                bif r0.fst.snd.fst != 2 then
                                  some
                                    (((1, 0),
                                        [(5, 0, 0, 0, 0, []), (4, 1, 0, 0, 0, []), (4, 2, 0, 0, 0, []),
                                          (4, 3, 0, 0, 0, []), (3, 1, 120, 0, 0, [])]),
                                      PUnit.unit)
                                else
                                  some
                                    (((1, 0),
                                        [(5, 0, 0, 0, 0, []), (4, 1, 0, 0, 0, []), (4, 2, 0, 0, 0, []),
                                          (4, 3, 0, 0, 0, [])]),
                                      PUnit.unit)
                            else
                              bif r0.fst.snd.fst == 6 then
                                bif r0.fst.snd.snd.fst == 3 then
                                  bif decide (r0.fst.fst.snd > 0) then
                                    some
                                      (((r0.fst.fst.fst, r0.fst.fst.snd),
                                          [(1, 4, 0, 0, 0, []),
                                            (3, 3, IntKind.i64.wrap (Int.tdiv r0.fst.fst.snd 3), 0, 0, [])]),
                                        PUnit.unit)
                                  else some (((r0.fst.fst.fst, r0.fst.fst.snd), []), PUnit.unit)
                                else some (((r0.fst.fst.fst, r0.fst.fst.snd), []), PUnit.unit)
                              else some (((r0.fst.fst.fst, r0.fst.fst.snd), []), PUnit.unit)
                          else
                            bif r0.fst.snd.snd.fst == 4 then
                              bif r0.fst.fst.snd == 0 then some (((r0.fst.fst.fst, r0.fst.fst.snd), []), PUnit.unit)
                              else
                                some (((r0.fst.fst.fst, r0.fst.fst.snd), [(3, 2, r0.fst.fst.snd, 0, 0, [])]), PUnit.unit)
                            else
                              bif r0.fst.snd.snd.fst == 2 then
                                bif r0.fst.fst.snd == 0 then
                                  some (((r0.fst.fst.fst, r0.fst.fst.snd), [(9, 0, 0, 0, 0, [])]), PUnit.unit)
                                else
                                  some
                                    (((r0.fst.fst.fst, r0.fst.fst.snd),
                                        [(3, 2, r0.fst.fst.snd, 0, 0, []), (9, 0, 0, 0, 0, [])]),
                                      PUnit.unit)
                              else
                                bif r0.fst.snd.snd.fst == 5 then
                                  some (((r0.fst.fst.fst, r0.fst.fst.snd), [(9, 0, 0, 0, 0, [])]), PUnit.unit)
                                else
                                  bif r0.fst.fst.fst == 6 then
                                    bif r0.fst.snd.fst != 2 then
                                      some
                                        (((1, 0),
                                            [(2, 0, 0, 5, 3, []), (5, 0, 0, 0, 0, []), (4, 1, 0, 0, 0, []),
                                              (4, 2, 0, 0, 0, []), (4, 3, 0, 0, 0, []), (8, 0, 0, 0, 0, []),
                                              (3, 1, 120, 0, 0, [])]),
                                          PUnit.unit)
                                    else
                                      some
                                        (((1, 0),
                                            [(2, 0, 0, 5, 3, []), (5, 0, 0, 0, 0, []), (4, 1, 0, 0, 0, []),
                                              (4, 2, 0, 0, 0, []), (4, 3, 0, 0, 0, []), (8, 0, 0, 0, 0, [])]),
                                          PUnit.unit)
                                  else
                                    bif r0.fst.snd.fst != 2 then
                                      some
                                        (((1, 0),
                                            [(2, 0, 0, 5, 3, []), (5, 0, 0, 0, 0, []), (4, 1, 0, 0, 0, []),
                                              (4, 2, 0, 0, 0, []), (4, 3, 0, 0, 0, []), (3, 1, 120, 0, 0, [])]),
                                          PUnit.unit)
                                    else
                                      some
                                        (((1, 0),
                                            [(2, 0, 0, 5, 3, []), (5, 0, 0, 0, 0, []), (4, 1, 0, 0, 0, []),
                                              (4, 2, 0, 0, 0, []), (4, 3, 0, 0, 0, [])]),
                                          PUnit.unit)
                        else none
        else none
    else none
theorem fe (x16 : F16.FT) (x17 : F17.FT) (d : (Int × Int) × (Int × Int × Int × Int × Int × List (Int))) : bodyF (tabC Tryd.prog (tab x16 x17) ((9, .none) :: pls x16 x17) 100 10) 100 9 i o d = fP x16 x17 d := by kernel_rfl
noncomputable def f : FT := fP F16.f F17.f
def plan : Plan := .none
theorem planOk : PlanOk Tryd.prog (plan) (bodyOf Tryd.prog 9) := (planOk_of (plan) _ [] (by kernel_rfl) trivial)
theorem meets : MeetsF Tryd.prog 9 ⟨i, o, f⟩ :=
  funcT (fuel := 100) (depth := 10) (pl := (9, plan) :: pls F16.f F17.f) mixed tabS ⟨planOk, plsP⟩ (fun d => fe F16.f F17.f d)
theorem spec : SpecOk Tryd.prog (fun _ => none) 9 (specF ⟨i, o, f⟩) := specF_ok (by kernel_rfl) meets
end Go.Proofs.YtendadfdbmoadaaDoor.F9
