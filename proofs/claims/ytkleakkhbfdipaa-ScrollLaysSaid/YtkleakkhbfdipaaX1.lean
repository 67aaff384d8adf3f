/- What comes of function 10 of this program, (*consulate.scroll.Reader).Err, as the engine gives it. -/
import Derived.Test.YtkleakkhbfdipaaChecked
import Derived.Test.YtkleakkhbfdipaaZN
namespace Go.Proofs.Ytkleakkhbfdipaa.F10
open Go Go.Proofs Go.Proofs.Ytkleakkhbfdipaa Go.RowKit Go.Proofs.Ytkleakkhbfdipaa.Sx
set_option linter.unusedVariables false
set_option maxRecDepth 100000
def tab : List (FuncId × Sx.Spec) := []
def pls : List (FuncId × Plan) := []
@[reducible] def i : Sh := .pt true 69 (.sl true 5 (.sc (.int .u8) .nil) (.sc (.int .i64) (.sl true 3 (.sc (.int .i64) .nil) (.sc (.int .i64) .nil)))) .nil
@[reducible] def o : Sh := .sc (.int .i64) .nil
abbrev FT := ((List (Int) × Int × List (Int) × Int)) → Option (Int × ((List (Int) × Int × List (Int) × Int)))
theorem tabS : AllS Try.prog (tab) := trivial
theorem plsP : AllP Try.prog (pls) := trivial
theorem mixed : Try.prog.follows .mixedOrders = true := by kernel_rfl
def fP : FT := fun (r0_2, r1_2, r2_2, r3_2) =>
    bif (↑r2_2.length : Int) == 0 then
      bif decide (0 + r0_2.length ≤ r0_2.length) && true then
        bif decide (0 + r2_2.length ≤ r2_2.length) && true then
          some (2, List.take r0_2.length r0_2, r1_2, List.take r2_2.length r2_2, r3_2)
        else none
      else none
    else
      bif decide (0 + r0_2.length ≤ r0_2.length) && true then
        bif decide (0 + r2_2.length ≤ r2_2.length) && true then
          some (r3_2, List.take r0_2.length r0_2, r1_2, List.take r2_2.length r2_2, r3_2)
        else none
      else none
theorem fe (d : (List (Int) × Int × List (Int) × Int)) : bodyF (tabC Try.prog (tab) ((10, .none) :: pls) 100 12) 100 10 i o d = fP d := by kernel_rfl
noncomputable def f : FT := fP
def plan : Plan := .none
theorem planOk : PlanOk Try.prog (plan) (bodyOf Try.prog 10) := (planOk_of (plan) _ [] (by kernel_rfl) trivial)
theorem meets : MeetsF Try.prog 10 ⟨i, o, f⟩ :=
  funcT (fuel := 100) (depth := 12) (pl := (10, plan) :: pls) mixed tabS ⟨planOk, plsP⟩ (fun d => fe  d)
theorem spec : SpecOk Try.prog (fun _ => none) 10 (specF ⟨i, o, f⟩) := specF_ok (by kernel_rfl) meets
end Go.Proofs.Ytkleakkhbfdipaa.F10

/- What comes of function 19 of this program, (*consulate.scroll.Reader).Left, as the engine gives it. -/
namespace Go.Proofs.Ytkleakkhbfdipaa.F19
open Go Go.Proofs Go.Proofs.Ytkleakkhbfdipaa Go.RowKit Go.Proofs.Ytkleakkhbfdipaa.Sx
set_option linter.unusedVariables false
set_option maxRecDepth 100000
def tab (x10 : F10.FT) : List (FuncId × Sx.Spec) := [(10, specF ⟨F10.i, F10.o, x10⟩)]
def pls (x10 : F10.FT) : List (FuncId × Plan) := []
@[reducible] def i : Sh := .pt true 69 (.sl true 5 (.sc (.int .u8) .nil) (.sc (.int .i64) (.sl true 3 (.sc (.int .i64) .nil) (.sc (.int .i64) .nil)))) .nil
@[reducible] def o : Sh := .sc (.int .i64) .nil
abbrev FT := ((List (Int) × Int × List (Int) × Int)) → Option (Int × ((List (Int) × Int × List (Int) × Int)))
theorem tabS : AllS Try.prog (tab F10.f) := ⟨F10.spec, trivial⟩
theorem plsP : AllP Try.prog (pls F10.f) := trivial
theorem mixed : Try.prog.follows .mixedOrders = true := by kernel_rfl
def fP (x10 : F10.FT) : FT := fun (r0_2, r1_2, r2_2, r3_2) =>
    (x10 (r0_2, r1_2, r2_2, r3_2)).bind fun r0 =>
      bif r0.fst != 0 then some (0, r0.snd)
      else
        bif
            decide
              (0 ≤ IntKind.i64.wrap ((↑r0.snd.snd.snd.fst.length : Int) - 1) ∧
                IntKind.i64.wrap ((↑r0.snd.snd.snd.fst.length : Int) - 1) < (↑r0.snd.snd.snd.fst.length : Int) ∧
                  0 < r0.snd.snd.snd.fst.length) then
          bif
              decide
                (0 + (IntKind.i64.wrap ((↑r0.snd.snd.snd.fst.length : Int) - 1)).toNat < r0.snd.snd.snd.fst.length) then
            bif decide (0 + r0.snd.fst.length ≤ r0.snd.fst.length) && true then
              bif decide (0 + r0.snd.snd.snd.fst.length ≤ r0.snd.snd.snd.fst.length) && true then
                some
                  (IntKind.i64.wrap
                      (r0.snd.snd.snd.fst.getD (0 + (IntKind.i64.wrap ((↑r0.snd.snd.snd.fst.length : Int) - 1)).toNat) 0 -
                        r0.snd.snd.fst),
                    List.take r0.snd.fst.length (List.drop 0 r0.snd.fst), r0.snd.snd.fst,
                    List.take r0.snd.snd.snd.fst.length (List.drop 0 r0.snd.snd.snd.fst), r0.snd.snd.snd.snd)
              else none
            else none
          else none
        else none
theorem fe (x10 : F10.FT) (d : (List (Int) × Int × List (Int) × Int)) : bodyF (tabC Try.prog (tab x10) ((19, .none) :: pls x10) 100 12) 100 19 i o d = fP x10 d := by kernel_rfl
noncomputable def f : FT := fP F10.f
def plan : Plan := .none
theorem planOk : PlanOk Try.prog (plan) (bodyOf Try.prog 19) := (planOk_of (plan) _ [] (by kernel_rfl) trivial)
theorem meets : MeetsF Try.prog 19 ⟨i, o, f⟩ :=
  funcT (fuel := 100) (depth := 12) (pl := (19, plan) :: pls F10.f) mixed tabS ⟨planOk, plsP⟩ (fun d => fe F10.f d)
theorem spec : SpecOk Try.prog (fun _ => none) 19 (specF ⟨i, o, f⟩) := specF_ok (by kernel_rfl) meets
end Go.Proofs.Ytkleakkhbfdipaa.F19

/- What comes of function 18 of this program, (*consulate.scroll.Reader).Fail, as the engine gives it. -/
namespace Go.Proofs.Ytkleakkhbfdipaa.F18
open Go Go.Proofs Go.Proofs.Ytkleakkhbfdipaa Go.RowKit Go.Proofs.Ytkleakkhbfdipaa.Sx
set_option linter.unusedVariables false
set_option maxRecDepth 100000
def tab (x10 : F10.FT) : List (FuncId × Sx.Spec) := [(10, specF ⟨F10.i, F10.o, x10⟩)]
def pls (x10 : F10.FT) : List (FuncId × Plan) := []
@[reducible] def i : Sh := .pt true 69 (.sl true 5 (.sc (.int .u8) .nil) (.sc (.int .i64) (.sl true 3 (.sc (.int .i64) .nil) (.sc (.int .i64) .nil)))) (.sc (.int .i64) .nil)
@[reducible] def o : Sh := .nil
abbrev FT := ((List (Int) × Int × List (Int) × Int) × Int) → Option (Unit × ((List (Int) × Int × List (Int) × Int)))
theorem tabS : AllS Try.prog (tab F10.f) := ⟨F10.spec, trivial⟩
theorem plsP : AllP Try.prog (pls F10.f) := trivial
theorem mixed : Try.prog.follows .mixedOrders = true := by kernel_rfl
def fP (x10 : F10.FT) : FT := fun ((r0_2, r1_2, r2_2, r3_2), e) =>
    (x10 (r0_2, r1_2, r2_2, r3_2)).bind fun r0 =>
      bif r0.fst == 0 then
        bif decide (0 + r0.snd.fst.length ≤ r0.snd.fst.length) && true then
          bif decide (0 + r0.snd.snd.snd.fst.length ≤ r0.snd.snd.snd.fst.length) && true then
            some
              (PUnit.unit, List.take r0.snd.fst.length (List.drop 0 r0.snd.fst), r0.snd.snd.fst,
                List.take r0.snd.snd.snd.fst.length (List.drop 0 r0.snd.snd.snd.fst), e)
          else none
        else none
      else some (PUnit.unit, r0.snd)
theorem fe (x10 : F10.FT) (d : (List (Int) × Int × List (Int) × Int) × Int) : bodyF (tabC Try.prog (tab x10) ((18, .none) :: pls x10) 100 12) 100 18 i o d = fP x10 d := by kernel_rfl
noncomputable def f : FT := fP F10.f
def plan : Plan := .none
theorem planOk : PlanOk Try.prog (plan) (bodyOf Try.prog 18) := (planOk_of (plan) _ [] (by kernel_rfl) trivial)
theorem meets : MeetsF Try.prog 18 ⟨i, o, f⟩ :=
  funcT (fuel := 100) (depth := 12) (pl := (18, plan) :: pls F10.f) mixed tabS ⟨planOk, plsP⟩ (fun d => fe F10.f d)
theorem spec : SpecOk Try.prog (fun _ => none) 18 (specF ⟨i, o, f⟩) := specF_ok (by kernel_rfl) meets
end Go.Proofs.Ytkleakkhbfdipaa.F18

/- What comes of function 53 of this program, (*consulate.scroll.Reader).has, as the engine gives it. -/
namespace Go.Proofs.Ytkleakkhbfdipaa.F53
open Go Go.Proofs Go.Proofs.Ytkleakkhbfdipaa Go.RowKit Go.Proofs.Ytkleakkhbfdipaa.Sx
set_option linter.unusedVariables false
set_option maxRecDepth 100000
def tab (x19 : F19.FT) (x18 : F18.FT) (x10 : F10.FT) : List (FuncId × Sx.Spec) := [(19, specF ⟨F19.i, F19.o, x19⟩), (18, specF ⟨F18.i, F18.o, x18⟩), (10, specF ⟨F10.i, F10.o, x10⟩)]
def pls (x19 : F19.FT) (x18 : F18.FT) (x10 : F10.FT) : List (FuncId × Plan) := []
@[reducible] def i : Sh := .pt true 69 (.sl true 5 (.sc (.int .u8) .nil) (.sc (.int .i64) (.sl true 3 (.sc (.int .i64) .nil) (.sc (.int .i64) .nil)))) (.sc (.int .i64) .nil)
@[reducible] def o : Sh := .sc .bool .nil
abbrev FT := ((List (Int) × Int × List (Int) × Int) × Int) → Option (Bool × ((List (Int) × Int × List (Int) × Int)))
theorem tabS : AllS Try.prog (tab F19.f F18.f F10.f) := ⟨F19.spec, F18.spec, F10.spec, trivial⟩
theorem plsP : AllP Try.prog (pls F19.f F18.f F10.f) := trivial
theorem mixed : Try.prog.follows .mixedOrders = true := by kernel_rfl
def fP (x19 : F19.FT) (x18 : F18.FT) (x10 : F10.FT) : FT := fun ((r0_2, r1_2, r2_2, r3_2), n) =>
    bif decide (n < 0) then
      (x18 ((r0_2, r1_2, r2_2, r3_2), 4)).bind fun r0 => (x10 r0.snd).bind fun r1 => some (r1.fst == 0, r1.snd)
    else
      (x19 (r0_2, r1_2, r2_2, r3_2)).bind fun r0 =>
        bif decide (n > r0.fst) then
          (x18 (r0.snd, 4)).bind fun r1 => (x10 r1.snd).bind fun r2 => some (r2.fst == 0, r2.snd)
        else (x10 r0.snd).bind fun r1 => some (r1.fst == 0, r1.snd)
theorem fe (x19 : F19.FT) (x18 : F18.FT) (x10 : F10.FT) (d : (List (Int) × Int × List (Int) × Int) × Int) : bodyF (tabC Try.prog (tab x19 x18 x10) ((53, .none) :: pls x19 x18 x10) 100 12) 100 53 i o d = fP x19 x18 x10 d := by kernel_rfl
noncomputable def f : FT := fP F19.f F18.f F10.f
def plan : Plan := .none
theorem planOk : PlanOk Try.prog (plan) (bodyOf Try.prog 53) := (planOk_of (plan) _ [] (by kernel_rfl) trivial)
theorem meets : MeetsF Try.prog 53 ⟨i, o, f⟩ :=
  funcT (fuel := 100) (depth := 12) (pl := (53, plan) :: pls F19.f F18.f F10.f) mixed tabS ⟨planOk, plsP⟩ (fun d => fe F19.f F18.f F10.f d)
theorem spec : SpecOk Try.prog (fun _ => none) 53 (specF ⟨i, o, f⟩) := specF_ok (by kernel_rfl) meets
end Go.Proofs.Ytkleakkhbfdipaa.F53

/- What comes of function 51 of this program, slices.Clone[[]byte,byte], as the engine gives it. -/
namespace Go.Proofs.Ytkleakkhbfdipaa.F51
open Go Go.Proofs Go.Proofs.Ytkleakkhbfdipaa Go.RowKit Go.Proofs.Ytkleakkhbfdipaa.Sx
set_option linter.unusedVariables false
set_option maxRecDepth 100000
def tab : List (FuncId × Sx.Spec) := []
def pls : List (FuncId × Plan) := []
@[reducible] def i : Sh := .sl false 5 (.sc (.int .u8) .nil) .nil
@[reducible] def o : Sh := .sl true 5 (.sc (.int .u8) .nil) .nil
abbrev FT := List (Int) → Option (List (Int) × Unit)
theorem tabS : AllS Try.prog (tab) := trivial
theorem plsP : AllP Try.prog (pls) := trivial
theorem mixed : Try.prog.follows .mixedOrders = true := by kernel_rfl
def fP : FT := fun s =>
    bif decide (0 < s.length) then
      bif decide (0 + s.length ≤ s.length) then
        bif decide (0 + (List.take s.length s).length ≤ 1073741824) then
          bif decide (0 + (0 + (List.take s.length s).length) ≤ ([] ++ List.take s.length s).length) && true then
            some (List.take (0 + (List.take s.length s).length) (List.drop 0 ([] ++ List.take s.length s)), PUnit.unit)
          else none
        else none
      else none
    else none
theorem fe (d : List (Int)) : bodyF (tabC Try.prog (tab) ((51, .none) :: pls) 100 12) 100 51 i o d = fP d := by kernel_rfl
noncomputable def f : FT := fun d => if 0 < d.length then fP d else some ([], ())
def plan : Plan := .none
theorem planOk : PlanOk Try.prog (plan) (bodyOf Try.prog 51) := (planOk_of (plan) _ [] (by kernel_rfl) trivial)
theorem meets : MeetsF Try.prog 51 ⟨i, o, f⟩ :=
  sliceT (fuel := 100) (depth := 12) (pl := (51, plan) :: pls) (z := (show Den o from [])) mixed tabS ⟨planOk, plsP⟩ (fun (d : List (Int)) hd => (fe  d).trans (show fP d = f d from (if_pos (c := 0 < d.length) hd).symm)) (fun (d : List (Int)) h => (show f d = _ from if_neg (c := 0 < d.length) (by have h : d.length = 0 := h; omega))) (fun c => by kernel_rfl) (fun a c => by kernel_rfl)
theorem spec : SpecOk Try.prog (fun _ => none) 51 (specF ⟨i, o, f⟩) := specF_ok (by kernel_rfl) meets
end Go.Proofs.Ytkleakkhbfdipaa.F51

/- What comes of function 13 of this program, (*consulate.scroll.Reader).Take, as the engine gives it. -/
namespace Go.Proofs.Ytkleakkhbfdipaa.F13
open Go Go.Proofs Go.Proofs.Ytkleakkhbfdipaa Go.RowKit Go.Proofs.Ytkleakkhbfdipaa.Sx
set_option linter.unusedVariables false
set_option maxRecDepth 100000
def tab (x53 : F53.FT) (x51 : F51.FT) : List (FuncId × Sx.Spec) := [(53, specF ⟨F53.i, F53.o, x53⟩), (51, specF ⟨F51.i, F51.o, x51⟩)]
def pls (x53 : F53.FT) (x51 : F51.FT) : List (FuncId × Plan) := []
@[reducible] def i : Sh := .pt true 69 (.sl true 5 (.sc (.int .u8) .nil) (.sc (.int .i64) (.sl true 3 (.sc (.int .i64) .nil) (.sc (.int .i64) .nil)))) (.sc (.int .i64) .nil)
@[reducible] def o : Sh := .sl true 5 (.sc (.int .u8) .nil) .nil
abbrev FT := ((List (Int) × Int × List (Int) × Int) × Int) → Option (List (Int) × ((List (Int) × Int × List (Int) × Int)))
theorem tabS : AllS Try.prog (tab F53.f F51.f) := ⟨F53.spec, F51.spec, trivial⟩
theorem plsP : AllP Try.prog (pls F53.f F51.f) := trivial
theorem mixed : Try.prog.follows .mixedOrders = true := by kernel_rfl
def fP (x53 : F53.FT) (x51 : F51.FT) : FT := fun ((r0_2, r1_2, r2_2, r3_2), n) =>
    (x53 ((r0_2, r1_2, r2_2, r3_2), n)).bind fun r0 =>
      bif !r0.fst then some ([], r0.snd)
      else
        bif
            decide
              (0 ≤ IntKind.i64.wrap (IntKind.i64.wrap (r0.snd.snd.fst + n) - n) ∧
                IntKind.i64.wrap (IntKind.i64.wrap (r0.snd.snd.fst + n) - n) ≤
                    (some (IntKind.i64.wrap (r0.snd.snd.fst + n))).getD (↑r0.snd.fst.length : Int) ∧
                  (some (IntKind.i64.wrap (r0.snd.snd.fst + n))).getD (↑r0.snd.fst.length : Int) ≤
                      (↑r0.snd.fst.length : Int) ∧
                    0 + r0.snd.fst.length ≤ r0.snd.fst.length) then
          bif decide (IntKind.i64.wrap (IntKind.i64.wrap (r0.snd.snd.fst + n) - n) = (↑r0.snd.fst.length : Int)) then
            bif decide (0 ≤ 0 + r0.snd.fst.length ∧ 0 + r0.snd.fst.length ≤ r0.snd.fst.length) then
              (x51 []).bind fun r1 =>
                bif decide (0 + List.length r1.fst ≤ List.length r1.fst) && true then
                  bif decide (0 + r0.snd.fst.length ≤ r0.snd.fst.length) && true then
                    bif decide (0 + r0.snd.snd.snd.fst.length ≤ r0.snd.snd.snd.fst.length) && true then
                      some
                        (List.take (List.length r1.fst) (List.drop 0 r1.fst),
                          List.take r0.snd.fst.length (List.drop 0 r0.snd.fst), IntKind.i64.wrap (r0.snd.snd.fst + n),
                          List.take r0.snd.snd.snd.fst.length (List.drop 0 r0.snd.snd.snd.fst), r0.snd.snd.snd.snd)
                    else none
                  else none
                else none
            else none
          else
            bif
                decide
                    (0 + (IntKind.i64.wrap (IntKind.i64.wrap (r0.snd.snd.fst + n) - n)).toNat +
                        ((some (IntKind.i64.wrap (r0.snd.snd.fst + n))).getD (↑r0.snd.fst.length : Int) -
                            IntKind.i64.wrap (IntKind.i64.wrap (r0.snd.snd.fst + n) - n)).toNat ≤
                      r0.snd.fst.length) &&
                  true then
              (x51
                    (List.take
                      ((some (IntKind.i64.wrap (r0.snd.snd.fst + n))).getD (↑r0.snd.fst.length : Int) -
                          IntKind.i64.wrap (IntKind.i64.wrap (r0.snd.snd.fst + n) - n)).toNat
                      (List.drop (0 + (IntKind.i64.wrap (IntKind.i64.wrap (r0.snd.snd.fst + n) - n)).toNat)
                        r0.snd.fst))).bind
                fun r1 =>
                bif decide (0 + List.length r1.fst ≤ List.length r1.fst) && true then
                  bif decide (0 + r0.snd.fst.length ≤ r0.snd.fst.length) && true then
                    bif decide (0 + r0.snd.snd.snd.fst.length ≤ r0.snd.snd.snd.fst.length) && true then
                      some
                        (List.take (List.length r1.fst) (List.drop 0 r1.fst),
                          List.take r0.snd.fst.length (List.drop 0 r0.snd.fst), IntKind.i64.wrap (r0.snd.snd.fst + n),
                          List.take r0.snd.snd.snd.fst.length (List.drop 0 r0.snd.snd.snd.fst), r0.snd.snd.snd.snd)
                    else none
                  else none
                else none
            else none
        else none
theorem fe (x53 : F53.FT) (x51 : F51.FT) (d : (List (Int) × Int × List (Int) × Int) × Int) : bodyF (tabC Try.prog (tab x53 x51) ((13, .none) :: pls x53 x51) 100 12) 100 13 i o d = fP x53 x51 d := by kernel_rfl
noncomputable def f : FT := fP F53.f F51.f
def plan : Plan := .none
theorem planOk : PlanOk Try.prog (plan) (bodyOf Try.prog 13) := (planOk_of (plan) _ [] (by kernel_rfl) trivial)
theorem meets : MeetsF Try.prog 13 ⟨i, o, f⟩ :=
  funcT (fuel := 100) (depth := 12) (pl := (13, plan) :: pls F53.f F51.f) mixed tabS ⟨planOk, plsP⟩ (fun d => fe F53.f F51.f d)
theorem spec : SpecOk Try.prog (fun _ => none) 13 (specF ⟨i, o, f⟩) := specF_ok (by kernel_rfl) meets
end Go.Proofs.Ytkleakkhbfdipaa.F13

/- What comes of function 14 of this program, (*consulate.scroll.Reader).Rest, as the engine gives it. -/
namespace Go.Proofs.Ytkleakkhbfdipaa.F14
open Go Go.Proofs Go.Proofs.Ytkleakkhbfdipaa Go.RowKit Go.Proofs.Ytkleakkhbfdipaa.Sx
set_option linter.unusedVariables false
set_option maxRecDepth 100000
def tab (x19 : F19.FT) (x13 : F13.FT) : List (FuncId × Sx.Spec) := [(19, specF ⟨F19.i, F19.o, x19⟩), (13, specF ⟨F13.i, F13.o, x13⟩)]
def pls (x19 : F19.FT) (x13 : F13.FT) : List (FuncId × Plan) := []
@[reducible] def i : Sh := .pt true 69 (.sl true 5 (.sc (.int .u8) .nil) (.sc (.int .i64) (.sl true 3 (.sc (.int .i64) .nil) (.sc (.int .i64) .nil)))) .nil
@[reducible] def o : Sh := .sl true 5 (.sc (.int .u8) .nil) .nil
abbrev FT := ((List (Int) × Int × List (Int) × Int)) → Option (List (Int) × ((List (Int) × Int × List (Int) × Int)))
theorem tabS : AllS Try.prog (tab F19.f F13.f) := ⟨F19.spec, F13.spec, trivial⟩
theorem plsP : AllP Try.prog (pls F19.f F13.f) := trivial
theorem mixed : Try.prog.follows .mixedOrders = true := by kernel_rfl
def fP (x19 : F19.FT) (x13 : F13.FT) : FT := fun (r0_2, r1_2, r2_2, r3_2) =>
    (x19 (r0_2, r1_2, r2_2, r3_2)).bind fun r0 =>
      (x13 (r0.snd, r0.fst)).bind fun r1 =>
        bif decide (0 + List.length r1.fst ≤ List.length r1.fst) && true then
          some (List.take (List.length r1.fst) (List.drop 0 r1.fst), r1.snd)
        else none
theorem fe (x19 : F19.FT) (x13 : F13.FT) (d : (List (Int) × Int × List (Int) × Int)) : bodyF (tabC Try.prog (tab x19 x13) ((14, .none) :: pls x19 x13) 100 12) 100 14 i o d = fP x19 x13 d := by kernel_rfl
noncomputable def f : FT := fP F19.f F13.f
def plan : Plan := .none
theorem planOk : PlanOk Try.prog (plan) (bodyOf Try.prog 14) := (planOk_of (plan) _ [] (by kernel_rfl) trivial)
theorem meets : MeetsF Try.prog 14 ⟨i, o, f⟩ :=
  funcT (fuel := 100) (depth := 12) (pl := (14, plan) :: pls F19.f F13.f) mixed tabS ⟨planOk, plsP⟩ (fun d => fe F19.f F13.f d)
theorem spec : SpecOk Try.prog (fun _ => none) 14 (specF ⟨i, o, f⟩) := specF_ok (by kernel_rfl) meets
end Go.Proofs.Ytkleakkhbfdipaa.F14

/- What comes of function 52 of this program, consulate.scroll.number[byte], as the engine gives it. -/
namespace Go.Proofs.Ytkleakkhbfdipaa.F52
open Go Go.Proofs Go.Proofs.Ytkleakkhbfdipaa Go.RowKit Go.Proofs.Ytkleakkhbfdipaa.Sx
set_option linter.unusedVariables false
set_option maxRecDepth 100000
def tab (x13 : F13.FT) : List (FuncId × Sx.Spec) := [(13, specF ⟨F13.i, F13.o, x13⟩)]
def pls (x13 : F13.FT) : List (FuncId × Plan) := []
@[reducible] def k1 : Sh := .sl true 5 (.sc (.int .u8) .nil) (.sc (.int .i64) .nil)
@[reducible] def i1 : Sh := .sc (.int .u8) (.sc (.int .i64) .nil)
@[reducible] def o1 : Sh := .sc (.int .u8) .nil
abbrev G1 := (List (Int) × Int) → (Int × Int) → Option (Int × Unit)
def u1 (F : G1) : Un := ⟨23, [10, 11], k1, [5, 12], i1, [5], o1, [10, 11], [(.exit 0, [true])], F⟩
@[reducible] def i : Sh := .pt true 69 (.sl true 5 (.sc (.int .u8) .nil) (.sc (.int .i64) (.sl true 3 (.sc (.int .i64) .nil) (.sc (.int .i64) .nil)))) (.sc (.int .i64) .nil)
@[reducible] def o : Sh := .sc (.int .u8) .nil
abbrev FT := ((List (Int) × Int × List (Int) × Int) × Int) → Option (Int × ((List (Int) × Int × List (Int) × Int)))
theorem tabS : AllS Try.prog (tab F13.f) := ⟨F13.spec, trivial⟩
theorem plsP : AllP Try.prog (pls F13.f) := trivial
theorem mixed : Try.prog.follows .mixedOrders = true := by kernel_rfl
def r1P (x13 : F13.FT) : (List (Int) × Int) → (Int × Int) → Option ((Int × Int) ⊕ (Int × Unit)) := fun (t10, t11) (n, t12) =>
    bif decide (t12 < t11) then
      bif decide (0 ≤ t12 ∧ t12 < (↑t10.length : Int) ∧ 0 < t10.length) then
        bif decide (0 + t12.toNat < t10.length) then
          some
            (Sum.inl
              (IntKind.u8.wrap
                  (↑((IntKind.u8.wrap (IntKind.u8.wrap (n * 128) * 2) % 256).toNat |||
                        (t10.getD (0 + t12.toNat) 0 % 256).toNat) :
                    Int),
                IntKind.i64.wrap (t12 + 1)))
        else none
      else none
    else some (Sum.inr (n, PUnit.unit))
theorem r1e (x13 : F13.FT) (kd : List (Int) × Int) (d : Int × Int) : roundF (tabC Try.prog (tab x13) (pls x13) 100 12) 100 .none (u1 fun _ _ => none) (codeAt [1, 1, 0, 1, 0, 0] (bodyOf Try.prog 52)) kd d = r1P x13 kd d := by kernel_rfl
noncomputable def r1 : (List (Int) × Int) → (Int × Int) → Option ((Int × Int) ⊕ (Int × Unit)) := r1P F13.f
noncomputable def l1 : G1 := fun kd d => iterO (r1 kd) d
theorem ok1 : UnOk Try.prog (u1 l1) (codeAt [1, 1, 0, 1, 0] (bodyOf Try.prog 52)) :=
  loopT (p := .none) (c := codeAt [1, 1, 0, 1, 0, 0] (bodyOf Try.prog 52)) (fuel := 100) (depth := 12) mixed tabS plsP (by kernel_rfl) trivial (by kernel_rfl) (fun kd d => r1e F13.f kd d) rfl
def fP (x13 : F13.FT) (l1 : G1) : FT := fun ((r0_2, r1_2, r2_2, r3_2), wide) =>
    (x13 ((r0_2, r1_2, r2_2, r3_2), wide)).bind fun r0 =>
      bif decide (0 + List.length r0.fst ≤ List.length r0.fst) && true then
        (l1 (List.take (List.length r0.fst) (List.drop 0 r0.fst), (↑(List.length r0.fst) : Int)) (0, 0)).bind fun r1 =>
          some (r1.fst, r0.snd)
      else none
theorem fe (x13 : F13.FT) (l1 : G1) (d : (List (Int) × Int × List (Int) × Int) × Int) : bodyF (tabC Try.prog (tab x13) ((52, (.node .none (.node .none (.node (.node .none (.node (.unit (u1 l1)) .none)) .none)))) :: pls x13) 100 12) 100 52 i o d = fP x13 l1 d := by kernel_rfl
noncomputable def f : FT := fP F13.f l1
def plan (l1 : G1) : Plan := (.node .none (.node .none (.node (.node .none (.node (.unit (u1 l1)) .none)) .none)))
theorem planOk : PlanOk Try.prog (plan l1) (bodyOf Try.prog 52) := (planOk_of (plan l1) _ [([1, 1, 0, 1, 0], u1 l1)] rfl ⟨ok1, trivial⟩)
theorem meets : MeetsF Try.prog 52 ⟨i, o, f⟩ :=
  funcT (fuel := 100) (depth := 12) (pl := (52, plan l1) :: pls F13.f) mixed tabS ⟨planOk, plsP⟩ (fun d => fe F13.f l1 d)
theorem spec : SpecOk Try.prog (fun _ => none) 52 (specF ⟨i, o, f⟩) := specF_ok (by kernel_rfl) meets
end Go.Proofs.Ytkleakkhbfdipaa.F52

/- What comes of function 12 of this program, (*consulate.scroll.Reader).Byte, as the engine gives it. -/
namespace Go.Proofs.Ytkleakkhbfdipaa.F12
open Go Go.Proofs Go.Proofs.Ytkleakkhbfdipaa Go.RowKit Go.Proofs.Ytkleakkhbfdipaa.Sx
set_option linter.unusedVariables false
set_option maxRecDepth 100000
def tab (x52 : F52.FT) : List (FuncId × Sx.Spec) := [(52, specF ⟨F52.i, F52.o, x52⟩)]
def pls (x52 : F52.FT) : List (FuncId × Plan) := []
@[reducible] def i : Sh := .pt true 69 (.sl true 5 (.sc (.int .u8) .nil) (.sc (.int .i64) (.sl true 3 (.sc (.int .i64) .nil) (.sc (.int .i64) .nil)))) .nil
@[reducible] def o : Sh := .sc (.int .u8) .nil
abbrev FT := ((List (Int) × Int × List (Int) × Int)) → Option (Int × ((List (Int) × Int × List (Int) × Int)))
theorem tabS : AllS Try.prog (tab F52.f) := ⟨F52.spec, trivial⟩
theorem plsP : AllP Try.prog (pls F52.f) := trivial
theorem mixed : Try.prog.follows .mixedOrders = true := by kernel_rfl
def fP (x52 : F52.FT) : FT := fun (r0_2, r1_2, r2_2, r3_2) =>
   (x52 ((r0_2, r1_2, r2_2, r3_2), 1)).bind fun r0 => some (r0.fst, r0.snd)
theorem fe (x52 : F52.FT) (d : (List (Int) × Int × List (Int) × Int)) : bodyF (tabC Try.prog (tab x52) ((12, .none) :: pls x52) 100 12) 100 12 i o d = fP x52 d := by kernel_rfl
noncomputable def f : FT := fP F52.f
def plan : Plan := .none
theorem planOk : PlanOk Try.prog (plan) (bodyOf Try.prog 12) := (planOk_of (plan) _ [] (by kernel_rfl) trivial)
theorem meets : MeetsF Try.prog 12 ⟨i, o, f⟩ :=
  funcT (fuel := 100) (depth := 12) (pl := (12, plan) :: pls F52.f) mixed tabS ⟨planOk, plsP⟩ (fun d => fe F52.f d)
theorem spec : SpecOk Try.prog (fun _ => none) 12 (specF ⟨i, o, f⟩) := specF_ok (by kernel_rfl) meets
end Go.Proofs.Ytkleakkhbfdipaa.F12

/- What comes of function 62 of this program, consulate.scroll.number[uint16], as the engine gives it. -/
namespace Go.Proofs.Ytkleakkhbfdipaa.F62
open Go Go.Proofs Go.Proofs.Ytkleakkhbfdipaa Go.RowKit Go.Proofs.Ytkleakkhbfdipaa.Sx
set_option linter.unusedVariables false
set_option maxRecDepth 100000
def tab (x13 : F13.FT) : List (FuncId × Sx.Spec) := [(13, specF ⟨F13.i, F13.o, x13⟩)]
def pls (x13 : F13.FT) : List (FuncId × Plan) := []
@[reducible] def k1 : Sh := .sl true 5 (.sc (.int .u8) .nil) (.sc (.int .i64) .nil)
@[reducible] def i1 : Sh := .sc (.int .u16) (.sc (.int .i64) .nil)
@[reducible] def o1 : Sh := .sc (.int .u16) .nil
abbrev G1 := (List (Int) × Int) → (Int × Int) → Option (Int × Unit)
def u1 (F : G1) : Un := ⟨24, [10, 11], k1, [5, 12], i1, [5], o1, [10, 11], [(.exit 0, [true])], F⟩
@[reducible] def i : Sh := .pt true 69 (.sl true 5 (.sc (.int .u8) .nil) (.sc (.int .i64) (.sl true 3 (.sc (.int .i64) .nil) (.sc (.int .i64) .nil)))) (.sc (.int .i64) .nil)
@[reducible] def o : Sh := .sc (.int .u16) .nil
abbrev FT := ((List (Int) × Int × List (Int) × Int) × Int) → Option (Int × ((List (Int) × Int × List (Int) × Int)))
theorem tabS : AllS Try.prog (tab F13.f) := ⟨F13.spec, trivial⟩
theorem plsP : AllP Try.prog (pls F13.f) := trivial
theorem mixed : Try.prog.follows .mixedOrders = true := by kernel_rfl
def r1P (x13 : F13.FT) : (List (Int) × Int) → (Int × Int) → Option ((Int × Int) ⊕ (Int × Unit)) := fun (t10, t11) (n, t12) =>
    bif decide (t12 < t11) then
      bif decide (0 ≤ t12 ∧ t12 < (↑t10.length : Int) ∧ 0 < t10.length) then
        bif decide (0 + t12.toNat < t10.length) then
          some
            (Sum.inl
              (IntKind.u16.wrap
                  (↑((IntKind.u16.wrap (IntKind.u16.wrap (n * 128) * 2) % 65536).toNat |||
                        (IntKind.u16.wrap (t10.getD (0 + t12.toNat) 0) % 65536).toNat) :
                    Int),
                IntKind.i64.wrap (t12 + 1)))
        else none
      else none
    else some (Sum.inr (n, PUnit.unit))
theorem r1e (x13 : F13.FT) (kd : List (Int) × Int) (d : Int × Int) : roundF (tabC Try.prog (tab x13) (pls x13) 100 12) 100 .none (u1 fun _ _ => none) (codeAt [1, 1, 0, 1, 0, 0] (bodyOf Try.prog 62)) kd d = r1P x13 kd d := by kernel_rfl
noncomputable def r1 : (List (Int) × Int) → (Int × Int) → Option ((Int × Int) ⊕ (Int × Unit)) := r1P F13.f
noncomputable def l1 : G1 := fun kd d => iterO (r1 kd) d
theorem ok1 : UnOk Try.prog (u1 l1) (codeAt [1, 1, 0, 1, 0] (bodyOf Try.prog 62)) :=
  loopT (p := .none) (c := codeAt [1, 1, 0, 1, 0, 0] (bodyOf Try.prog 62)) (fuel := 100) (depth := 12) mixed tabS plsP (by kernel_rfl) trivial (by kernel_rfl) (fun kd d => r1e F13.f kd d) rfl
def fP (x13 : F13.FT) (l1 : G1) : FT := fun ((r0_2, r1_2, r2_2, r3_2), wide) =>
    (x13 ((r0_2, r1_2, r2_2, r3_2), wide)).bind fun r0 =>
      bif decide (0 + List.length r0.fst ≤ List.length r0.fst) && true then
        (l1 (List.take (List.length r0.fst) (List.drop 0 r0.fst), (↑(List.length r0.fst) : Int)) (0, 0)).bind fun r1 =>
          some (r1.fst, r0.snd)
      else none
theorem fe (x13 : F13.FT) (l1 : G1) (d : (List (Int) × Int × List (Int) × Int) × Int) : bodyF (tabC Try.prog (tab x13) ((62, (.node .none (.node .none (.node (.node .none (.node (.unit (u1 l1)) .none)) .none)))) :: pls x13) 100 12) 100 62 i o d = fP x13 l1 d := by kernel_rfl
noncomputable def f : FT := fP F13.f l1
def plan (l1 : G1) : Plan := (.node .none (.node .none (.node (.node .none (.node (.unit (u1 l1)) .none)) .none)))
theorem planOk : PlanOk Try.prog (plan l1) (bodyOf Try.prog 62) := (planOk_of (plan l1) _ [([1, 1, 0, 1, 0], u1 l1)] rfl ⟨ok1, trivial⟩)
theorem meets : MeetsF Try.prog 62 ⟨i, o, f⟩ :=
  funcT (fuel := 100) (depth := 12) (pl := (62, plan l1) :: pls F13.f) mixed tabS ⟨planOk, plsP⟩ (fun d => fe F13.f l1 d)
theorem spec : SpecOk Try.prog (fun _ => none) 62 (specF ⟨i, o, f⟩) := specF_ok (by kernel_rfl) meets
end Go.Proofs.Ytkleakkhbfdipaa.F62

/- What comes of function 48 of this program, (*consulate.scroll.Reader).Two, as the engine gives it. -/
namespace Go.Proofs.Ytkleakkhbfdipaa.F48
open Go Go.Proofs Go.Proofs.Ytkleakkhbfdipaa Go.RowKit Go.Proofs.Ytkleakkhbfdipaa.Sx
set_option linter.unusedVariables false
set_option maxRecDepth 100000
def tab (x62 : F62.FT) : List (FuncId × Sx.Spec) := [(62, specF ⟨F62.i, F62.o, x62⟩)]
def pls (x62 : F62.FT) : List (FuncId × Plan) := []
@[reducible] def i : Sh := .pt true 69 (.sl true 5 (.sc (.int .u8) .nil) (.sc (.int .i64) (.sl true 3 (.sc (.int .i64) .nil) (.sc (.int .i64) .nil)))) .nil
@[reducible] def o : Sh := .sc (.int .u16) .nil
abbrev FT := ((List (Int) × Int × List (Int) × Int)) → Option (Int × ((List (Int) × Int × List (Int) × Int)))
theorem tabS : AllS Try.prog (tab F62.f) := ⟨F62.spec, trivial⟩
theorem plsP : AllP Try.prog (pls F62.f) := trivial
theorem mixed : Try.prog.follows .mixedOrders = true := by kernel_rfl
def fP (x62 : F62.FT) : FT := fun (r0_2, r1_2, r2_2, r3_2) =>
   (x62 ((r0_2, r1_2, r2_2, r3_2), 2)).bind fun r0 => some (r0.fst, r0.snd)
theorem fe (x62 : F62.FT) (d : (List (Int) × Int × List (Int) × Int)) : bodyF (tabC Try.prog (tab x62) ((48, .none) :: pls x62) 100 12) 100 48 i o d = fP x62 d := by kernel_rfl
noncomputable def f : FT := fP F62.f
def plan : Plan := .none
theorem planOk : PlanOk Try.prog (plan) (bodyOf Try.prog 48) := (planOk_of (plan) _ [] (by kernel_rfl) trivial)
theorem meets : MeetsF Try.prog 48 ⟨i, o, f⟩ :=
  funcT (fuel := 100) (depth := 12) (pl := (48, plan) :: pls F62.f) mixed tabS ⟨planOk, plsP⟩ (fun d => fe F62.f d)
theorem spec : SpecOk Try.prog (fun _ => none) 48 (specF ⟨i, o, f⟩) := specF_ok (by kernel_rfl) meets
end Go.Proofs.Ytkleakkhbfdipaa.F48

/- What comes of function 61 of this program, consulate.scroll.number[uint32], as the engine gives it. -/
namespace Go.Proofs.Ytkleakkhbfdipaa.F61
open Go Go.Proofs Go.Proofs.Ytkleakkhbfdipaa Go.RowKit Go.Proofs.Ytkleakkhbfdipaa.Sx
set_option linter.unusedVariables false
set_option maxRecDepth 100000
def tab (x13 : F13.FT) : List (FuncId × Sx.Spec) := [(13, specF ⟨F13.i, F13.o, x13⟩)]
def pls (x13 : F13.FT) : List (FuncId × Plan) := []
@[reducible] def k1 : Sh := .sl true 5 (.sc (.int .u8) .nil) (.sc (.int .i64) .nil)
@[reducible] def i1 : Sh := .sc (.int .u32) (.sc (.int .i64) .nil)
@[reducible] def o1 : Sh := .sc (.int .u32) .nil
abbrev G1 := (List (Int) × Int) → (Int × Int) → Option (Int × Unit)
def u1 (F : G1) : Un := ⟨24, [10, 11], k1, [5, 12], i1, [5], o1, [10, 11], [(.exit 0, [true])], F⟩
@[reducible] def i : Sh := .pt true 69 (.sl true 5 (.sc (.int .u8) .nil) (.sc (.int .i64) (.sl true 3 (.sc (.int .i64) .nil) (.sc (.int .i64) .nil)))) (.sc (.int .i64) .nil)
@[reducible] def o : Sh := .sc (.int .u32) .nil
abbrev FT := ((List (Int) × Int × List (Int) × Int) × Int) → Option (Int × ((List (Int) × Int × List (Int) × Int)))
theorem tabS : AllS Try.prog (tab F13.f) := ⟨F13.spec, trivial⟩
theorem plsP : AllP Try.prog (pls F13.f) := trivial
theorem mixed : Try.prog.follows .mixedOrders = true := by kernel_rfl
def r1P (x13 : F13.FT) : (List (Int) × Int) → (Int × Int) → Option ((Int × Int) ⊕ (Int × Unit)) := fun (t10, t11) (n, t12) =>
    bif decide (t12 < t11) then
      bif decide (0 ≤ t12 ∧ t12 < (↑t10.length : Int) ∧ 0 < t10.length) then
        bif decide (0 + t12.toNat < t10.length) then
          some
            (Sum.inl
              (IntKind.u32.wrap
                  (↑((IntKind.u32.wrap (IntKind.u32.wrap (n * 128) * 2) % 4294967296).toNat |||
                        (IntKind.u32.wrap (t10.getD (0 + t12.toNat) 0) % 4294967296).toNat) :
                    Int),
                IntKind.i64.wrap (t12 + 1)))
        else none
      else none
    else some (Sum.inr (n, PUnit.unit))
theorem r1e (x13 : F13.FT) (kd : List (Int) × Int) (d : Int × Int) : roundF (tabC Try.prog (tab x13) (pls x13) 100 12) 100 .none (u1 fun _ _ => none) (codeAt [1, 1, 0, 1, 0, 0] (bodyOf Try.prog 61)) kd d = r1P x13 kd d := by kernel_rfl
noncomputable def r1 : (List (Int) × Int) → (Int × Int) → Option ((Int × Int) ⊕ (Int × Unit)) := r1P F13.f
noncomputable def l1 : G1 := fun kd d => iterO (r1 kd) d
theorem ok1 : UnOk Try.prog (u1 l1) (codeAt [1, 1, 0, 1, 0] (bodyOf Try.prog 61)) :=
  loopT (p := .none) (c := codeAt [1, 1, 0, 1, 0, 0] (bodyOf Try.prog 61)) (fuel := 100) (depth := 12) mixed tabS plsP (by kernel_rfl) trivial (by kernel_rfl) (fun kd d => r1e F13.f kd d) rfl
def fP (x13 : F13.FT) (l1 : G1) : FT := fun ((r0_2, r1_2, r2_2, r3_2), wide) =>
    (x13 ((r0_2, r1_2, r2_2, r3_2), wide)).bind fun r0 =>
      bif decide (0 + List.length r0.fst ≤ List.length r0.fst) && true then
        (l1 (List.take (List.length r0.fst) (List.drop 0 r0.fst), (↑(List.length r0.fst) : Int)) (0, 0)).bind fun r1 =>
          some (r1.fst, r0.snd)
      else none
theorem fe (x13 : F13.FT) (l1 : G1) (d : (List (Int) × Int × List (Int) × Int) × Int) : bodyF (tabC Try.prog (tab x13) ((61, (.node .none (.node .none (.node (.node .none (.node (.unit (u1 l1)) .none)) .none)))) :: pls x13) 100 12) 100 61 i o d = fP x13 l1 d := by kernel_rfl
noncomputable def f : FT := fP F13.f l1
def plan (l1 : G1) : Plan := (.node .none (.node .none (.node (.node .none (.node (.unit (u1 l1)) .none)) .none)))
theorem planOk : PlanOk Try.prog (plan l1) (bodyOf Try.prog 61) := (planOk_of (plan l1) _ [([1, 1, 0, 1, 0], u1 l1)] rfl ⟨ok1, trivial⟩)
theorem meets : MeetsF Try.prog 61 ⟨i, o, f⟩ :=
  funcT (fuel := 100) (depth := 12) (pl := (61, plan l1) :: pls F13.f) mixed tabS ⟨planOk, plsP⟩ (fun d => fe F13.f l1 d)
theorem spec : SpecOk Try.prog (fun _ => none) 61 (specF ⟨i, o, f⟩) := specF_ok (by kernel_rfl) meets
end Go.Proofs.Ytkleakkhbfdipaa.F61

/- What comes of function 40 of this program, (*consulate.scroll.Reader).Four, as the engine gives it. -/
namespace Go.Proofs.Ytkleakkhbfdipaa.F40
open Go Go.Proofs Go.Proofs.Ytkleakkhbfdipaa Go.RowKit Go.Proofs.Ytkleakkhbfdipaa.Sx
set_option linter.unusedVariables false
set_option maxRecDepth 100000
def tab (x61 : F61.FT) : List (FuncId × Sx.Spec) := [(61, specF ⟨F61.i, F61.o, x61⟩)]
def pls (x61 : F61.FT) : List (FuncId × Plan) := []
@[reducible] def i : Sh := .pt true 69 (.sl true 5 (.sc (.int .u8) .nil) (.sc (.int .i64) (.sl true 3 (.sc (.int .i64) .nil) (.sc (.int .i64) .nil)))) .nil
@[reducible] def o : Sh := .sc (.int .u32) .nil
abbrev FT := ((List (Int) × Int × List (Int) × Int)) → Option (Int × ((List (Int) × Int × List (Int) × Int)))
theorem tabS : AllS Try.prog (tab F61.f) := ⟨F61.spec, trivial⟩
theorem plsP : AllP Try.prog (pls F61.f) := trivial
theorem mixed : Try.prog.follows .mixedOrders = true := by kernel_rfl
def fP (x61 : F61.FT) : FT := fun (r0_2, r1_2, r2_2, r3_2) =>
   (x61 ((r0_2, r1_2, r2_2, r3_2), 4)).bind fun r0 => some (r0.fst, r0.snd)
theorem fe (x61 : F61.FT) (d : (List (Int) × Int × List (Int) × Int)) : bodyF (tabC Try.prog (tab x61) ((40, .none) :: pls x61) 100 12) 100 40 i o d = fP x61 d := by kernel_rfl
noncomputable def f : FT := fP F61.f
def plan : Plan := .none
theorem planOk : PlanOk Try.prog (plan) (bodyOf Try.prog 40) := (planOk_of (plan) _ [] (by kernel_rfl) trivial)
theorem meets : MeetsF Try.prog 40 ⟨i, o, f⟩ :=
  funcT (fuel := 100) (depth := 12) (pl := (40, plan) :: pls F61.f) mixed tabS ⟨planOk, plsP⟩ (fun d => fe F61.f d)
theorem spec : SpecOk Try.prog (fun _ => none) 40 (specF ⟨i, o, f⟩) := specF_ok (by kernel_rfl) meets
end Go.Proofs.Ytkleakkhbfdipaa.F40

/- What comes of function 15 of this program, (*consulate.scroll.Reader).Open, as the engine gives it. -/
namespace Go.Proofs.Ytkleakkhbfdipaa.F15
open Go Go.Proofs Go.Proofs.Ytkleakkhbfdipaa Go.RowKit Go.Proofs.Ytkleakkhbfdipaa.Sx
set_option linter.unusedVariables false
set_option maxRecDepth 100000
def tab (x53 : F53.FT) : List (FuncId × Sx.Spec) := [(53, specF ⟨F53.i, F53.o, x53⟩)]
def pls (x53 : F53.FT) : List (FuncId × Plan) := []
@[reducible] def i : Sh := .pt true 69 (.sl true 5 (.sc (.int .u8) .nil) (.sc (.int .i64) (.sl true 3 (.sc (.int .i64) .nil) (.sc (.int .i64) .nil)))) (.sc (.int .i64) .nil)
@[reducible] def o : Sh := .nil
abbrev FT := ((List (Int) × Int × List (Int) × Int) × Int) → Option (Unit × ((List (Int) × Int × List (Int) × Int)))
theorem tabS : AllS Try.prog (tab F53.f) := ⟨F53.spec, trivial⟩
theorem plsP : AllP Try.prog (pls F53.f) := trivial
theorem mixed : Try.prog.follows .mixedOrders = true := by kernel_rfl
def fP (x53 : F53.FT) : FT := fun ((r0_2, r1_2, r2_2, r3_2), n) =>
    (x53 ((r0_2, r1_2, r2_2, r3_2), n)).bind fun r0 =>
      bif r0.fst then
        bif decide (r0.snd.snd.snd.fst.length + 1 / OfNat.ofNat 1 ≤ 1073741824) then
          bif decide (0 + r0.snd.snd.snd.fst.length ≤ r0.snd.snd.snd.fst.length) then
            bif decide (0 + r0.snd.fst.length ≤ r0.snd.fst.length) && true then
              bif
                  decide
                      (0 + (r0.snd.snd.snd.fst.length + 1 / OfNat.ofNat 1) ≤
                        (List.take r0.snd.snd.snd.fst.length (List.drop 0 r0.snd.snd.snd.fst) ++
                            [IntKind.i64.wrap (r0.snd.snd.fst + n)]).length) &&
                    true then
                some
                  (PUnit.unit, List.take r0.snd.fst.length (List.drop 0 r0.snd.fst), r0.snd.snd.fst,
                    List.take (r0.snd.snd.snd.fst.length + 1 / OfNat.ofNat 1)
                      (List.drop 0
                        (List.take r0.snd.snd.snd.fst.length (List.drop 0 r0.snd.snd.snd.fst) ++
                          [IntKind.i64.wrap (r0.snd.snd.fst + n)])),
                    r0.snd.snd.snd.snd)
              else none
            else none
          else none
        else none
      else some (PUnit.unit, r0.snd)
theorem fe (x53 : F53.FT) (d : (List (Int) × Int × List (Int) × Int) × Int) : bodyF (tabC Try.prog (tab x53) ((15, .none) :: pls x53) 100 12) 100 15 i o d = fP x53 d := by kernel_rfl
noncomputable def f : FT := fP F53.f
def plan : Plan := .none
theorem planOk : PlanOk Try.prog (plan) (bodyOf Try.prog 15) := (planOk_of (plan) _ [] (by kernel_rfl) trivial)
theorem meets : MeetsF Try.prog 15 ⟨i, o, f⟩ :=
  funcT (fuel := 100) (depth := 12) (pl := (15, plan) :: pls F53.f) mixed tabS ⟨planOk, plsP⟩ (fun d => fe F53.f d)
theorem spec : SpecOk Try.prog (fun _ => none) 15 (specF ⟨i, o, f⟩) := specF_ok (by kernel_rfl) meets
end Go.Proofs.Ytkleakkhbfdipaa.F15

/- What comes of function 11 of this program, (*consulate.scroll.Reader).Deep, as the engine gives it. -/
namespace Go.Proofs.Ytkleakkhbfdipaa.F11
open Go Go.Proofs Go.Proofs.Ytkleakkhbfdipaa Go.RowKit Go.Proofs.Ytkleakkhbfdipaa.Sx
set_option linter.unusedVariables false
set_option maxRecDepth 100000
def tab : List (FuncId × Sx.Spec) := []
def pls : List (FuncId × Plan) := []
@[reducible] def i : Sh := .pt true 69 (.sl true 5 (.sc (.int .u8) .nil) (.sc (.int .i64) (.sl true 3 (.sc (.int .i64) .nil) (.sc (.int .i64) .nil)))) .nil
@[reducible] def o : Sh := .sc (.int .i64) .nil
abbrev FT := ((List (Int) × Int × List (Int) × Int)) → Option (Int × ((List (Int) × Int × List (Int) × Int)))
theorem tabS : AllS Try.prog (tab) := trivial
theorem plsP : AllP Try.prog (pls) := trivial
theorem mixed : Try.prog.follows .mixedOrders = true := by kernel_rfl
def fP : FT := fun (r0_2, r1_2, r2_2, r3_2) =>
    bif decide (0 + r0_2.length ≤ r0_2.length) && true then
      bif decide (0 + r2_2.length ≤ r2_2.length) && true then
        some
          (if 0 > IntKind.i64.wrap ((↑r2_2.length : Int) - 1) then 0 else IntKind.i64.wrap ((↑r2_2.length : Int) - 1),
            List.take r0_2.length r0_2, r1_2, List.take r2_2.length r2_2, r3_2)
      else none
    else none
theorem fe (d : (List (Int) × Int × List (Int) × Int)) : bodyF (tabC Try.prog (tab) ((11, .none) :: pls) 100 12) 100 11 i o d = fP d := by kernel_rfl
noncomputable def f : FT := fP
def plan : Plan := .none
theorem planOk : PlanOk Try.prog (plan) (bodyOf Try.prog 11) := (planOk_of (plan) _ [] (by kernel_rfl) trivial)
theorem meets : MeetsF Try.prog 11 ⟨i, o, f⟩ :=
  funcT (fuel := 100) (depth := 12) (pl := (11, plan) :: pls) mixed tabS ⟨planOk, plsP⟩ (fun d => fe  d)
theorem spec : SpecOk Try.prog (fun _ => none) 11 (specF ⟨i, o, f⟩) := specF_ok (by kernel_rfl) meets
end Go.Proofs.Ytkleakkhbfdipaa.F11

/- What comes of function 54 of this program, (*consulate.scroll.Reader).within, as the engine gives it. -/
namespace Go.Proofs.Ytkleakkhbfdipaa.F54
open Go Go.Proofs Go.Proofs.Ytkleakkhbfdipaa Go.RowKit Go.Proofs.Ytkleakkhbfdipaa.Sx
set_option linter.unusedVariables false
set_option maxRecDepth 100000
def tab (x11 : F11.FT) (x18 : F18.FT) (x10 : F10.FT) : List (FuncId × Sx.Spec) := [(11, specF ⟨F11.i, F11.o, x11⟩), (18, specF ⟨F18.i, F18.o, x18⟩), (10, specF ⟨F10.i, F10.o, x10⟩)]
def pls (x11 : F11.FT) (x18 : F18.FT) (x10 : F10.FT) : List (FuncId × Plan) := []
@[reducible] def i : Sh := .pt true 69 (.sl true 5 (.sc (.int .u8) .nil) (.sc (.int .i64) (.sl true 3 (.sc (.int .i64) .nil) (.sc (.int .i64) .nil)))) .nil
@[reducible] def o : Sh := .sc .bool .nil
abbrev FT := ((List (Int) × Int × List (Int) × Int)) → Option (Bool × ((List (Int) × Int × List (Int) × Int)))
theorem tabS : AllS Try.prog (tab F11.f F18.f F10.f) := ⟨F11.spec, F18.spec, F10.spec, trivial⟩
theorem plsP : AllP Try.prog (pls F11.f F18.f F10.f) := trivial
theorem mixed : Try.prog.follows .mixedOrders = true := by kernel_rfl
def fP (x11 : F11.FT) (x18 : F18.FT) (x10 : F10.FT) : FT := fun (r0_2, r1_2, r2_2, r3_2) =>
    (x11 (r0_2, r1_2, r2_2, r3_2)).bind fun r0 =>
      bif r0.fst == 0 then (x18 (r0.snd, 26)).bind fun r1 => (x10 r1.snd).bind fun r2 => some (r2.fst == 0, r2.snd)
      else (x10 r0.snd).bind fun r1 => some (r1.fst == 0, r1.snd)
theorem fe (x11 : F11.FT) (x18 : F18.FT) (x10 : F10.FT) (d : (List (Int) × Int × List (Int) × Int)) : bodyF (tabC Try.prog (tab x11 x18 x10) ((54, .none) :: pls x11 x18 x10) 100 12) 100 54 i o d = fP x11 x18 x10 d := by kernel_rfl
noncomputable def f : FT := fP F11.f F18.f F10.f
def plan : Plan := .none
theorem planOk : PlanOk Try.prog (plan) (bodyOf Try.prog 54) := (planOk_of (plan) _ [] (by kernel_rfl) trivial)
theorem meets : MeetsF Try.prog 54 ⟨i, o, f⟩ :=
  funcT (fuel := 100) (depth := 12) (pl := (54, plan) :: pls F11.f F18.f F10.f) mixed tabS ⟨planOk, plsP⟩ (fun d => fe F11.f F18.f F10.f d)
theorem spec : SpecOk Try.prog (fun _ => none) 54 (specF ⟨i, o, f⟩) := specF_ok (by kernel_rfl) meets
end Go.Proofs.Ytkleakkhbfdipaa.F54

/- What comes of function 16 of this program, (*consulate.scroll.Reader).Close, as the engine gives it. -/
namespace Go.Proofs.Ytkleakkhbfdipaa.F16
open Go Go.Proofs Go.Proofs.Ytkleakkhbfdipaa Go.RowKit Go.Proofs.Ytkleakkhbfdipaa.Sx
set_option linter.unusedVariables false
set_option maxRecDepth 100000
def tab (x54 : F54.FT) (x19 : F19.FT) (x18 : F18.FT) (x10 : F10.FT) : List (FuncId × Sx.Spec) := [(54, specF ⟨F54.i, F54.o, x54⟩), (19, specF ⟨F19.i, F19.o, x19⟩), (18, specF ⟨F18.i, F18.o, x18⟩), (10, specF ⟨F10.i, F10.o, x10⟩)]
def pls (x54 : F54.FT) (x19 : F19.FT) (x18 : F18.FT) (x10 : F10.FT) : List (FuncId × Plan) := []
@[reducible] def i : Sh := .pt true 69 (.sl true 5 (.sc (.int .u8) .nil) (.sc (.int .i64) (.sl true 3 (.sc (.int .i64) .nil) (.sc (.int .i64) .nil)))) .nil
@[reducible] def o : Sh := .nil
abbrev FT := ((List (Int) × Int × List (Int) × Int)) → Option (Unit × ((List (Int) × Int × List (Int) × Int)))
theorem tabS : AllS Try.prog (tab F54.f F19.f F18.f F10.f) := ⟨F54.spec, F19.spec, F18.spec, F10.spec, trivial⟩
theorem plsP : AllP Try.prog (pls F54.f F19.f F18.f F10.f) := trivial
theorem mixed : Try.prog.follows .mixedOrders = true := by kernel_rfl
def fP (x54 : F54.FT) (x19 : F19.FT) (x18 : F18.FT) (x10 : F10.FT) : FT := fun (r0_2, r1_2, r2_2, r3_2) =>
    (x54 (r0_2, r1_2, r2_2, r3_2)).bind fun r0 =>
      bif r0.fst then
        (x19 r0.snd).bind fun r1 =>
          bif decide (r1.fst > 0) then
            (x18 (r1.snd, 5)).bind fun r2 =>
              (x10 r2.snd).bind fun r3 =>
                bif r3.fst == 0 then
                  bif
                      decide
                        (0 ≤
                            (some (IntKind.i64.wrap ((↑r3.snd.snd.snd.fst.length : Int) - 1))).getD
                              (↑r3.snd.snd.snd.fst.length : Int) ∧
                          (some (IntKind.i64.wrap ((↑r3.snd.snd.snd.fst.length : Int) - 1))).getD
                                (↑r3.snd.snd.snd.fst.length : Int) ≤
                              (↑r3.snd.snd.snd.fst.length : Int) ∧
                            0 + r3.snd.snd.snd.fst.length ≤ r3.snd.snd.snd.fst.length) then
                    bif decide (0 + r3.snd.fst.length ≤ r3.snd.fst.length) && true then
                      bif
                          decide
                              (0 +
                                  ((some (IntKind.i64.wrap ((↑r3.snd.snd.snd.fst.length : Int) - 1))).getD
                                      (↑r3.snd.snd.snd.fst.length : Int)).toNat ≤
                                r3.snd.snd.snd.fst.length) &&
                            true then
                        some
                          (PUnit.unit, List.take r3.snd.fst.length (List.drop 0 r3.snd.fst), r3.snd.snd.fst,
                            List.take
                              ((some (IntKind.i64.wrap ((↑r3.snd.snd.snd.fst.length : Int) - 1))).getD
                                  (↑r3.snd.snd.snd.fst.length : Int)).toNat
                              (List.drop 0 r3.snd.snd.snd.fst),
                            r3.snd.snd.snd.snd)
                      else none
                    else none
                  else none
                else some (PUnit.unit, r3.snd)
          else
            (x10 r1.snd).bind fun r2 =>
              bif r2.fst == 0 then
                bif
                    decide
                      (0 ≤
                          (some (IntKind.i64.wrap ((↑r2.snd.snd.snd.fst.length : Int) - 1))).getD
                            (↑r2.snd.snd.snd.fst.length : Int) ∧
                        (some (IntKind.i64.wrap ((↑r2.snd.snd.snd.fst.length : Int) - 1))).getD
                              (↑r2.snd.snd.snd.fst.length : Int) ≤
                            (↑r2.snd.snd.snd.fst.length : Int) ∧
                          0 + r2.snd.snd.snd.fst.length ≤ r2.snd.snd.snd.fst.length) then
                  bif decide (0 + r2.snd.fst.length ≤ r2.snd.fst.length) && true then
                    bif
                        decide
                            (0 +
                                ((some (IntKind.i64.wrap ((↑r2.snd.snd.snd.fst.length : Int) - 1))).getD
                                    (↑r2.snd.snd.snd.fst.length : Int)).toNat ≤
                              r2.snd.snd.snd.fst.length) &&
                          true then
                      some
                        (PUnit.unit, List.take r2.snd.fst.length (List.drop 0 r2.snd.fst), r2.snd.snd.fst,
                          List.take
                            ((some (IntKind.i64.wrap ((↑r2.snd.snd.snd.fst.length : Int) - 1))).getD
                                (↑r2.snd.snd.snd.fst.length : Int)).toNat
                            (List.drop 0 r2.snd.snd.snd.fst),
                          r2.snd.snd.snd.snd)
                    else none
                  else none
                else none
              else some (PUnit.unit, r2.snd)
      else
        (x10 r0.snd).bind fun r1 =>
          bif r1.fst == 0 then
            bif
                decide
                  (0 ≤
                      (some (IntKind.i64.wrap ((↑r1.snd.snd.snd.fst.length : Int) - 1))).getD
                        (↑r1.snd.snd.snd.fst.length : Int) ∧
                    (some (IntKind.i64.wrap ((↑r1.snd.snd.snd.fst.length : Int) - 1))).getD
                          (↑r1.snd.snd.snd.fst.length : Int) ≤
                        (↑r1.snd.snd.snd.fst.length : Int) ∧
                      0 + r1.snd.snd.snd.fst.length ≤ r1.snd.snd.snd.fst.length) then
              bif decide (0 + r1.snd.fst.length ≤ r1.snd.fst.length) && true then
                bif
                    decide
                        (0 +
                            ((some (IntKind.i64.wrap ((↑r1.snd.snd.snd.fst.length : Int) - 1))).getD
                                (↑r1.snd.snd.snd.fst.length : Int)).toNat ≤
                          r1.snd.snd.snd.fst.length) &&
                      true then
                  some
                    (PUnit.unit, List.take r1.snd.fst.length (List.drop 0 r1.snd.fst), r1.snd.snd.fst,
                      List.take
                        ((some (IntKind.i64.wrap ((↑r1.snd.snd.snd.fst.length : Int) - 1))).getD
                            (↑r1.snd.snd.snd.fst.length : Int)).toNat
                        (List.drop 0 r1.snd.snd.snd.fst),
                      r1.snd.snd.snd.snd)
                else none
              else none
            else none
          else some (PUnit.unit, r1.snd)
theorem fe (x54 : F54.FT) (x19 : F19.FT) (x18 : F18.FT) (x10 : F10.FT) (d : (List (Int) × Int × List (Int) × Int)) : bodyF (tabC Try.prog (tab x54 x19 x18 x10) ((16, .none) :: pls x54 x19 x18 x10) 100 12) 100 16 i o d = fP x54 x19 x18 x10 d := by kernel_rfl
noncomputable def f : FT := fP F54.f F19.f F18.f F10.f
def plan : Plan := .none
theorem planOk : PlanOk Try.prog (plan) (bodyOf Try.prog 16) := (planOk_of (plan) _ [] (by kernel_rfl) trivial)
theorem meets : MeetsF Try.prog 16 ⟨i, o, f⟩ :=
  funcT (fuel := 100) (depth := 12) (pl := (16, plan) :: pls F54.f F19.f F18.f F10.f) mixed tabS ⟨planOk, plsP⟩ (fun d => fe F54.f F19.f F18.f F10.f d)
theorem spec : SpecOk Try.prog (fun _ => none) 16 (specF ⟨i, o, f⟩) := specF_ok (by kernel_rfl) meets
end Go.Proofs.Ytkleakkhbfdipaa.F16

/- What comes of function 17 of this program, (*consulate.scroll.Reader).Skip, as the engine gives it. -/
namespace Go.Proofs.Ytkleakkhbfdipaa.F17
open Go Go.Proofs Go.Proofs.Ytkleakkhbfdipaa Go.RowKit Go.Proofs.Ytkleakkhbfdipaa.Sx
set_option linter.unusedVariables false
set_option maxRecDepth 100000
def tab (x54 : F54.FT) : List (FuncId × Sx.Spec) := [(54, specF ⟨F54.i, F54.o, x54⟩)]
def pls (x54 : F54.FT) : List (FuncId × Plan) := []
@[reducible] def i : Sh := .pt true 69 (.sl true 5 (.sc (.int .u8) .nil) (.sc (.int .i64) (.sl true 3 (.sc (.int .i64) .nil) (.sc (.int .i64) .nil)))) .nil
@[reducible] def o : Sh := .nil
abbrev FT := ((List (Int) × Int × List (Int) × Int)) → Option (Unit × ((List (Int) × Int × List (Int) × Int)))
theorem tabS : AllS Try.prog (tab F54.f) := ⟨F54.spec, trivial⟩
theorem plsP : AllP Try.prog (pls F54.f) := trivial
theorem mixed : Try.prog.follows .mixedOrders = true := by kernel_rfl
def fP (x54 : F54.FT) : FT := fun (r0_2, r1_2, r2_2, r3_2) =>
    (x54 (r0_2, r1_2, r2_2, r3_2)).bind fun r0 =>
      bif r0.fst then
        bif
            decide
              (0 ≤ IntKind.i64.wrap ((↑r0.snd.snd.snd.fst.length : Int) - 1) ∧
                IntKind.i64.wrap ((↑r0.snd.snd.snd.fst.length : Int) - 1) < (↑r0.snd.snd.snd.fst.length : Int) ∧
                  0 < r0.snd.snd.snd.fst.length) then
          bif
              decide
                (0 + (IntKind.i64.wrap ((↑r0.snd.snd.snd.fst.length : Int) - 1)).toNat < r0.snd.snd.snd.fst.length) then
            bif
                decide
                  (0 ≤
                      (some (IntKind.i64.wrap ((↑r0.snd.snd.snd.fst.length : Int) - 1))).getD
                        (↑r0.snd.snd.snd.fst.length : Int) ∧
                    (some (IntKind.i64.wrap ((↑r0.snd.snd.snd.fst.length : Int) - 1))).getD
                          (↑r0.snd.snd.snd.fst.length : Int) ≤
                        (↑r0.snd.snd.snd.fst.length : Int) ∧
                      0 + r0.snd.snd.snd.fst.length ≤ r0.snd.snd.snd.fst.length) then
              bif decide (0 + r0.snd.fst.length ≤ r0.snd.fst.length) && true then
                bif
                    decide
                        (0 +
                            ((some (IntKind.i64.wrap ((↑r0.snd.snd.snd.fst.length : Int) - 1))).getD
                                (↑r0.snd.snd.snd.fst.length : Int)).toNat ≤
                          r0.snd.snd.snd.fst.length) &&
                      true then
                  some
                    (PUnit.unit, List.take r0.snd.fst.length (List.drop 0 r0.snd.fst),
                      r0.snd.snd.snd.fst.getD (0 + (IntKind.i64.wrap ((↑r0.snd.snd.snd.fst.length : Int) - 1)).toNat) 0,
                      List.take
                        ((some (IntKind.i64.wrap ((↑r0.snd.snd.snd.fst.length : Int) - 1))).getD
                            (↑r0.snd.snd.snd.fst.length : Int)).toNat
                        (List.drop 0 r0.snd.snd.snd.fst),
                      r0.snd.snd.snd.snd)
                else none
              else none
            else none
          else none
        else none
      else some (PUnit.unit, r0.snd)
theorem fe (x54 : F54.FT) (d : (List (Int) × Int × List (Int) × Int)) : bodyF (tabC Try.prog (tab x54) ((17, .none) :: pls x54) 100 12) 100 17 i o d = fP x54 d := by kernel_rfl
noncomputable def f : FT := fP F54.f
def plan : Plan := .none
theorem planOk : PlanOk Try.prog (plan) (bodyOf Try.prog 17) := (planOk_of (plan) _ [] (by kernel_rfl) trivial)
theorem meets : MeetsF Try.prog 17 ⟨i, o, f⟩ :=
  funcT (fuel := 100) (depth := 12) (pl := (17, plan) :: pls F54.f) mixed tabS ⟨planOk, plsP⟩ (fun d => fe F54.f d)
theorem spec : SpecOk Try.prog (fun _ => none) 17 (specF ⟨i, o, f⟩) := specF_ok (by kernel_rfl) meets
end Go.Proofs.Ytkleakkhbfdipaa.F17

/- What comes of function 9 of this program, (*consulate.scroll.Reader).At, as the engine gives it. -/
namespace Go.Proofs.Ytkleakkhbfdipaa.F9
open Go Go.Proofs Go.Proofs.Ytkleakkhbfdipaa Go.RowKit Go.Proofs.Ytkleakkhbfdipaa.Sx
set_option linter.unusedVariables false
set_option maxRecDepth 100000
def tab : List (FuncId × Sx.Spec) := []
def pls : List (FuncId × Plan) := []
@[reducible] def i : Sh := .pt true 69 (.sl true 5 (.sc (.int .u8) .nil) (.sc (.int .i64) (.sl true 3 (.sc (.int .i64) .nil) (.sc (.int .i64) .nil)))) .nil
@[reducible] def o : Sh := .sc (.int .i64) .nil
abbrev FT := ((List (Int) × Int × List (Int) × Int)) → Option (Int × ((List (Int) × Int × List (Int) × Int)))
theorem tabS : AllS Try.prog (tab) := trivial
theorem plsP : AllP Try.prog (pls) := trivial
theorem mixed : Try.prog.follows .mixedOrders = true := by kernel_rfl
def fP : FT := fun (r0_2, r1_2, r2_2, r3_2) =>
   some (r1_2, r0_2, r1_2, r2_2, r3_2)
theorem fe (d : (List (Int) × Int × List (Int) × Int)) : bodyF (tabC Try.prog (tab) ((9, .none) :: pls) 100 12) 100 9 i o d = fP d := by kernel_rfl
noncomputable def f : FT := fP
def plan : Plan := .none
theorem planOk : PlanOk Try.prog (plan) (bodyOf Try.prog 9) := (planOk_of (plan) _ [] (by kernel_rfl) trivial)
theorem meets : MeetsF Try.prog 9 ⟨i, o, f⟩ :=
  funcT (fuel := 100) (depth := 12) (pl := (9, plan) :: pls) mixed tabS ⟨planOk, plsP⟩ (fun d => fe  d)
theorem spec : SpecOk Try.prog (fun _ => none) 9 (specF ⟨i, o, f⟩) := specF_ok (by kernel_rfl) meets
end Go.Proofs.Ytkleakkhbfdipaa.F9

/- What comes of function 8 of this program, consulate.scroll.New, as the engine gives it. -/
namespace Go.Proofs.Ytkleakkhbfdipaa.F8
open Go Go.Proofs Go.Proofs.Ytkleakkhbfdipaa Go.RowKit Go.Proofs.Ytkleakkhbfdipaa.Sx
set_option linter.unusedVariables false
set_option maxRecDepth 100000
def tab (x51 : F51.FT) : List (FuncId × Sx.Spec) := [(51, specF ⟨F51.i, F51.o, x51⟩)]
def pls (x51 : F51.FT) : List (FuncId × Plan) := []
@[reducible] def i : Sh := .sl false 5 (.sc (.int .u8) .nil) .nil
@[reducible] def o : Sh := .pt true 69 (.sl true 5 (.sc (.int .u8) .nil) (.sc (.int .i64) (.sl true 3 (.sc (.int .i64) .nil) (.sc (.int .i64) .nil)))) .nil
abbrev FT := List (Int) → Option (((List (Int) × Int × List (Int) × Int)) × Unit)
theorem tabS : AllS Try.prog (tab F51.f) := ⟨F51.spec, trivial⟩
theorem plsP : AllP Try.prog (pls F51.f) := trivial
theorem mixed : Try.prog.follows .mixedOrders = true := by kernel_rfl
def fP (x51 : F51.FT) : FT := fun b =>
    bif decide (0 + b.length ≤ b.length) && true then
      (x51 (List.take b.length b)).bind fun r0 =>
        bif decide (0 + List.length r0.fst ≤ List.length r0.fst) && true then
          some ((List.take (List.length r0.fst) (List.drop 0 r0.fst), 0, [(↑b.length : Int)], 0), PUnit.unit)
        else none
    else none
theorem fe (x51 : F51.FT) (d : List (Int)) : bodyF (tabC Try.prog (tab x51) ((8, .none) :: pls x51) 100 12) 100 8 i o d = fP x51 d := by kernel_rfl
noncomputable def f : FT := fP F51.f
def plan : Plan := .none
theorem planOk : PlanOk Try.prog (plan) (bodyOf Try.prog 8) := (planOk_of (plan) _ [] (by kernel_rfl) trivial)
theorem meets : MeetsF Try.prog 8 ⟨i, o, f⟩ :=
  funcT (fuel := 100) (depth := 12) (pl := (8, plan) :: pls F51.f) mixed tabS ⟨planOk, plsP⟩ (fun d => fe F51.f d)
theorem spec : SpecOk Try.prog (fun _ => none) 8 (specF ⟨i, o, f⟩) := specF_ok (by kernel_rfl) meets
end Go.Proofs.Ytkleakkhbfdipaa.F8

/- What comes of function 35 of this program, bytes.Clone, as the engine gives it. -/
namespace Go.Proofs.Ytkleakkhbfdipaa.F35
open Go Go.Proofs Go.Proofs.Ytkleakkhbfdipaa Go.RowKit Go.Proofs.Ytkleakkhbfdipaa.Sx
set_option linter.unusedVariables false
set_option maxRecDepth 100000
def tab : List (FuncId × Sx.Spec) := []
def pls : List (FuncId × Plan) := []
@[reducible] def i : Sh := .sl false 5 (.sc (.int .u8) .nil) .nil
@[reducible] def o : Sh := .sl true 5 (.sc (.int .u8) .nil) .nil
abbrev FT := List (Int) → Option (List (Int) × Unit)
theorem tabS : AllS Try.prog (tab) := trivial
theorem plsP : AllP Try.prog (pls) := trivial
theorem mixed : Try.prog.follows .mixedOrders = true := by kernel_rfl
def fP : FT := fun b =>
    bif decide (0 < b.length) then
      bif decide (0 + b.length ≤ b.length) then
        bif decide (0 + (List.take b.length b).length ≤ 1073741824) then
          bif decide (0 + (0 + (List.take b.length b).length) ≤ ([] ++ List.take b.length b).length) && true then
            some (List.take (0 + (List.take b.length b).length) (List.drop 0 ([] ++ List.take b.length b)), PUnit.unit)
          else none
        else none
      else none
    else none
theorem fe (d : List (Int)) : bodyF (tabC Try.prog (tab) ((35, .none) :: pls) 100 12) 100 35 i o d = fP d := by kernel_rfl
noncomputable def f : FT := fun d => if 0 < d.length then fP d else some ([], ())
def plan : Plan := .none
theorem planOk : PlanOk Try.prog (plan) (bodyOf Try.prog 35) := (planOk_of (plan) _ [] (by kernel_rfl) trivial)
theorem meets : MeetsF Try.prog 35 ⟨i, o, f⟩ :=
  sliceT (fuel := 100) (depth := 12) (pl := (35, plan) :: pls) (z := (show Den o from [])) mixed tabS ⟨planOk, plsP⟩ (fun (d : List (Int)) hd => (fe  d).trans (show fP d = f d from (if_pos (c := 0 < d.length) hd).symm)) (fun (d : List (Int)) h => (show f d = _ from if_neg (c := 0 < d.length) (by have h : d.length = 0 := h; omega))) (fun c => by kernel_rfl) (fun a c => by kernel_rfl)
theorem spec : SpecOk Try.prog (fun _ => none) 35 (specF ⟨i, o, f⟩) := specF_ok (by kernel_rfl) meets
end Go.Proofs.Ytkleakkhbfdipaa.F35

/- What comes of function 22 of this program, consulate.scroll.Lay, as the engine gives it. -/
namespace Go.Proofs.Ytkleakkhbfdipaa.F22
open Go Go.Proofs Go.Proofs.Ytkleakkhbfdipaa Go.RowKit Go.Proofs.Ytkleakkhbfdipaa.Sx
set_option linter.unusedVariables false
set_option maxRecDepth 100000
def tab : List (FuncId × Sx.Spec) := []
def pls : List (FuncId × Plan) := []
@[reducible] def i : Sh := .nil
@[reducible] def o : Sh := .pt true 72 (.sl true 5 (.sc (.int .u8) .nil) (.sl true 83 (.sc (.int .i64) (.sc (.int .i64) .nil)) (.sc (.int .i64) (.sc .bool .nil)))) .nil
abbrev FT := Unit → Option (((List (Int) × (List (Int × Int)) × Int × Bool)) × Unit)
theorem tabS : AllS Try.prog (tab) := trivial
theorem plsP : AllP Try.prog (pls) := trivial
theorem mixed : Try.prog.follows .mixedOrders = true := by kernel_rfl
def fP : FT := fun () =>
  some (([], [], 0, true), PUnit.unit)
theorem fe (d : Unit) : bodyF (tabC Try.prog (tab) ((22, .none) :: pls) 100 12) 100 22 i o d = fP d := by kernel_rfl
noncomputable def f : FT := fP
def plan : Plan := .none
theorem planOk : PlanOk Try.prog (plan) (bodyOf Try.prog 22) := (planOk_of (plan) _ [] (by kernel_rfl) trivial)
theorem meets : MeetsF Try.prog 22 ⟨i, o, f⟩ :=
  funcT (fuel := 100) (depth := 12) (pl := (22, plan) :: pls) mixed tabS ⟨planOk, plsP⟩ (fun d => fe  d)
theorem spec : SpecOk Try.prog (fun _ => none) 22 (specF ⟨i, o, f⟩) := specF_ok (by kernel_rfl) meets
end Go.Proofs.Ytkleakkhbfdipaa.F22

/- What comes of function 34 of this program, (*consulate.scroll.Writer).Err, as the engine gives it. -/
namespace Go.Proofs.Ytkleakkhbfdipaa.F34
open Go Go.Proofs Go.Proofs.Ytkleakkhbfdipaa Go.RowKit Go.Proofs.Ytkleakkhbfdipaa.Sx
set_option linter.unusedVariables false
set_option maxRecDepth 100000
def tab : List (FuncId × Sx.Spec) := []
def pls : List (FuncId × Plan) := []
@[reducible] def i : Sh := .pt true 72 (.sl true 5 (.sc (.int .u8) .nil) (.sl true 83 (.sc (.int .i64) (.sc (.int .i64) .nil)) (.sc (.int .i64) (.sc .bool .nil)))) .nil
@[reducible] def o : Sh := .sc (.int .i64) .nil
abbrev FT := ((List (Int) × (List (Int × Int)) × Int × Bool)) → Option (Int × ((List (Int) × (List (Int × Int)) × Int × Bool)))
theorem tabS : AllS Try.prog (tab) := trivial
theorem plsP : AllP Try.prog (pls) := trivial
theorem mixed : Try.prog.follows .mixedOrders = true := by kernel_rfl
def fP : FT := fun (w0, w1, w2, w3) =>
   bif !w3 then some (2, w0, w1, w2, w3) else some (w2, w0, w1, w2, w3)
theorem fe (d : (List (Int) × (List (Int × Int)) × Int × Bool)) : bodyF (tabC Try.prog (tab) ((34, .none) :: pls) 100 12) 100 34 i o d = fP d := by kernel_rfl
noncomputable def f : FT := fP
def plan : Plan := .none
theorem planOk : PlanOk Try.prog (plan) (bodyOf Try.prog 34) := (planOk_of (plan) _ [] (by kernel_rfl) trivial)
theorem meets : MeetsF Try.prog 34 ⟨i, o, f⟩ :=
  funcT (fuel := 100) (depth := 12) (pl := (34, plan) :: pls) mixed tabS ⟨planOk, plsP⟩ (fun d => fe  d)
theorem spec : SpecOk Try.prog (fun _ => none) 34 (specF ⟨i, o, f⟩) := specF_ok (by kernel_rfl) meets
end Go.Proofs.Ytkleakkhbfdipaa.F34

/- What comes of function 24 of this program, (*consulate.consulateref01.Writer).Lay, as the engine gives it. -/
namespace Go.Proofs.Ytkleakkhbfdipaa.F24
open Go Go.Proofs Go.Proofs.Ytkleakkhbfdipaa Go.RowKit Go.Proofs.Ytkleakkhbfdipaa.Sx
set_option linter.unusedVariables false
set_option maxRecDepth 100000
def tab : List (FuncId × Sx.Spec) := []
def pls : List (FuncId × Plan) := []
@[reducible] def k1 : Sh := .sc (.int .i64) .nil
@[reducible] def i1 : Sh := .sc (.int .i64) (.sc (.int .i64) .nil)
@[reducible] def o1 : Sh := .sc (.int .i64) .nil
abbrev G1 := Int → (Int × Int) → Option (Int × Unit)
def u1 (F : G1) : Un := ⟨43, [2], k1, [6, 7], i1, [6], o1, [0, 1, 2], [(.exit 0, [true])], F⟩
@[reducible] def k2 : Sh := .sc (.int .i64) (.sc (.int .i64) .nil)
@[reducible] def i2 : Sh := .pt true 45 (.sl true 5 (.sc (.int .u8) .nil) (.sl true 84 (.sc (.int .i64) (.sc (.int .i64) .nil)) (.sc (.int .i64) .nil))) (.sc (.int .i64) (.sc (.int .i64) .nil))
@[reducible] def o2 : Sh := .nil
abbrev G2 := (Int × Int) → ((List (Int) × (List (Int × Int)) × Int) × Int × Int) → Option (Unit × ((List (Int) × (List (Int × Int)) × Int)))
def u2 (F : G2) : Un := ⟨43, [1, 2], k2, [0, 6, 8], i2, [], o2, [0, 1, 2], [(.exit 2, [])], F⟩
@[reducible] def i : Sh := .pt true 45 (.sl true 5 (.sc (.int .u8) .nil) (.sl true 84 (.sc (.int .i64) (.sc (.int .i64) .nil)) (.sc (.int .i64) .nil))) (.sc (.int .i64) (.sc (.int .i64) .nil))
@[reducible] def o : Sh := .nil
abbrev FT := ((List (Int) × (List (Int × Int)) × Int) × Int × Int) → Option (Unit × ((List (Int) × (List (Int × Int)) × Int)))
theorem tabS : AllS Try.prog (tab) := trivial
theorem plsP : AllP Try.prog (pls) := trivial
theorem mixed : Try.prog.follows .mixedOrders = true := by kernel_rfl
def r1P : Int → (Int × Int) → Option ((Int × Int) ⊕ (Int × Unit)) := fun wide (by0, i) =>
    bif decide (i < wide) then some (Sum.inl (IntKind.i64.wrap (by0 * 256), IntKind.i64.wrap (i + 1)))
    else some (Sum.inr (by0, PUnit.unit))
theorem r1e (kd : Int) (d : Int × Int) : roundF (tabC Try.prog (tab) (pls) 100 12) 100 .none (u1 fun _ _ => none) (codeAt [1, 1, 0, 1, 0, 0] (bodyOf Try.prog 24)) kd d = r1P kd d := by kernel_rfl
noncomputable def r1 : Int → (Int × Int) → Option ((Int × Int) ⊕ (Int × Unit)) := r1P
noncomputable def l1 : G1 := fun kd d => iterO (r1 kd) d
theorem ok1 : UnOk Try.prog (u1 l1) (codeAt [1, 1, 0, 1, 0] (bodyOf Try.prog 24)) :=
  loopT (p := .none) (c := codeAt [1, 1, 0, 1, 0, 0] (bodyOf Try.prog 24)) (fuel := 100) (depth := 12) mixed tabS plsP (by kernel_rfl) trivial (by kernel_rfl) (fun kd d => r1e  kd d) rfl
def r2P : (Int × Int) → ((List (Int) × (List (Int × Int)) × Int) × Int × Int) → Option (((List (Int) × (List (Int × Int)) × Int) × Int × Int) ⊕ (Unit × ((List (Int) × (List (Int × Int)) × Int)))) := fun (n, wide) ((w0, w1, w2), by0, i) =>
    bif decide (i < wide) then
      bif decide (by0 ≠ 0) then
        bif decide (w0.length + 1 ≤ 1073741824) then
          bif decide (0 + w0.length ≤ w0.length) then
            bif
                decide
                    (0 + (w0.length + 1) ≤
                      (List.take w0.length w0 ++ [IntKind.u8.wrap ((IntKind.i64.wrap (n.tdiv by0)).tmod 256)]).length) &&
                  true then
              bif decide (0 + w1.length ≤ w1.length) && true then
                some
                  (Sum.inl
                    ((List.take (w0.length + 1)
                          (List.drop 0
                            (List.take w0.length w0 ++ [IntKind.u8.wrap ((IntKind.i64.wrap (n.tdiv by0)).tmod 256)])),
                        List.take w1.length w1, w2),
                      if 1 > IntKind.i64.wrap (by0.tdiv 256) then 1 else IntKind.i64.wrap (by0.tdiv 256),
                      IntKind.i64.wrap (i + 1)))
              else none
            else none
          else none
        else none
      else none
    else some (Sum.inr (PUnit.unit, w0, w1, w2))
theorem r2e (kd : Int × Int) (d : (List (Int) × (List (Int × Int)) × Int) × Int × Int) : roundF (tabC Try.prog (tab) (pls) 100 12) 100 .none (u2 fun _ _ => none) (codeAt [1, 1, 1, 1, 0, 0] (bodyOf Try.prog 24)) kd d = r2P kd d := by kernel_rfl
noncomputable def r2 : (Int × Int) → ((List (Int) × (List (Int × Int)) × Int) × Int × Int) → Option (((List (Int) × (List (Int × Int)) × Int) × Int × Int) ⊕ (Unit × ((List (Int) × (List (Int × Int)) × Int)))) := r2P
noncomputable def l2 : G2 := fun kd d => iterO (r2 kd) d
theorem ok2 : UnOk Try.prog (u2 l2) (codeAt [1, 1, 1, 1, 0] (bodyOf Try.prog 24)) :=
  loopT (p := .none) (c := codeAt [1, 1, 1, 1, 0, 0] (bodyOf Try.prog 24)) (fuel := 100) (depth := 12) mixed tabS plsP (by kernel_rfl) trivial (by kernel_rfl) (fun kd d => r2e  kd d) rfl
def fP (l1 : G1) (l2 : G2) : FT := fun ((w0, w1, w2), n, wide) =>
    bif w2 != 0 then some (PUnit.unit, w0, w1, w2)
    else (l1 wide (1, 1)).bind fun r0 => (l2 (n, wide) ((w0, w1, w2), r0.fst, 0)).bind fun r1 => some (PUnit.unit, r1.snd)
theorem fe (l1 : G1) (l2 : G2) (d : (List (Int) × (List (Int × Int)) × Int) × Int × Int) : bodyF (tabC Try.prog (tab) ((24, (.node .none (.node .none (.node (.node .none (.node (.unit (u1 l1)) .none)) (.node .none (.node (.unit (u2 l2)) .none)))))) :: pls) 100 12) 100 24 i o d = fP l1 l2 d := by kernel_rfl
noncomputable def f : FT := fP l1 l2
def plan (l1 : G1) (l2 : G2) : Plan := (.node .none (.node .none (.node (.node .none (.node (.unit (u1 l1)) .none)) (.node .none (.node (.unit (u2 l2)) .none)))))
theorem planOk : PlanOk Try.prog (plan l1 l2) (bodyOf Try.prog 24) := (planOk_of (plan l1 l2) _ [([1, 1, 0, 1, 0], u1 l1), ([1, 1, 1, 1, 0], u2 l2)] rfl ⟨ok1, ok2, trivial⟩)
theorem meets : MeetsF Try.prog 24 ⟨i, o, f⟩ :=
  funcT (fuel := 100) (depth := 12) (pl := (24, plan l1 l2) :: pls) mixed tabS ⟨planOk, plsP⟩ (fun d => fe l1 l2 d)
theorem spec : SpecOk Try.prog (fun _ => none) 24 (specF ⟨i, o, f⟩) := specF_ok (by kernel_rfl) meets
end Go.Proofs.Ytkleakkhbfdipaa.F24

/- What comes of function 55 of this program, (*consulate.scroll.Writer).fails, as the engine gives it. -/
namespace Go.Proofs.Ytkleakkhbfdipaa.F55
open Go Go.Proofs Go.Proofs.Ytkleakkhbfdipaa Go.RowKit Go.Proofs.Ytkleakkhbfdipaa.Sx
set_option linter.unusedVariables false
set_option maxRecDepth 100000
def tab (x34 : F34.FT) : List (FuncId × Sx.Spec) := [(34, specF ⟨F34.i, F34.o, x34⟩)]
def pls (x34 : F34.FT) : List (FuncId × Plan) := []
@[reducible] def i : Sh := .pt true 72 (.sl true 5 (.sc (.int .u8) .nil) (.sl true 83 (.sc (.int .i64) (.sc (.int .i64) .nil)) (.sc (.int .i64) (.sc .bool .nil)))) (.sc .bool (.sc (.int .i64) .nil))
@[reducible] def o : Sh := .sc .bool .nil
abbrev FT := ((List (Int) × (List (Int × Int)) × Int × Bool) × Bool × Int) → Option (Bool × ((List (Int) × (List (Int × Int)) × Int × Bool)))
theorem tabS : AllS Try.prog (tab F34.f) := ⟨F34.spec, trivial⟩
theorem plsP : AllP Try.prog (pls F34.f) := trivial
theorem mixed : Try.prog.follows .mixedOrders = true := by kernel_rfl
def fP (x34 : F34.FT) : FT := fun ((w0, w1, w2, w3), is0, e) =>
    (x34 (w0, w1, w2, w3)).bind fun r0 =>
      bif r0.fst == 0 then
        bif is0 then
          bif decide (0 + r0.snd.fst.length ≤ r0.snd.fst.length) && true then
            bif decide (0 + r0.snd.snd.fst.length ≤ r0.snd.snd.fst.length) && true then
              (x34
                    (List.take r0.snd.fst.length (List.drop 0 r0.snd.fst),
                      List.take r0.snd.snd.fst.length (List.drop 0 r0.snd.snd.fst), e, r0.snd.snd.snd.snd)).bind
                fun r1 => some (r1.fst != 0, r1.snd)
            else none
          else none
        else (x34 r0.snd).bind fun r1 => some (r1.fst != 0, r1.snd)
      else (x34 r0.snd).bind fun r1 => some (r1.fst != 0, r1.snd)
theorem fe (x34 : F34.FT) (d : (List (Int) × (List (Int × Int)) × Int × Bool) × Bool × Int) : bodyF (tabC Try.prog (tab x34) ((55, .none) :: pls x34) 100 12) 100 55 i o d = fP x34 d := by kernel_rfl
noncomputable def f : FT := fP F34.f
def plan : Plan := .none
theorem planOk : PlanOk Try.prog (plan) (bodyOf Try.prog 55) := (planOk_of (plan) _ [] (by kernel_rfl) trivial)
theorem meets : MeetsF Try.prog 55 ⟨i, o, f⟩ :=
  funcT (fuel := 100) (depth := 12) (pl := (55, plan) :: pls F34.f) mixed tabS ⟨planOk, plsP⟩ (fun d => fe F34.f d)
theorem spec : SpecOk Try.prog (fun _ => none) 55 (specF ⟨i, o, f⟩) := specF_ok (by kernel_rfl) meets
end Go.Proofs.Ytkleakkhbfdipaa.F55

/- What comes of function 28 of this program, (*consulate.consulateref01.Writer).Hold, as the engine gives it. -/
namespace Go.Proofs.Ytkleakkhbfdipaa.F28
open Go Go.Proofs Go.Proofs.Ytkleakkhbfdipaa Go.RowKit Go.Proofs.Ytkleakkhbfdipaa.Sx
set_option linter.unusedVariables false
set_option maxRecDepth 100000
def tab (x24 : F24.FT) : List (FuncId × Sx.Spec) := [(24, specF ⟨F24.i, F24.o, x24⟩)]
def pls (x24 : F24.FT) : List (FuncId × Plan) := []
@[reducible] def i : Sh := .pt true 45 (.sl true 5 (.sc (.int .u8) .nil) (.sl true 84 (.sc (.int .i64) (.sc (.int .i64) .nil)) (.sc (.int .i64) .nil))) (.sc (.int .i64) .nil)
@[reducible] def o : Sh := .nil
abbrev FT := ((List (Int) × (List (Int × Int)) × Int) × Int) → Option (Unit × ((List (Int) × (List (Int × Int)) × Int)))
theorem tabS : AllS Try.prog (tab F24.f) := ⟨F24.spec, trivial⟩
theorem plsP : AllP Try.prog (pls F24.f) := trivial
theorem mixed : Try.prog.follows .mixedOrders = true := by kernel_rfl
def fP (x24 : F24.FT) : FT := fun ((w0, w1, w2), wide) =>
    bif w2 != 0 then some (PUnit.unit, w0, w1, w2)
    else
      bif wide != 1 then
        bif wide != 2 then
          bif decide (0 + w0.length ≤ w0.length) && true then
            bif decide (0 + w1.length ≤ w1.length) && true then
              some (PUnit.unit, List.take w0.length w0, List.take w1.length w1, 1)
            else none
          else none
        else
          bif decide (w1.length + 2 / OfNat.ofNat 2 ≤ 1073741824) then
            bif decide (0 + w1.length ≤ w1.length) then
              bif decide (0 + w0.length ≤ w0.length) && true then
                bif
                    decide
                        (0 + (w1.length + 2 / OfNat.ofNat 2) ≤
                          (List.take w1.length w1 ++ [((↑w0.length : Int), wide)]).length) &&
                      true then
                  (x24
                        ((List.take w0.length w0,
                            List.take (w1.length + 2 / OfNat.ofNat 2)
                              (List.drop 0 (List.take w1.length w1 ++ [((↑w0.length : Int), wide)])),
                            w2),
                          0, wide)).bind
                    fun r0 => some (PUnit.unit, r0.snd)
                else none
              else none
            else none
          else none
      else
        bif decide (w1.length + 2 / OfNat.ofNat 2 ≤ 1073741824) then
          bif decide (0 + w1.length ≤ w1.length) then
            bif decide (0 + w0.length ≤ w0.length) && true then
              bif
                  decide
                      (0 + (w1.length + 2 / OfNat.ofNat 2) ≤
                        (List.take w1.length w1 ++ [((↑w0.length : Int), wide)]).length) &&
                    true then
                (x24
                      ((List.take w0.length w0,
                          List.take (w1.length + 2 / OfNat.ofNat 2)
                            (List.drop 0 (List.take w1.length w1 ++ [((↑w0.length : Int), wide)])),
                          w2),
                        0, wide)).bind
                  fun r0 => some (PUnit.unit, r0.snd)
              else none
            else none
          else none
        else none
theorem fe (x24 : F24.FT) (d : (List (Int) × (List (Int × Int)) × Int) × Int) : bodyF (tabC Try.prog (tab x24) ((28, .none) :: pls x24) 100 12) 100 28 i o d = fP x24 d := by kernel_rfl
noncomputable def f : FT := fP F24.f
def plan : Plan := .none
theorem planOk : PlanOk Try.prog (plan) (bodyOf Try.prog 28) := (planOk_of (plan) _ [] (by kernel_rfl) trivial)
theorem meets : MeetsF Try.prog 28 ⟨i, o, f⟩ :=
  funcT (fuel := 100) (depth := 12) (pl := (28, plan) :: pls F24.f) mixed tabS ⟨planOk, plsP⟩ (fun d => fe F24.f d)
theorem spec : SpecOk Try.prog (fun _ => none) 28 (specF ⟨i, o, f⟩) := specF_ok (by kernel_rfl) meets
end Go.Proofs.Ytkleakkhbfdipaa.F28

/- What comes of function 30 of this program, (*consulate.consulateref01.Writer).Fill, as the engine gives it. -/
namespace Go.Proofs.Ytkleakkhbfdipaa.F30
open Go Go.Proofs Go.Proofs.Ytkleakkhbfdipaa Go.RowKit Go.Proofs.Ytkleakkhbfdipaa.Sx
set_option linter.unusedVariables false
set_option maxRecDepth 100000
def tab : List (FuncId × Sx.Spec) := []
def pls : List (FuncId × Plan) := []
@[reducible] def i : Sh := .pt true 45 (.sl true 5 (.sc (.int .u8) .nil) (.sl true 84 (.sc (.int .i64) (.sc (.int .i64) .nil)) (.sc (.int .i64) .nil))) .nil
@[reducible] def o : Sh := .nil
abbrev FT := ((List (Int) × (List (Int × Int)) × Int)) → Option (Unit × ((List (Int) × (List (Int × Int)) × Int)))
theorem tabS : AllS Try.prog (tab) := trivial
theorem plsP : AllP Try.prog (pls) := trivial
theorem mixed : Try.prog.follows .mixedOrders = true := by kernel_rfl
def fP : FT := fun (w0, w1, w2) =>
    bif w2 != 0 then some (PUnit.unit, w0, w1, w2)
    else
      bif (↑w1.length : Int) == 0 then
        bif decide (0 + w0.length ≤ w0.length) && true then
          bif decide (0 + w1.length ≤ w1.length) && true then
            some (PUnit.unit, List.take w0.length w0, List.take w1.length w1, 26)
          else none
        else none
      else
        bif
            decide
              (0 ≤ IntKind.i64.wrap ((↑w1.length : Int) - 1) ∧
                IntKind.i64.wrap ((↑w1.length : Int) - 1) < (↑w1.length : Int) ∧ 0 < w1.length) then
          bif decide (0 + (IntKind.i64.wrap ((↑w1.length : Int) - 1)).toNat < w1.length) then
            bif (w1.getD (0 + (IntKind.i64.wrap ((↑w1.length : Int) - 1)).toNat) (0, 0)).snd == 1 then
              bif
                  decide
                    (IntKind.i64.wrap
                        (IntKind.i64.wrap
                            ((↑w0.length : Int) -
                              (w1.getD (0 + (IntKind.i64.wrap ((↑w1.length : Int) - 1)).toNat) (0, 0)).fst) -
                          (w1.getD (0 + (IntKind.i64.wrap ((↑w1.length : Int) - 1)).toNat) (0, 0)).snd) >
                      255) then
                bif decide (0 + w0.length ≤ w0.length) && true then
                  bif decide (0 + w1.length ≤ w1.length) && true then
                    some (PUnit.unit, List.take w0.length w0, List.take w1.length w1, 3)
                  else none
                else none
              else
                bif
                    decide
                      (IntKind.i64.wrap
                          (IntKind.i64.wrap
                              ((↑w0.length : Int) -
                                (w1.getD (0 + (IntKind.i64.wrap ((↑w1.length : Int) - 1)).toNat) (0, 0)).fst) -
                            (w1.getD (0 + (IntKind.i64.wrap ((↑w1.length : Int) - 1)).toNat) (0, 0)).snd) >
                        65535) then
                  bif decide (0 + w0.length ≤ w0.length) && true then
                    bif decide (0 + w1.length ≤ w1.length) && true then
                      some (PUnit.unit, List.take w0.length w0, List.take w1.length w1, 3)
                    else none
                  else none
                else
                  bif (w1.getD (0 + (IntKind.i64.wrap ((↑w1.length : Int) - 1)).toNat) (0, 0)).snd == 1 then
                    bif
                        decide
                          (0 ≤ (w1.getD (0 + (IntKind.i64.wrap ((↑w1.length : Int) - 1)).toNat) (0, 0)).fst ∧
                            (w1.getD (0 + (IntKind.i64.wrap ((↑w1.length : Int) - 1)).toNat) (0, 0)).fst <
                                (↑w0.length : Int) ∧
                              0 < w0.length) then
                      bif
                          decide
                            (0 + Int.toNat (w1.getD (0 + (IntKind.i64.wrap ((↑w1.length : Int) - 1)).toNat) (0, 0)).fst <
                              w0.length) then
                        bif
                            decide
                              (0 ≤ (some (IntKind.i64.wrap ((↑w1.length : Int) - 1))).getD (↑w1.length : Int) ∧
                                (some (IntKind.i64.wrap ((↑w1.length : Int) - 1))).getD (↑w1.length : Int) ≤
                                    (↑w1.length : Int) ∧
                                  0 + w1.length ≤ w1.length) then
                          bif
                              decide
                                  (0 + w0.length ≤
                                    (w0.set
                                        (0 +
                                          Int.toNat
                                            (w1.getD (0 + (IntKind.i64.wrap ((↑w1.length : Int) - 1)).toNat) (0, 0)).fst)
                                        (IntKind.u8.wrap
                                          (IntKind.i64.wrap
                                            (IntKind.i64.wrap
                                                ((↑w0.length : Int) -
                                                  (w1.getD (0 + (IntKind.i64.wrap ((↑w1.length : Int) - 1)).toNat)
                                                      (0, 0)).fst) -
                                              (w1.getD (0 + (IntKind.i64.wrap ((↑w1.length : Int) - 1)).toNat)
                                                  (0, 0)).snd)))).length) &&
                                true then
                            bif
                                decide
                                    (0 +
                                        ((some (IntKind.i64.wrap ((↑w1.length : Int) - 1))).getD
                                            (↑w1.length : Int)).toNat ≤
                                      w1.length) &&
                                  true then
                              some
                                (PUnit.unit,
                                  List.take w0.length
                                    (List.drop 0
                                      (w0.set
                                        (0 +
                                          Int.toNat
                                            (w1.getD (0 + (IntKind.i64.wrap ((↑w1.length : Int) - 1)).toNat) (0, 0)).fst)
                                        (IntKind.u8.wrap
                                          (IntKind.i64.wrap
                                            (IntKind.i64.wrap
                                                ((↑w0.length : Int) -
                                                  (w1.getD (0 + (IntKind.i64.wrap ((↑w1.length : Int) - 1)).toNat)
                                                      (0, 0)).fst) -
                                              (w1.getD (0 + (IntKind.i64.wrap ((↑w1.length : Int) - 1)).toNat)
                                                  (0, 0)).snd))))),
                                  List.take
                                    ((some (IntKind.i64.wrap ((↑w1.length : Int) - 1))).getD (↑w1.length : Int)).toNat w1,
                                  w2)
                            else none
                          else none
                        else none
                      else none
                    else none
                  else
                    bif
                        decide
                          (0 ≤ (w1.getD (0 + (IntKind.i64.wrap ((↑w1.length : Int) - 1)).toNat) (0, 0)).fst ∧
                            (w1.getD (0 + (IntKind.i64.wrap ((↑w1.length : Int) - 1)).toNat) (0, 0)).fst <
                                (↑w0.length : Int) ∧
                              0 < w0.length) then
                      bif
                          decide
                            (0 + Int.toNat (w1.getD (0 + (IntKind.i64.wrap ((↑w1.length : Int) - 1)).toNat) (0, 0)).fst <
                              w0.length) then
                        bif
                            decide
                              (0 ≤
                                  IntKind.i64.wrap
                                    ((w1.getD (0 + (IntKind.i64.wrap ((↑w1.length : Int) - 1)).toNat) (0, 0)).fst + 1) ∧
                                IntKind.i64.wrap
                                      ((w1.getD (0 + (IntKind.i64.wrap ((↑w1.length : Int) - 1)).toNat) (0, 0)).fst + 1) <
                                    (↑w0.length : Int) ∧
                                  0 <
                                    (w0.set
                                        (0 +
                                          Int.toNat
                                            (w1.getD (0 + (IntKind.i64.wrap ((↑w1.length : Int) - 1)).toNat) (0, 0)).fst)
                                        (IntKind.u8.wrap
                                          (IntKind.i64.wrap
                                            ((IntKind.i64.wrap
                                                  (IntKind.i64.wrap
                                                      ((↑w0.length : Int) -
                                                        (w1.getD (0 + (IntKind.i64.wrap ((↑w1.length : Int) - 1)).toNat)
                                                            (0, 0)).fst) -
                                                    (w1.getD (0 + (IntKind.i64.wrap ((↑w1.length : Int) - 1)).toNat)
                                                        (0, 0)).snd)).tdiv
                                              256)))).length) then
                          bif
                              decide
                                (0 +
                                    (IntKind.i64.wrap
                                        ((w1.getD (0 + (IntKind.i64.wrap ((↑w1.length : Int) - 1)).toNat) (0, 0)).fst +
                                          1)).toNat <
                                  (w0.set
                                      (0 +
                                        Int.toNat
                                          (w1.getD (0 + (IntKind.i64.wrap ((↑w1.length : Int) - 1)).toNat) (0, 0)).fst)
                                      (IntKind.u8.wrap
                                        (IntKind.i64.wrap
                                          ((IntKind.i64.wrap
                                                (IntKind.i64.wrap
                                                    ((↑w0.length : Int) -
                                                      (w1.getD (0 + (IntKind.i64.wrap ((↑w1.length : Int) - 1)).toNat)
                                                          (0, 0)).fst) -
                                                  (w1.getD (0 + (IntKind.i64.wrap ((↑w1.length : Int) - 1)).toNat)
                                                      (0, 0)).snd)).tdiv
                                            256)))).length) then
                            bif
                                decide
                                  (0 ≤ (some (IntKind.i64.wrap ((↑w1.length : Int) - 1))).getD (↑w1.length : Int) ∧
                                    (some (IntKind.i64.wrap ((↑w1.length : Int) - 1))).getD (↑w1.length : Int) ≤
                                        (↑w1.length : Int) ∧
                                      0 + w1.length ≤ w1.length) then
                              bif
                                  decide
                                      (0 + w0.length ≤
                                        ((w0.set
                                                (0 +
                                                  Int.toNat
                                                    (w1.getD (0 + (IntKind.i64.wrap ((↑w1.length : Int) - 1)).toNat)
                                                        (0, 0)).fst)
                                                (IntKind.u8.wrap
                                                  (IntKind.i64.wrap
                                                    ((IntKind.i64.wrap
                                                          (IntKind.i64.wrap
                                                              ((↑w0.length : Int) -
                                                                (w1.getD
                                                                    (0 +
                                                                      (IntKind.i64.wrap ((↑w1.length : Int) - 1)).toNat)
                                                                    (0, 0)).fst) -
                                                            (w1.getD
                                                                (0 + (IntKind.i64.wrap ((↑w1.length : Int) - 1)).toNat)
                                                                (0, 0)).snd)).tdiv
                                                      256)))).set
                                            (0 +
                                              (IntKind.i64.wrap
                                                  ((w1.getD (0 + (IntKind.i64.wrap ((↑w1.length : Int) - 1)).toNat)
                                                        (0, 0)).fst +
                                                    1)).toNat)
                                            (IntKind.u8.wrap
                                              ((IntKind.i64.wrap
                                                    (IntKind.i64.wrap
                                                        ((↑w0.length : Int) -
                                                          (w1.getD (0 + (IntKind.i64.wrap ((↑w1.length : Int) - 1)).toNat)
                                                              (0, 0)).fst) -
                                                      (w1.getD (0 + (IntKind.i64.wrap ((↑w1.length : Int) - 1)).toNat)
                                                          (0, 0)).snd)).tmod
                                                256))).length) &&
                                    true then
                                bif
                                    decide
                                        (0 +
                                            ((some (IntKind.i64.wrap ((↑w1.length : Int) - 1))).getD
                                                (↑w1.length : Int)).toNat ≤
                                          w1.length) &&
                                      true then
                                  some
                                    (PUnit.unit,
                                      List.take w0.length
                                        (List.drop 0
                                          ((w0.set
                                                (0 +
                                                  Int.toNat
                                                    (w1.getD (0 + (IntKind.i64.wrap ((↑w1.length : Int) - 1)).toNat)
                                                        (0, 0)).fst)
                                                (IntKind.u8.wrap
                                                  (IntKind.i64.wrap
                                                    ((IntKind.i64.wrap
                                                          (IntKind.i64.wrap
                                                              ((↑w0.length : Int) -
                                                                (w1.getD
                                                                    (0 +
                                                                      (IntKind.i64.wrap ((↑w1.length : Int) - 1)).toNat)
                                                                    (0, 0)).fst) -
                                                            (w1.getD
                                                                (0 + (IntKind.i64.wrap ((↑w1.length : Int) - 1)).toNat)
                                                                (0, 0)).snd)).tdiv
                                                      256)))).set
                                            (0 +
                                              (IntKind.i64.wrap
                                                  ((w1.getD (0 + (IntKind.i64.wrap ((↑w1.length : Int) - 1)).toNat)
                                                        (0, 0)).fst +
                                                    1)).toNat)
                                            (IntKind.u8.wrap
                                              ((IntKind.i64.wrap
                                                    (IntKind.i64.wrap
                                                        ((↑w0.length : Int) -
                                                          (w1.getD (0 + (IntKind.i64.wrap ((↑w1.length : Int) - 1)).toNat)
                                                              (0, 0)).fst) -
                                                      (w1.getD (0 + (IntKind.i64.wrap ((↑w1.length : Int) - 1)).toNat)
                                                          (0, 0)).snd)).tmod
                                                256)))),
                                      List.take
                                        ((some (IntKind.i64.wrap ((↑w1.length : Int) - 1))).getD (↑w1.length : Int)).toNat
                                        w1,
                                      w2)
                                else none
                              else none
                            else none
                          else none
                        else none
                      else none
                    else none
            else
              bif
                  decide
                    (IntKind.i64.wrap
                        (IntKind.i64.wrap
                            ((↑w0.length : Int) -
                              (w1.getD (0 + (IntKind.i64.wrap ((↑w1.length : Int) - 1)).toNat) (0, 0)).fst) -
                          (w1.getD (0 + (IntKind.i64.wrap ((↑w1.length : Int) - 1)).toNat) (0, 0)).snd) >
                      65535) then
                bif decide (0 + w0.length ≤ w0.length) && true then
                  bif decide (0 + w1.length ≤ w1.length) && true then
                    some (PUnit.unit, List.take w0.length w0, List.take w1.length w1, 3)
                  else none
                else none
              else
                bif (w1.getD (0 + (IntKind.i64.wrap ((↑w1.length : Int) - 1)).toNat) (0, 0)).snd == 1 then
                  bif
                      decide
                        (0 ≤ (w1.getD (0 + (IntKind.i64.wrap ((↑w1.length : Int) - 1)).toNat) (0, 0)).fst ∧
                          (w1.getD (0 + (IntKind.i64.wrap ((↑w1.length : Int) - 1)).toNat) (0, 0)).fst <
                              (↑w0.length : Int) ∧
                            0 < w0.length) then
                    bif
                        decide
                          (0 + Int.toNat (w1.getD (0 + (IntKind.i64.wrap ((↑w1.length : Int) - 1)).toNat) (0, 0)).fst <
                            w0.length) then
                      bif
                          decide
                            (0 ≤ (some (IntKind.i64.wrap ((↑w1.length : Int) - 1))).getD (↑w1.length : Int) ∧
                              (some (IntKind.i64.wrap ((↑w1.length : Int) - 1))).getD (↑w1.length : Int) ≤
                                  (↑w1.length : Int) ∧
                                0 + w1.length ≤ w1.length) then
                        bif
                            decide
                                (0 + w0.length ≤
                                  (w0.set
                                      (0 +
                                        Int.toNat
                                          (w1.getD (0 + (IntKind.i64.wrap ((↑w1.length : Int) - 1)).toNat) (0, 0)).fst)
                                      (IntKind.u8.wrap
                                        (IntKind.i64.wrap
                                          (IntKind.i64.wrap
                                              ((↑w0.length : Int) -
                                                (w1.getD (0 + (IntKind.i64.wrap ((↑w1.length : Int) - 1)).toNat)
                                                    (0, 0)).fst) -
                                            (w1.getD (0 + (IntKind.i64.wrap ((↑w1.length : Int) - 1)).toNat)
                                                (0, 0)).snd)))).length) &&
                              true then
                          bif
                              decide
                                  (0 +
                                      ((some (IntKind.i64.wrap ((↑w1.length : Int) - 1))).getD (↑w1.length : Int)).toNat ≤
                                    w1.length) &&
                                true then
                            some
                              (PUnit.unit,
                                List.take w0.length
                                  (List.drop 0
                                    (w0.set
                                      (0 +
                                        Int.toNat
                                          (w1.getD (0 + (IntKind.i64.wrap ((↑w1.length : Int) - 1)).toNat) (0, 0)).fst)
                                      (IntKind.u8.wrap
                                        (IntKind.i64.wrap
                                          (IntKind.i64.wrap
                                              ((↑w0.length : Int) -
                                                (w1.getD (0 + (IntKind.i64.wrap ((↑w1.length : Int) - 1)).toNat)
                                                    (0, 0)).fst) -
                                            (w1.getD (0 + (IntKind.i64.wrap ((↑w1.length : Int) - 1)).toNat)
                                                (0, 0)).snd))))),
                                List.take
                                  ((some (IntKind.i64.wrap ((↑w1.length : Int) - 1))).getD (↑w1.length : Int)).toNat w1,
                                w2)
                          else none
                        else none
                      else none
                    else none
                  else none
                else
                  bif
                      decide
                        (0 ≤ (w1.getD (0 + (IntKind.i64.wrap ((↑w1.length : Int) - 1)).toNat) (0, 0)).fst ∧
                          (w1.getD (0 + (IntKind.i64.wrap ((↑w1.length : Int) - 1)).toNat) (0, 0)).fst <
                              (↑w0.length : Int) ∧
                            0 < w0.length) then
                    bif
                        decide
                          (0 + Int.toNat (w1.getD (0 + (IntKind.i64.wrap ((↑w1.length : Int) - 1)).toNat) (0, 0)).fst <
                            w0.length) then
                      bif
                          decide
                            (0 ≤
                                IntKind.i64.wrap
                                  ((w1.getD (0 + (IntKind.i64.wrap ((↑w1.length : Int) - 1)).toNat) (0, 0)).fst + 1) ∧
                              IntKind.i64.wrap
                                    ((w1.getD (0 + (IntKind.i64.wrap ((↑w1.length : Int) - 1)).toNat) (0, 0)).fst + 1) <
                                  (↑w0.length : Int) ∧
                                0 <
                                  (w0.set
                                      (0 +
                                        Int.toNat
                                          (w1.getD (0 + (IntKind.i64.wrap ((↑w1.length : Int) - 1)).toNat) (0, 0)).fst)
                                      (IntKind.u8.wrap
                                        (IntKind.i64.wrap
                                          ((IntKind.i64.wrap
                                                (IntKind.i64.wrap
                                                    ((↑w0.length : Int) -
                                                      (w1.getD (0 + (IntKind.i64.wrap ((↑w1.length : Int) - 1)).toNat)
                                                          (0, 0)).fst) -
                                                  (w1.getD (0 + (IntKind.i64.wrap ((↑w1.length : Int) - 1)).toNat)
                                                      (0, 0)).snd)).tdiv
                                            256)))).length) then
                        bif
                            decide
                              (0 +
                                  (IntKind.i64.wrap
                                      ((w1.getD (0 + (IntKind.i64.wrap ((↑w1.length : Int) - 1)).toNat) (0, 0)).fst +
                                        1)).toNat <
                                (w0.set
                                    (0 +
                                      Int.toNat
                                        (w1.getD (0 + (IntKind.i64.wrap ((↑w1.length : Int) - 1)).toNat) (0, 0)).fst)
                                    (IntKind.u8.wrap
                                      (IntKind.i64.wrap
                                        ((IntKind.i64.wrap
                                              (IntKind.i64.wrap
                                                  ((↑w0.length : Int) -
                                                    (w1.getD (0 + (IntKind.i64.wrap ((↑w1.length : Int) - 1)).toNat)
                                                        (0, 0)).fst) -
                                                (w1.getD (0 + (IntKind.i64.wrap ((↑w1.length : Int) - 1)).toNat)
                                                    (0, 0)).snd)).tdiv
                                          256)))).length) then
                          bif
                              decide
                                (0 ≤ (some (IntKind.i64.wrap ((↑w1.length : Int) - 1))).getD (↑w1.length : Int) ∧
                                  (some (IntKind.i64.wrap ((↑w1.length : Int) - 1))).getD (↑w1.length : Int) ≤
                                      (↑w1.length : Int) ∧
                                    0 + w1.length ≤ w1.length) then
                            bif
                                decide
                                    (0 + w0.length ≤
                                      ((w0.set
                                              (0 +
                                                Int.toNat
                                                  (w1.getD (0 + (IntKind.i64.wrap ((↑w1.length : Int) - 1)).toNat)
                                                      (0, 0)).fst)
                                              (IntKind.u8.wrap
                                                (IntKind.i64.wrap
                                                  ((IntKind.i64.wrap
                                                        (IntKind.i64.wrap
                                                            ((↑w0.length : Int) -
                                                              (w1.getD
                                                                  (0 + (IntKind.i64.wrap ((↑w1.length : Int) - 1)).toNat)
                                                                  (0, 0)).fst) -
                                                          (w1.getD (0 + (IntKind.i64.wrap ((↑w1.length : Int) - 1)).toNat)
                                                              (0, 0)).snd)).tdiv
                                                    256)))).set
                                          (0 +
                                            (IntKind.i64.wrap
                                                ((w1.getD (0 + (IntKind.i64.wrap ((↑w1.length : Int) - 1)).toNat)
                                                      (0, 0)).fst +
                                                  1)).toNat)
                                          (IntKind.u8.wrap
                                            ((IntKind.i64.wrap
                                                  (IntKind.i64.wrap
                                                      ((↑w0.length : Int) -
                                                        (w1.getD (0 + (IntKind.i64.wrap ((↑w1.length : Int) - 1)).toNat)
                                                            (0, 0)).fst) -
                                                    (w1.getD (0 + (IntKind.i64.wrap ((↑w1.length : Int) - 1)).toNat)
                                                        (0, 0)).snd)).tmod
                                              256))).length) &&
                                  true then
                              bif
                                  decide
                                      (0 +
                                          ((some (IntKind.i64.wrap ((↑w1.length : Int) - 1))).getD
                                              (↑w1.length : Int)).toNat ≤
                                        w1.length) &&
                                    true then
                                some
                                  (PUnit.unit,
                                    List.take w0.length
                                      (List.drop 0
                                        ((w0.set
                                              (0 +
                                                Int.toNat
                                                  (w1.getD (0 + (IntKind.i64.wrap ((↑w1.length : Int) - 1)).toNat)
                                                      (0, 0)).fst)
                                              (IntKind.u8.wrap
                                                (IntKind.i64.wrap
                                                  ((IntKind.i64.wrap
                                                        (IntKind.i64.wrap
                                                            ((↑w0.length : Int) -
                                                              (w1.getD
                                                                  (0 + (IntKind.i64.wrap ((↑w1.length : Int) - 1)).toNat)
                                                                  (0, 0)).fst) -
                                                          (w1.getD (0 + (IntKind.i64.wrap ((↑w1.length : Int) - 1)).toNat)
                                                              (0, 0)).snd)).tdiv
                                                    256)))).set
                                          (0 +
                                            (IntKind.i64.wrap
                                                ((w1.getD (0 + (IntKind.i64.wrap ((↑w1.length : Int) - 1)).toNat)
                                                      (0, 0)).fst +
                                                  1)).toNat)
                                          (IntKind.u8.wrap
                                            ((IntKind.i64.wrap
                                                  (IntKind.i64.wrap
                                                      ((↑w0.length : Int) -
                                                        (w1.getD (0 + (IntKind.i64.wrap ((↑w1.length : Int) - 1)).toNat)
                                                            (0, 0)).fst) -
                                                    (w1.getD (0 + (IntKind.i64.wrap ((↑w1.length : Int) - 1)).toNat)
                                                        (0, 0)).snd)).tmod
                                              256)))),
                                    List.take
                                      ((some (IntKind.i64.wrap ((↑w1.length : Int) - 1))).getD (↑w1.length : Int)).toNat
                                      w1,
                                    w2)
                              else none
                            else none
                          else none
                        else none
                      else none
                    else none
                  else none
          else none
        else none
theorem fe (d : (List (Int) × (List (Int × Int)) × Int)) : bodyF (tabC Try.prog (tab) ((30, .none) :: pls) 100 12) 100 30 i o d = fP d := by kernel_rfl
noncomputable def f : FT := fP
def plan : Plan := .none
theorem planOk : PlanOk Try.prog (plan) (bodyOf Try.prog 30) := (planOk_of (plan) _ [] (by kernel_rfl) trivial)
theorem meets : MeetsF Try.prog 30 ⟨i, o, f⟩ :=
  funcT (fuel := 100) (depth := 12) (pl := (30, plan) :: pls) mixed tabS ⟨planOk, plsP⟩ (fun d => fe  d)
theorem spec : SpecOk Try.prog (fun _ => none) 30 (specF ⟨i, o, f⟩) := specF_ok (by kernel_rfl) meets
end Go.Proofs.Ytkleakkhbfdipaa.F30

/- What comes of function 31 of this program, (*consulate.scroll.Writer).Done, as the engine gives it. -/
namespace Go.Proofs.Ytkleakkhbfdipaa.F31
open Go Go.Proofs Go.Proofs.Ytkleakkhbfdipaa Go.RowKit Go.Proofs.Ytkleakkhbfdipaa.Sx
set_option linter.unusedVariables false
set_option maxRecDepth 100000
def tab (x34 : F34.FT) (x51 : F51.FT) : List (FuncId × Sx.Spec) := [(34, specF ⟨F34.i, F34.o, x34⟩), (51, specF ⟨F51.i, F51.o, x51⟩)]
def pls (x34 : F34.FT) (x51 : F51.FT) : List (FuncId × Plan) := []
@[reducible] def i : Sh := .pt true 72 (.sl true 5 (.sc (.int .u8) .nil) (.sl true 83 (.sc (.int .i64) (.sc (.int .i64) .nil)) (.sc (.int .i64) (.sc .bool .nil)))) .nil
@[reducible] def o : Sh := .sl true 5 (.sc (.int .u8) .nil) (.sc (.int .i64) .nil)
abbrev FT := ((List (Int) × (List (Int × Int)) × Int × Bool)) → Option ((List (Int) × Int) × ((List (Int) × (List (Int × Int)) × Int × Bool)))
theorem tabS : AllS Try.prog (tab F34.f F51.f) := ⟨F34.spec, F51.spec, trivial⟩
theorem plsP : AllP Try.prog (pls F34.f F51.f) := trivial
theorem mixed : Try.prog.follows .mixedOrders = true := by kernel_rfl
def fP (x34 : F34.FT) (x51 : F51.FT) : FT := fun (w0, w1, w2, w3) =>
    (x34 (w0, w1, w2, w3)).bind fun r0 =>
      bif r0.fst != 0 then some (([], r0.fst), r0.snd)
      else
        bif decide ((↑r0.snd.snd.fst.length : Int) > 0) then
          bif decide (0 + r0.snd.fst.length ≤ r0.snd.fst.length) && true then
            bif decide (0 + r0.snd.snd.fst.length ≤ r0.snd.snd.fst.length) && true then
              some
                (([], 26), List.take r0.snd.fst.length (List.drop 0 r0.snd.fst),
                  List.take r0.snd.snd.fst.length (List.drop 0 r0.snd.snd.fst), r0.snd.snd.snd.fst, r0.snd.snd.snd.snd)
            else none
          else none
        else
          bif decide (0 + r0.snd.fst.length ≤ r0.snd.fst.length) && true then
            (x51 (List.take r0.snd.fst.length (List.drop 0 r0.snd.fst))).bind fun r1 =>
              bif decide (0 + List.length r1.fst ≤ List.length r1.fst) && true then
                bif decide (0 + r0.snd.fst.length ≤ r0.snd.fst.length) && true then
                  bif decide (0 + r0.snd.snd.fst.length ≤ r0.snd.snd.fst.length) && true then
                    some
                      ((List.take (List.length r1.fst) (List.drop 0 r1.fst), 0),
                        List.take r0.snd.fst.length (List.drop 0 r0.snd.fst),
                        List.take r0.snd.snd.fst.length (List.drop 0 r0.snd.snd.fst), r0.snd.snd.snd.fst,
                        r0.snd.snd.snd.snd)
                  else none
                else none
              else none
          else none
theorem fe (x34 : F34.FT) (x51 : F51.FT) (d : (List (Int) × (List (Int × Int)) × Int × Bool)) : bodyF (tabC Try.prog (tab x34 x51) ((31, .none) :: pls x34 x51) 100 12) 100 31 i o d = fP x34 x51 d := by kernel_rfl
noncomputable def f : FT := fP F34.f F51.f
def plan : Plan := .none
theorem planOk : PlanOk Try.prog (plan) (bodyOf Try.prog 31) := (planOk_of (plan) _ [] (by kernel_rfl) trivial)
theorem meets : MeetsF Try.prog 31 ⟨i, o, f⟩ :=
  funcT (fuel := 100) (depth := 12) (pl := (31, plan) :: pls F34.f F51.f) mixed tabS ⟨planOk, plsP⟩ (fun d => fe F34.f F51.f d)
theorem spec : SpecOk Try.prog (fun _ => none) 31 (specF ⟨i, o, f⟩) := specF_ok (by kernel_rfl) meets
end Go.Proofs.Ytkleakkhbfdipaa.F31

/- What comes of function 33 of this program, (*consulate.scroll.Writer).Len, as the engine gives it. -/
namespace Go.Proofs.Ytkleakkhbfdipaa.F33
open Go Go.Proofs Go.Proofs.Ytkleakkhbfdipaa Go.RowKit Go.Proofs.Ytkleakkhbfdipaa.Sx
set_option linter.unusedVariables false
set_option maxRecDepth 100000
def tab : List (FuncId × Sx.Spec) := []
def pls : List (FuncId × Plan) := []
@[reducible] def i : Sh := .pt true 72 (.sl true 5 (.sc (.int .u8) .nil) (.sl true 83 (.sc (.int .i64) (.sc (.int .i64) .nil)) (.sc (.int .i64) (.sc .bool .nil)))) .nil
@[reducible] def o : Sh := .sc (.int .i64) .nil
abbrev FT := ((List (Int) × (List (Int × Int)) × Int × Bool)) → Option (Int × ((List (Int) × (List (Int × Int)) × Int × Bool)))
theorem tabS : AllS Try.prog (tab) := trivial
theorem plsP : AllP Try.prog (pls) := trivial
theorem mixed : Try.prog.follows .mixedOrders = true := by kernel_rfl
def fP : FT := fun (w0, w1, w2, w3) =>
    bif decide (0 + w0.length ≤ w0.length) && true then
      bif decide (0 + w1.length ≤ w1.length) && true then
        some ((↑w0.length : Int), List.take w0.length w0, List.take w1.length w1, w2, w3)
      else none
    else none
theorem fe (d : (List (Int) × (List (Int × Int)) × Int × Bool)) : bodyF (tabC Try.prog (tab) ((33, .none) :: pls) 100 12) 100 33 i o d = fP d := by kernel_rfl
noncomputable def f : FT := fP
def plan : Plan := .none
theorem planOk : PlanOk Try.prog (plan) (bodyOf Try.prog 33) := (planOk_of (plan) _ [] (by kernel_rfl) trivial)
theorem meets : MeetsF Try.prog 33 ⟨i, o, f⟩ :=
  funcT (fuel := 100) (depth := 12) (pl := (33, plan) :: pls) mixed tabS ⟨planOk, plsP⟩ (fun d => fe  d)
theorem spec : SpecOk Try.prog (fun _ => none) 33 (specF ⟨i, o, f⟩) := specF_ok (by kernel_rfl) meets
end Go.Proofs.Ytkleakkhbfdipaa.F33

/- What comes of function 25 of this program, (*consulate.scroll.Writer).Two, as the engine gives it. -/
namespace Go.Proofs.Ytkleakkhbfdipaa.F25
open Go Go.Proofs Go.Proofs.Ytkleakkhbfdipaa Go.RowKit Go.Proofs.Ytkleakkhbfdipaa.Sx
set_option linter.unusedVariables false
set_option maxRecDepth 100000
def tab (x34 : F34.FT) : List (FuncId × Sx.Spec) := [(34, specF ⟨F34.i, F34.o, x34⟩)]
def pls (x34 : F34.FT) : List (FuncId × Plan) := []
@[reducible] def k1 : Sh := .sl false 49 (.sc (.int .u16) .nil) (.sc (.int .i64) .nil)
@[reducible] def i1 : Sh := .pt true 72 (.sl true 5 (.sc (.int .u8) .nil) (.sl true 83 (.sc (.int .i64) (.sc (.int .i64) .nil)) (.sc (.int .i64) (.sc .bool .nil)))) (.sc (.int .i64) .nil)
@[reducible] def o1 : Sh := .nil
abbrev G1 := (List (Int) × Int) → ((List (Int) × (List (Int × Int)) × Int × Bool) × Int) → Option (Unit × ((List (Int) × (List (Int × Int)) × Int × Bool)))
def u1 (F : G1) : Un := ⟨23, [7, 8], k1, [0, 9], i1, [], o1, [0, 7, 8], [(.exit 0, [])], F⟩
theorem tabS : AllS Try.prog (tab F34.f) := ⟨F34.spec, trivial⟩
theorem plsP : AllP Try.prog (pls F34.f) := trivial
theorem mixed : Try.prog.follows .mixedOrders = true := by kernel_rfl
def r1P (x34 : F34.FT) : (List (Int) × Int) → ((List (Int) × (List (Int × Int)) × Int × Bool) × Int) → Option (((List (Int) × (List (Int × Int)) × Int × Bool) × Int) ⊕ (Unit × ((List (Int) × (List (Int × Int)) × Int × Bool)))) := fun (t7, t8) ((w0, w1, w2, w3), t9) =>
    bif decide (t9 < t8) then
      bif decide (0 ≤ t9 ∧ t9 < (↑t7.length : Int) ∧ 0 < t7.length) then
        bif decide (0 + t9.toNat < t7.length) then
          (x34 (w0, w1, w2, w3)).bind fun r0 =>
            bif r0.fst == 0 then
              bif decide (r0.snd.fst.length + 2 / OfNat.ofNat 1 ≤ 1073741824) then
                bif decide (0 + r0.snd.fst.length ≤ r0.snd.fst.length) then
                  bif
                      decide
                          (0 + (r0.snd.fst.length + 2 / OfNat.ofNat 1) ≤
                            (List.take r0.snd.fst.length (List.drop 0 r0.snd.fst) ++
                                [IntKind.u8.wrap (Int.fdiv (t7.getD (0 + t9.toNat) 0) 256),
                                  IntKind.u8.wrap (t7.getD (0 + t9.toNat) 0)]).length) &&
                        true then
                    bif decide (0 + r0.snd.snd.fst.length ≤ r0.snd.snd.fst.length) && true then
                      some
                        (Sum.inl
                          ((List.take (r0.snd.fst.length + 2 / OfNat.ofNat 1)
                                (List.drop 0
                                  (List.take r0.snd.fst.length (List.drop 0 r0.snd.fst) ++
                                    [IntKind.u8.wrap (Int.fdiv (t7.getD (0 + t9.toNat) 0) 256),
                                      IntKind.u8.wrap (t7.getD (0 + t9.toNat) 0)])),
                              List.take r0.snd.snd.fst.length (List.drop 0 r0.snd.snd.fst), r0.snd.snd.snd.fst,
                              r0.snd.snd.snd.snd),
                            IntKind.i64.wrap (t9 + 1)))
                    else none
                  else none
                else none
              else none
            else some (Sum.inl (r0.snd, IntKind.i64.wrap (t9 + 1)))
        else none
      else none
    else some (Sum.inr (PUnit.unit, w0, w1, w2, w3))
theorem r1e (x34 : F34.FT) (kd : List (Int) × Int) (d : (List (Int) × (List (Int × Int)) × Int × Bool) × Int) : roundF (tabC Try.prog (tab x34) (pls x34) 100 12) 100 .none (u1 fun _ _ => none) (codeAt [1, 0, 1, 0, 0] (bodyOf Try.prog 25)) kd d = r1P x34 kd d := by kernel_rfl
noncomputable def r1 : (List (Int) × Int) → ((List (Int) × (List (Int × Int)) × Int × Bool) × Int) → Option (((List (Int) × (List (Int × Int)) × Int × Bool) × Int) ⊕ (Unit × ((List (Int) × (List (Int × Int)) × Int × Bool)))) := r1P F34.f
noncomputable def l1 : G1 := fun kd d => iterO (r1 kd) d
theorem ok1 : UnOk Try.prog (u1 l1) (codeAt [1, 0, 1, 0] (bodyOf Try.prog 25)) :=
  loopT (p := .none) (c := codeAt [1, 0, 1, 0, 0] (bodyOf Try.prog 25)) (fuel := 100) (depth := 12) mixed tabS plsP (by kernel_rfl) trivial (by kernel_rfl) (fun kd d => r1e F34.f kd d) rfl
def plan (l1 : G1) : Plan := (.node .none (.node (.node .none (.node (.unit (u1 l1)) .none)) .none))
theorem planOk : PlanOk Try.prog (plan l1) (bodyOf Try.prog 25) := (planOk_of (plan l1) _ [([1, 0, 1, 0], u1 l1)] rfl ⟨ok1, trivial⟩)
end Go.Proofs.Ytkleakkhbfdipaa.F25

/- What comes of function 26 of this program, (*consulate.scroll.Writer).Four, as the engine gives it. -/
namespace Go.Proofs.Ytkleakkhbfdipaa.F26
open Go Go.Proofs Go.Proofs.Ytkleakkhbfdipaa Go.RowKit Go.Proofs.Ytkleakkhbfdipaa.Sx
set_option linter.unusedVariables false
set_option maxRecDepth 100000
def tab (x34 : F34.FT) (l25_1 : F25.G1) : List (FuncId × Sx.Spec) := [(34, specF ⟨F34.i, F34.o, x34⟩)]
def pls (x34 : F34.FT) (l25_1 : F25.G1) : List (FuncId × Plan) := [(25, F25.plan l25_1)]
@[reducible] def k1 : Sh := .sl false 51 (.sc (.int .u32) .nil) (.sc (.int .i64) .nil)
@[reducible] def i1 : Sh := .pt true 72 (.sl true 5 (.sc (.int .u8) .nil) (.sl true 83 (.sc (.int .i64) (.sc (.int .i64) .nil)) (.sc (.int .i64) (.sc .bool .nil)))) (.sc (.int .i64) .nil)
@[reducible] def o1 : Sh := .nil
abbrev G1 := (List (Int) × Int) → ((List (Int) × (List (Int × Int)) × Int × Bool) × Int) → Option (Unit × ((List (Int) × (List (Int × Int)) × Int × Bool)))
def u1 (F : G1) : Un := ⟨23, [7, 8], k1, [0, 9], i1, [], o1, [0, 7, 8], [(.exit 0, [])], F⟩
theorem tabS : AllS Try.prog (tab F34.f F25.l1) := ⟨F34.spec, trivial⟩
theorem plsP : AllP Try.prog (pls F34.f F25.l1) := ⟨F25.planOk, trivial⟩
theorem mixed : Try.prog.follows .mixedOrders = true := by kernel_rfl
def r1P (x34 : F34.FT) (l25_1 : F25.G1) : (List (Int) × Int) → ((List (Int) × (List (Int × Int)) × Int × Bool) × Int) → Option (((List (Int) × (List (Int × Int)) × Int × Bool) × Int) ⊕ (Unit × ((List (Int) × (List (Int × Int)) × Int × Bool)))) := fun (t7, t8) ((w0, w1, w2, w3), t9) =>
    bif decide (t9 < t8) then
      bif decide (0 ≤ t9 ∧ t9 < (↑t7.length : Int) ∧ 0 < t7.length) then
        bif decide (0 + t9.toNat < t7.length) then
          (l25_1
                ([IntKind.u16.wrap (Int.fdiv (t7.getD (0 + t9.toNat) 0) 65536),
                    IntKind.u16.wrap (t7.getD (0 + t9.toNat) 0)],
                  2)
                ((w0, w1, w2, w3), 0)).bind
            fun r0 => some (Sum.inl (r0.snd, IntKind.i64.wrap (t9 + 1)))
        else none
      else none
    else some (Sum.inr (PUnit.unit, w0, w1, w2, w3))
theorem r1e (x34 : F34.FT) (l25_1 : F25.G1) (kd : List (Int) × Int) (d : (List (Int) × (List (Int × Int)) × Int × Bool) × Int) : roundF (tabC Try.prog (tab x34 l25_1) (pls x34 l25_1) 100 12) 100 .none (u1 fun _ _ => none) (codeAt [1, 0, 1, 0, 0] (bodyOf Try.prog 26)) kd d = r1P x34 l25_1 kd d := by kernel_rfl
noncomputable def r1 : (List (Int) × Int) → ((List (Int) × (List (Int × Int)) × Int × Bool) × Int) → Option (((List (Int) × (List (Int × Int)) × Int × Bool) × Int) ⊕ (Unit × ((List (Int) × (List (Int × Int)) × Int × Bool)))) := r1P F34.f F25.l1
noncomputable def l1 : G1 := fun kd d => iterO (r1 kd) d
theorem ok1 : UnOk Try.prog (u1 l1) (codeAt [1, 0, 1, 0] (bodyOf Try.prog 26)) :=
  loopT (p := .none) (c := codeAt [1, 0, 1, 0, 0] (bodyOf Try.prog 26)) (fuel := 100) (depth := 12) mixed tabS plsP (by kernel_rfl) trivial (by kernel_rfl) (fun kd d => r1e F34.f F25.l1 kd d) rfl
def plan (l1 : G1) : Plan := (.node .none (.node (.node .none (.node (.unit (u1 l1)) .none)) .none))
theorem planOk : PlanOk Try.prog (plan l1) (bodyOf Try.prog 26) := (planOk_of (plan l1) _ [([1, 0, 1, 0], u1 l1)] rfl ⟨ok1, trivial⟩)
end Go.Proofs.Ytkleakkhbfdipaa.F26

/- What comes of function 29 of this program, (*consulate.scroll.Writer).Fill, as the engine gives it. -/
namespace Go.Proofs.Ytkleakkhbfdipaa.F29
open Go Go.Proofs Go.Proofs.Ytkleakkhbfdipaa Go.RowKit Go.Proofs.Ytkleakkhbfdipaa.Sx
set_option linter.unusedVariables false
set_option maxRecDepth 100000
def tab (x34 : F34.FT) (x55 : F55.FT) : List (FuncId × Sx.Spec) := [(34, specF ⟨F34.i, F34.o, x34⟩), (55, specF ⟨F55.i, F55.o, x55⟩)]
def pls (x34 : F34.FT) (x55 : F55.FT) : List (FuncId × Plan) := []
@[reducible] def k1 : Sh := .pt true 83 (.sc (.int .i64) (.sc (.int .i64) .nil)) .nil
@[reducible] def i1 : Sh := .pt true 72 (.sl true 5 (.sc (.int .u8) .nil) (.sl true 83 (.sc (.int .i64) (.sc (.int .i64) .nil)) (.sc (.int .i64) (.sc .bool .nil)))) (.sc (.int .i64) (.sc (.int .i64) .nil))
@[reducible] def o1 : Sh := .nil
abbrev G1 := ((Int × Int)) → ((List (Int) × (List (Int × Int)) × Int × Bool) × Int × Int) → Option (Unit × ((List (Int) × (List (Int × Int)) × Int × Bool)))
def u1 (F : G1) : Un := ⟨84, [4], k1, [0, 5, 6], i1, [], o1, [0, 3, 4], [(.exit 0, [])], F⟩
theorem tabS : AllS Try.prog (tab F34.f F55.f) := ⟨F34.spec, F55.spec, trivial⟩
theorem plsP : AllP Try.prog (pls F34.f F55.f) := trivial
theorem mixed : Try.prog.follows .mixedOrders = true := by kernel_rfl
def r1P (x34 : F34.FT) (x55 : F55.FT) : ((Int × Int)) → ((List (Int) × (List (Int × Int)) × Int × Bool) × Int × Int) → Option (((List (Int) × (List (Int × Int)) × Int × Bool) × Int × Int) ⊕ (Unit × ((List (Int) × (List (Int × Int)) × Int × Bool)))) := fun (h0, h1) ((w0, w1, w2, w3), n, k) =>
    bif decide (k ≥ 0) then
      bif decide (0 ≤ IntKind.i64.wrap (h0 + k) ∧ IntKind.i64.wrap (h0 + k) < (↑w0.length : Int) ∧ 0 < w0.length) then
        bif decide (0 + (IntKind.i64.wrap (h0 + k)).toNat < w0.length) then
          bif
              decide (0 + w0.length ≤ (w0.set (0 + (IntKind.i64.wrap (h0 + k)).toNat) (IntKind.u8.wrap n)).length) &&
                true then
            bif decide (0 + w1.length ≤ w1.length) && true then
              some
                (Sum.inl
                  ((List.take w0.length
                        (List.drop 0 (w0.set (0 + (IntKind.i64.wrap (h0 + k)).toNat) (IntKind.u8.wrap n))),
                      List.take w1.length w1, w2, w3),
                    n.fdiv 256, IntKind.i64.wrap (k - 1)))
            else none
          else none
        else none
      else none
    else some (Sum.inr (PUnit.unit, w0, w1, w2, w3))
theorem r1e (x34 : F34.FT) (x55 : F55.FT) (kd : (Int × Int)) (d : (List (Int) × (List (Int × Int)) × Int × Bool) × Int × Int) : roundF (tabC Try.prog (tab x34 x55) (pls x34 x55) 100 12) 100 .none (u1 fun _ _ => none) (codeAt [1, 1, 1, 1, 1, 1, 0, 1, 0, 0] (bodyOf Try.prog 29)) kd d = r1P x34 x55 kd d := by kernel_rfl
noncomputable def r1 : ((Int × Int)) → ((List (Int) × (List (Int × Int)) × Int × Bool) × Int × Int) → Option (((List (Int) × (List (Int × Int)) × Int × Bool) × Int × Int) ⊕ (Unit × ((List (Int) × (List (Int × Int)) × Int × Bool)))) := r1P F34.f F55.f
noncomputable def l1 : G1 := fun kd d => iterO (r1 kd) d
theorem ok1 : UnOk Try.prog (u1 l1) (codeAt [1, 1, 1, 1, 1, 1, 0, 1, 0] (bodyOf Try.prog 29)) :=
  loopT (p := .none) (c := codeAt [1, 1, 1, 1, 1, 1, 0, 1, 0, 0] (bodyOf Try.prog 29)) (fuel := 100) (depth := 12) mixed tabS plsP (by kernel_rfl) trivial (by kernel_rfl) (fun kd d => r1e F34.f F55.f kd d) rfl
def plan (l1 : G1) : Plan := (.node .none (.node .none (.node .none (.node .none (.node .none (.node .none (.node (.node .none (.node (.unit (u1 l1)) .none)) .none)))))))
theorem planOk : PlanOk Try.prog (plan l1) (bodyOf Try.prog 29) := (planOk_of (plan l1) _ [([1, 1, 1, 1, 1, 1, 0, 1, 0], u1 l1)] rfl ⟨ok1, trivial⟩)
end Go.Proofs.Ytkleakkhbfdipaa.F29

/- What stands on its own: function 21 says true. -/
namespace Go.Proofs.Ytkleakkhbfdipaa.KA
open Go Go.Proofs Go.Proofs.Ytkleakkhbfdipaa Go.RowKit Go.Proofs.Ytkleakkhbfdipaa.Sx
theorem mixed : Try.prog.follows .mixedOrders = true := by kernel_rfl
theorem tells (W : World) (hW : GlobW W) : Calls Try.prog 21 #[] W (Law.Told W) :=
  closed_law (C := tower (base Try.prog) [] 100 20) (tower_ok (base_ok _) (noPlans _ rfl) mixed (fun _ _ h => by cases h) 20) rfl (by kernel_rfl) W hW
end Go.Proofs.Ytkleakkhbfdipaa.KA
