/- What comes of function 10 of this program, (*consulate.scroll.Reader).Err, as the engine gives it. -/
import Derived.Test.YtkleakkhbfdipaaChecked
import Derived.Test.YtkleakkhbfdipaaZN
namespace Go.Proofs.Ytkleakkhbfdipaa.F10
open Go Go.Proofs Go.Proofs.Ytkleakkhbfdipaa Go.RowKit Go.Proofs.Ytkleakkhbfdipaa.Sx
set_option linter.unusedVariables false
set_option maxRecDepth 100000
def tab : List (FuncId × Sx.Spec) := []
def pls : List (FuncId × Plan) := []
@[reducible] def i : Sh := .pt true 69 (.sl true 5 (.sc (.int .u8) .nil) (.sc (.int .i64) (.sl true 3 (.sc (.int .i64) .nil) (.sc (.int .i64) .nil)))) .nil
@[reducible] def o : Sh := .sc (.int .i64) .nil
abbrev FT := ((List (Int) × Int × List (Int) × Int)) → Option (Int × ((List (Int) × Int × List (Int) × Int)))
theorem tabS : AllS Try.prog (tab) := trivial
theorem plsP : AllP Try.prog (pls) := trivial
theorem mixed : Try.prog.follows .mixedOrders = true := by kernel_rfl
def fP : FT := fun (r0_2, r1_2, r2_2, r3_2) =>
    bif (↑r2_2.length : Int) == 0 then
      bif decide (0 + r0_2.length ≤ r0_2.length) && true then
        bif decide (0 + r2_2.length ≤ r2_2.length) && true then
          some (2, List.take r0_2.length r0_2, r1_2, List.take r2_2.length r2_2, r3_2)
        else none
      else none
    else
      bif decide (0 + r0_2.length ≤ r0_2.length) && true then
        bif decide (0 + r2_2.length ≤ r2_2.length) && true then
          some (r3_2, List.take r0_2.length r0_2, r1_2, List.take r2_2.length r2_2, r3_2)
        else none
      else none
theorem fe (d : (List (Int) × Int × List (Int) × Int)) : bodyF (tabC Try.prog (tab) ((10, .none) :: pls) 100 12) 100 10 i o d = fP d := by kernel_rfl
noncomputable def f : FT := fP
def plan : Plan := .none
theorem planOk : PlanOk Try.prog (plan) (bodyOf Try.prog 10) := (planOk_of (plan) _ [] (by kernel_rfl) trivial)
theorem meets : MeetsF Try.prog 10 ⟨i, o, f⟩ :=
  funcT (fuel := 100) (depth := 12) (pl := (10, plan) :: pls) mixed tabS ⟨planOk, plsP⟩ (fun d => fe  d)
theorem spec : SpecOk Try.prog (fun _ => none) 10 (specF ⟨i, o, f⟩) := specF_ok (by kernel_rfl) meets
end Go.Proofs.Ytkleakkhbfdipaa.F10

/- What comes of function 19 of this program, (*consulate.scroll.Reader).Left, as the engine gives it. -/
namespace Go.Proofs.Ytkleakkhbfdipaa.F19
open Go Go.Proofs Go.Proofs.Ytkleakkhbfdipaa Go.RowKit Go.Proofs.Ytkleakkhbfdipaa.Sx
set_option linter.unusedVariables false
set_option maxRecDepth 100000
def tab (x10 : F10.FT) : List (FuncId × Sx.Spec) := [(10, specF ⟨F10.i, F10.o, x10⟩)]
def pls (x10 : F10.FT) : List (FuncId × Plan) := []
@[reducible] def i : Sh := .pt true 69 (.sl true 5 (.sc (.int .u8) .nil) (.sc (.int .i64) (.sl true 3 (.sc (.int .i64) .nil) (.sc (.int .i64) .nil)))) .nil
@[reducible] def o : Sh := .sc (.int .i64) .nil
abbrev FT := ((List (Int) × Int × List (Int) × Int)) → Option (Int × ((List (Int) × Int × List (Int) × Int)))
theorem tabS : AllS Try.prog (tab F10.f) := ⟨F10.spec, trivial⟩
theorem plsP : AllP Try.prog (pls F10.f) := trivial
theorem mixed : Try.prog.follows .mixedOrders = true := by kernel_rfl
def fP (x10 : F10.FT) : FT := fun (r0_2, r1_2, r2_2, r3_2) =>
    (x10 (r0_2, r1_2, r2_2, r3_2)).bind fun r0 =>
      bif r0.fst != 0 then some (0, r0.snd)
      else
        bif
            decide
              (0 ≤ IntKind.i64.wrap ((↑r0.snd.snd.snd.fst.length : Int) - 1) ∧
                IntKind.i64.wrap ((↑r0.snd.snd.snd.fst.length : Int) - 1) < (↑r0.snd.snd.snd.fst.length : Int) ∧
                  0 < r0.snd.snd.snd.fst.length) then
          bif
              decide
                (0 + (IntKind.i64.wrap ((↑r0.snd.snd.snd.fst.length : Int) - 1)).toNat < r0.snd.snd.snd.fst.length) then
            bif decide (0 + r0.snd.fst.length ≤ r0.snd.fst.length) && true then
              bif decide (0 + r0.snd.snd.snd.fst.length ≤ r0.snd.snd.snd.fst.length) && true then
                some
                  (IntKind.i64.wrap
                      (r0.snd.snd.snd.fst.getD (0 + (IntKind.i64.wrap ((↑r0.snd.snd.snd.fst.length : Int) - 1)).toNat) 0 -
                        r0.snd.snd.fst),
                    List.take r0.snd.fst.length (List.drop 0 r0.snd.fst), r0.snd.snd.fst,
                    List.take r0.snd.snd.snd.fst.length (List.drop 0 r0.snd.snd.snd.fst), r0.snd.snd.snd.snd)
              else none
            else none
          else none
        else none
theorem fe (x10 : F10.FT) (d : (List (Int) × Int × List (Int) × Int)) : bodyF (tabC Try.prog (tab x10) ((19, .none) :: pls x10) 100 12) 100 19 i o d = fP x10 d := by kernel_rfl
noncomputable def f : FT := fP F10.f
def plan : Plan := .none
theorem planOk : PlanOk Try.prog (plan) (bodyOf Try.prog 19) := (planOk_of (plan) _ [] (by kernel_rfl) trivial)
theorem meets : MeetsF Try.prog 19 ⟨i, o, f⟩ :=
  funcT (fuel := 100) (depth := 12) (pl := (19, plan) :: pls F10.f) mixed tabS ⟨planOk, plsP⟩ (fun d => fe F10.f d)
theorem spec : SpecOk Try.prog (fun _ => none) 19 (specF ⟨i, o, f⟩) := specF_ok (by kernel_rfl) meets
end Go.Proofs.Ytkleakkhbfdipaa.F19

/- What comes of function 18 of this program, (*consulate.scroll.Reader).Fail, as the engine gives it. -/
namespace Go.Proofs.Ytkleakkhbfdipaa.F18
open Go Go.Proofs Go.Proofs.Ytkleakkhbfdipaa Go.RowKit Go.Proofs.Ytkleakkhbfdipaa.Sx
set_option linter.unusedVariables false
set_option maxRecDepth 100000
def tab (x10 : F10.FT) : List (FuncId × Sx.Spec) := [(10, specF ⟨F10.i, F10.o, x10⟩)]
def pls (x10 : F10.FT) : List (FuncId × Plan) := []
@[reducible] def i : Sh := .pt true 69 (.sl true 5 (.sc (.int .u8) .nil) (.sc (.int .i64) (.sl true 3 (.sc (.int .i64) .nil) (.sc (.int .i64) .nil)))) (.sc (.int .i64) .nil)
@[reducible] def o : Sh := .nil
abbrev FT := ((List (Int) × Int × List (Int) × Int) × Int) → Option (Unit × ((List (Int) × Int × List (Int) × Int)))
theorem tabS : AllS Try.prog (tab F10.f) := ⟨F10.spec, trivial⟩
theorem plsP : AllP Try.prog (pls F10.f) := trivial
theorem mixed : Try.prog.follows .mixedOrders = true := by kernel_rfl
def fP (x10 : F10.FT) : FT := fun ((r0_2, r1_2, r2_2, r3_2), e) =>
    (x10 (r0_2, r1_2, r2_2, r3_2)).bind fun r0 =>
      bif r0.fst == 0 then
        bif decide (0 + r0.snd.fst.length ≤ r0.snd.fst.length) && true then
          bif decide (0 + r0.snd.snd.snd.fst.length ≤ r0.snd.snd.snd.fst.length) && true then
            some
              (PUnit.unit, List.take r0.snd.fst.length (List.drop 0 r0.snd.fst), r0.snd.snd.fst,
                List.take r0.snd.snd.snd.fst.length (List.drop 0 r0.snd.snd.snd.fst), e)
          else none
        else none
      else some (PUnit.unit, r0.snd)
theorem fe (x10 : F10.FT) (d : (List (Int) × Int × List (Int) × Int) × Int) : bodyF (tabC Try.prog (tab x10) ((18, .none) :: pls x10) 100 12) 100 18 i o d = fP x10 d := by kernel_rfl
noncomputable def f : FT := fP F10.f
def plan : Plan := .none
theorem planOk : PlanOk Try.prog (plan) (bodyOf Try.prog 18) := (planOk_of (plan) _ [] (by kernel_rfl) trivial)
theorem meets : MeetsF Try.prog 18 ⟨i, o, f⟩ :=
  funcT (fuel := 100) (depth := 12) (pl := (18, plan) :: pls F10.f) mixed tabS ⟨planOk, plsP⟩ (fun d => fe F10.f d)
theorem spec : SpecOk Try.prog (fun _ => none) 18 (specF ⟨i, o, f⟩) := specF_ok (by kernel_rfl) meets
end Go.Proofs.Ytkleakkhbfdipaa.F18

/- What comes of function 53 of this program, (*consulate.scroll.Reader).has, as the engine gives it. -/
namespace Go.Proofs.Ytkleakkhbfdipaa.F53
open Go Go.Proofs Go.Proofs.Ytkleakkhbfdipaa Go.RowKit Go.Proofs.Ytkleakkhbfdipaa.Sx
set_option linter.unusedVariables false
set_option maxRecDepth 100000
def tab (x19 : F19.FT) (x18 : F18.FT) (x10 : F10.FT) : List (FuncId × Sx.Spec) := [(19, specF ⟨F19.i, F19.o, x19⟩), (18, specF ⟨F18.i, F18.o, x18⟩), (10, specF ⟨F10.i, F10.o, x10⟩)]
def pls (x19 : F19.FT) (x18 : F18.FT) (x10 : F10.FT) : List (FuncId × Plan) := []
@[reducible] def i : Sh := .pt true 69 (.sl true 5 (.sc (.int .u8) .nil) (.sc (.int .i64) (.sl true 3 (.sc (.int .i64) .nil) (.sc (.int .i64) .nil)))) (.sc (.int .i64) .nil)
@[reducible] def o : Sh := .sc .bool .nil
abbrev FT := ((List (Int) × Int × List (Int) × Int) × Int) → Option (Bool × ((List (Int) × Int × List (Int) × Int)))
theorem tabS : AllS Try.prog (tab F19.f F18.f F10.f) := ⟨F19.spec, F18.spec, F10.spec, trivial⟩
theorem plsP : AllP Try.prog (pls F19.f F18.f F10.f) := trivial
theorem mixed : Try.prog.follows .mixedOrders = true := by kernel_rfl
def fP (x19 : F19.FT) (x18 : F18.FT) (x10 : F10.FT) : FT := fun ((r0_2, r1_2, r2_2, r3_2), n) =>
    bif decide (n < 0) then
      (x18 ((r0_2, r1_2, r2_2, r3_2), 4)).bind fun r0 => (x10 r0.snd).bind fun r1 => some (r1.fst == 0, r1.snd)
    else
      (x19 (r0_2, r1_2, r2_2, r3_2)).bind fun r0 =>
        bif decide (n > r0.fst) then
          (x18 (r0.snd, 4)).bind fun r1 => (x10 r1.snd).bind fun r2 => some (r2.fst == 0, r2.snd)
        else (x10 r0.snd).bind fun r1 => some (r1.fst == 0, r1.snd)
theorem fe (x19 : F19.FT) (x18 : F18.FT) (x10 : F10.FT) (d : (List (Int) × Int × List (Int) × Int) × Int) : bodyF (tabC Try.prog (tab x19 x18 x10) ((53, .none) :: pls x19 x18 x10) 100 12) 100 53 i o d = fP x19 x18 x10 d := by kernel_rfl
noncomputable def f : FT := fP F19.f F18.f F10.f
def plan : Plan := .none
theorem planOk : PlanOk Try.prog (plan) (bodyOf Try.prog 53) := (planOk_of (plan) _ [] (by kernel_rfl) trivial)
theorem meets : MeetsF Try.prog 53 ⟨i, o, f⟩ :=
  funcT (fuel := 100) (depth := 12) (pl := (53, plan) :: pls F19.f F18.f F10.f) mixed tabS ⟨planOk, plsP⟩ (fun d => fe F19.f F18.f F10.f d)
theorem spec : SpecOk Try.prog (fun _ => none) 53 (specF ⟨i, o, f⟩) := specF_ok (by kernel_rfl) meets
end Go.Proofs.Ytkleakkhbfdipaa.F53

/- What comes of function 51 of this program, slices.Clone[[]byte,byte], as the engine gives it. -/
namespace Go.Proofs.Ytkleakkhbfdipaa.F51
open Go Go.Proofs Go.Proofs.Ytkleakkhbfdipaa Go.RowKit Go.Proofs.Ytkleakkhbfdipaa.Sx
set_option linter.unusedVariables false
set_option maxRecDepth 100000
def tab : List (FuncId × Sx.Spec) := []
def pls : List (FuncId × Plan) := []
@[reducible] def i : Sh := .sl false 5 (.sc (.int .u8) .nil) .nil
@[reducible] def o : Sh := .sl true 5 (.sc (.int .u8) .nil) .nil
abbrev FT := List (Int) → Option (List (Int) × Unit)
theorem tabS : AllS Try.prog (tab) := trivial
theorem plsP : AllP Try.prog (pls) := trivial
theorem mixed : Try.prog.follows .mixedOrders = true := by kernel_rfl
def fP : FT := fun s =>
    bif decide (0 < s.length) then
      bif decide (0 + s.length ≤ s.length) then
        bif decide (0 + (List.take s.length s).length ≤ 1073741824) then
          bif decide (0 + (0 + (List.take s.length s).length) ≤ ([] ++ List.take s.length s).length) && true then
            some (List.take (0 + (List.take s.length s).length) (List.drop 0 ([] ++ List.take s.length s)), PUnit.unit)
          else none
        else none
      else none
    else none
theorem fe (d : List (Int)) : bodyF (tabC Try.prog (tab) ((51, .none) :: pls) 100 12) 100 51 i o d = fP d := by kernel_rfl
noncomputable def f : FT := fun d => if 0 < d.length then fP d else some ([], ())
def plan : Plan := .none
theorem planOk : PlanOk Try.prog (plan) (bodyOf Try.prog 51) := (planOk_of (plan) _ [] (by kernel_rfl) trivial)
theorem meets : MeetsF Try.prog 51 ⟨i, o, f⟩ :=
  sliceT (fuel := 100) (depth := 12) (pl := (51, plan) :: pls) (z := (show Den o from [])) mixed tabS ⟨planOk, plsP⟩ (fun (d : List (Int)) hd => (fe  d).trans (show fP d = f d from (if_pos (c := 0 < d.length) hd).symm)) (fun (d : List (Int)) h => (show f d = _ from if_neg (c := 0 < d.length) (by have h : d.length = 0 := h; omega))) (fun c => by kernel_rfl) (fun a c => by kernel_rfl)
theorem spec : SpecOk Try.prog (fun _ => none) 51 (specF ⟨i, o, f⟩) := specF_ok (by kernel_rfl) meets
end Go.Proofs.Ytkleakkhbfdipaa.F51

/- What comes of function 13 of this program, (*consulate.scroll.Reader).Take, as the engine gives it. -/
namespace Go.Proofs.Ytkleakkhbfdipaa.F13
open Go Go.Proofs Go.Proofs.Ytkleakkhbfdipaa Go.RowKit Go.Proofs.Ytkleakkhbfdipaa.Sx
set_option linter.unusedVariables false
set_option maxRecDepth 100000
def tab (x53 : F53.FT) (x51 : F51.FT) : List (FuncId × Sx.Spec) := [(53, specF ⟨F53.i, F53.o, x53⟩), (51, specF ⟨F51.i, F51.o, x51⟩)]
def pls (x53 : F53.FT) (x51 : F51.FT) : List (FuncId × Plan) := []
@[reducible] def i : Sh := .pt true 69 (.sl true 5 (.sc (.int .u8) .nil) (.sc (.int .i64) (.sl true 3 (.sc (.int .i64) .nil) (.sc (.int .i64) .nil)))) (.sc (.int .i64) .nil)
@[reducible] def o : Sh := .sl true 5 (.sc (.int .u8) .nil) .nil
abbrev FT := ((List (Int) × Int × List (Int) × Int) × Int) → Option (List (Int) × ((List (Int) × Int × List (Int) × Int)))
theorem tabS : AllS Try.prog (tab F53.f F51.f) := ⟨F53.spec, F51.spec, trivial⟩
theorem plsP : AllP Try.prog (pls F53.f F51.f) := trivial
theorem mixed : Try.prog.follows .mixedOrders = true := by kernel_rfl
def fP (x53 : F53.FT) (x51 : F51.FT) : FT := fun ((r0_2, r1_2, r2_2, r3_2), n) =>
    (x53 ((r0_2, r1_2, r2_2, r3_2), n)).bind fun r0 =>
      bif !r0.fst then some ([], r0.snd)
      else
        bif
            decide
              (0 ≤ IntKind.i64.wrap (IntKind.i64.wrap (r0.snd.snd.fst + n) - n) ∧
                IntKind.i64.wrap (IntKind.i64.wrap (r0.snd.snd.fst + n) - n) ≤
                    (some (IntKind.i64.wrap (r0.snd.snd.fst + n))).getD (↑r0.snd.fst.length : Int) ∧
                  (some (IntKind.i64.wrap (r0.snd.snd.fst + n))).getD (↑r0.snd.fst.length : Int) ≤
                      (↑r0.snd.fst.length : Int) ∧
                    0 + r0.snd.fst.length ≤ r0.snd.fst.length) then
          bif decide (IntKind.i64.wrap (IntKind.i64.wrap (r0.snd.snd.fst + n) - n) = (↑r0.snd.fst.length : Int)) then
            bif decide (0 ≤ 0 + r0.snd.fst.length ∧ 0 + r0.snd.fst.length ≤ r0.snd.fst.length) then
              (x51 []).bind fun r1 =>
                bif decide (0 + List.length r1.fst ≤ List.length r1.fst) && true then
                  bif decide (0 + r0.snd.fst.length ≤ r0.snd.fst.length) && true then
                    bif decide (0 + r0.snd.snd.snd.fst.length ≤ r0.snd.snd.snd.fst.length) && true then
                      some
                        (List.take (List.length r1.fst) (List.drop 0 r1.fst),
                          List.take r0.snd.fst.length (List.drop 0 r0.snd.fst), IntKind.i64.wrap (r0.snd.snd.fst + n),
                          List.take r0.snd.snd.snd.fst.length (List.drop 0 r0.snd.snd.snd.fst), r0.snd.snd.snd.snd)
                    else none
                  else none
                else none
            else none
          else
            bif
                decide
                    (0 + (IntKind.i64.wrap (IntKind.i64.wrap (r0.snd.snd.fst + n) - n)).toNat +
                        ((some (IntKind.i64.wrap (r0.snd.snd.fst + n))).getD (↑r0.snd.fst.length : Int) -
                            IntKind.i64.wrap (IntKind.i64.wrap (r0.snd.snd.fst + n) - n)).toNat ≤
                      r0.snd.fst.length) &&
                  true then
              (x51
                    (List.take
                      ((some (IntKind.i64.wrap (r0.snd.snd.fst + n))).getD (↑r0.snd.fst.length : Int) -
                          IntKind.i64.wrap (IntKind.i64.wrap (r0.snd.snd.fst + n) - n)).toNat
                      (List.drop (0 + (IntKind.i64.wrap (IntKind.i64.wrap (r0.snd.snd.fst + n) - n)).toNat)
                        r0.snd.fst))).bind
                fun r1 =>
                bif decide (0 + List.length r1.fst ≤ List.length r1.fst) && true then
                  bif decide (0 + r0.snd.fst.length ≤ r0.snd.fst.length) && true then
                    bif decide (0 + r0.snd.snd.snd.fst.length ≤ r0.snd.snd.snd.fst.length) && true then
                      some
                        (List.take (List.length r1.fst) (List.drop 0 r1.fst),
                          List.take r0.snd.fst.length (List.drop 0 r0.snd.fst), IntKind.i64.wrap (r0.snd.snd.fst + n),
                          List.take r0.snd.snd.snd.fst.length (List.drop 0 r0.snd.snd.snd.fst), r0.snd.snd.snd.snd)
                    else none
                  else none
                else none
            else none
        else none
theorem fe (x53 : F53.FT) (x51 : F51.FT) (d : (List (Int) × Int × List (Int) × Int) × Int) : bodyF (tabC Try.prog (tab x53 x51) ((13, .none) :: pls x53 x51) 100 12) 100 13 i o d = fP x53 x51 d := by kernel_rfl
noncomputable def f : FT := fP F53.f F51.f
def plan : Plan := .none
theorem planOk : PlanOk Try.prog (plan) (bodyOf Try.prog 13) := (planOk_of (plan) _ [] (by kernel_rfl) trivial)
theorem meets : MeetsF Try.prog 13 ⟨i, o, f⟩ :=
  funcT (fuel := 100) (depth := 12) (pl := (13, plan) :: pls F53.f F51.f) mixed tabS ⟨planOk, plsP⟩ (fun d => fe F53.f F51.f d)
theorem spec : SpecOk Try.prog (fun _ => none) 13 (specF ⟨i, o, f⟩) := specF_ok (by kernel_rfl) meets
end Go.Proofs.Ytkleakkhbfdipaa.F13

/- What comes of function 14 of this program, (*consulate.scroll.Reader).Rest, as the engine gives it. -/
namespace Go.Proofs.Ytkleakkhbfdipaa.F14
open Go Go.Proofs Go.Proofs.Ytkleakkhbfdipaa Go.RowKit Go.Proofs.Ytkleakkhbfdipaa.Sx
set_option linter.unusedVariables false
set_option maxRecDepth 100000
def tab (x19 : F19.FT) (x13 : F13.FT) : List (FuncId × Sx.Spec) := [(19, specF ⟨F19.i, F19.o, x19⟩), (13, specF ⟨F13.i, F13.o, x13⟩)]
def pls (x19 : F19.FT) (x13 : F13.FT) : List (FuncId × Plan) := []
@[reducible] def i : Sh := .pt true 69 (.sl true 5 (.sc (.int .u8) .nil) (.sc (.int .i64) (.sl true 3 (.sc (.int .i64) .nil) (.sc (.int .i64) .nil)))) .nil
@[reducible] def o : Sh := .sl true 5 (.sc (.int .u8) .nil) .nil
abbrev FT := ((List (Int) × Int × List (Int) × Int)) → Option (List (Int) × ((List (Int) × Int × List (Int) × Int)))
theorem tabS : AllS Try.prog (tab F19.f F13.f) := ⟨F19.spec, F13.spec, trivial⟩
theorem plsP : AllP Try.prog (pls F19.f F13.f) := trivial
theorem mixed : Try.prog.follows .mixedOrders = true := by kernel_rfl
def fP (x19 : F19.FT) (x13 : F13.FT) : FT := fun (r0_2, r1_2, r2_2, r3_2) =>
    (x19 (r0_2, r1_2, r2_2, r3_2)).bind fun r0 =>
      (x13 (r0.snd, r0.fst)).bind fun r1 =>
        bif decide (0 + List.length r1.fst ≤ List.length r1.fst) && true then
          some (List.take (List.length r1.fst) (List.drop 0 r1.fst), r1.snd)
        else none
theorem fe (x19 : F19.FT) (x13 : F13.FT) (d : (List (Int) × Int × List (Int) × Int)) : bodyF (tabC Try.prog (tab x19 x13) ((14, .none) :: pls x19 x13) 100 12) 100 14 i o d = fP x19 x13 d := by kernel_rfl
noncomputable def f : FT := fP F19.f F13.f
def plan : Plan := .none
theorem planOk : PlanOk Try.prog (plan) (bodyOf Try.prog 14) := (planOk_of (plan) _ [] (by kernel_rfl) trivial)
theorem meets : MeetsF Try.prog 14 ⟨i, o, f⟩ :=
  funcT (fuel := 100) (depth := 12) (pl := (14, plan) :: pls F19.f F13.f) mixed tabS ⟨planOk, plsP⟩ (fun d => fe F19.f F13.f d)
theorem spec : SpecOk Try.prog (fun _ => none) 14 (specF ⟨i, o, f⟩) := specF_ok (by kernel_rfl) meets
end Go.Proofs.Ytkleakkhbfdipaa.F14

/- What comes of function 52 of this program, consulate.scroll.number[byte], as the engine gives it. -/
namespace Go.Proofs.Ytkleakkhbfdipaa.F52
open Go Go.Proofs Go.Proofs.Ytkleakkhbfdipaa Go.RowKit Go.Proofs.Ytkleakkhbfdipaa.Sx
set_option linter.unusedVariables false
set_option maxRecDepth 100000
def tab (x13 : F13.FT) : List (FuncId × Sx.Spec) := [(13, specF ⟨F13.i, F13.o, x13⟩)]
def pls (x13 : F13.FT) : List (FuncId × Plan) := []
@[reducible] def k1 : Sh := .sl true 5 (.sc (.int .u8) .nil) (.sc (.int .i64) .nil)
@[reducible] def i1 : Sh := .sc (.int .u8) (.sc (.int .i64) .nil)
@[reducible] def o1 : Sh := .sc (.int .u8) .nil
abbrev G1 := (List (Int) × Int) → (Int × Int) → Option (Int × Unit)
def u1 (F : G1) : Un := ⟨23, [10, 11], k1, [5, 12], i1, [5], o1, [10, 11], [(.exit 0, [true])], F⟩
@[reducible] def i : Sh := .pt true 69 (.sl true 5 (.sc (.int .u8) .nil) (.sc (.int .i64) (.sl true 3 (.sc (.int .i64) .nil) (.sc (.int .i64) .nil)))) (.sc (.int .i64) .nil)
@[reducible] def o : Sh := .sc (.int .u8) .nil
abbrev FT := ((List (Int) × Int × List (Int) × Int) × Int) → Option (Int × ((List (Int) × Int × List (Int) × Int)))
theorem tabS : AllS Try.prog (tab F13.f) := ⟨F13.spec, trivial⟩
theorem plsP : AllP Try.prog (pls F13.f) := trivial
theorem mixed : Try.prog.follows .mixedOrders = true := by kernel_rfl
def r1P (x13 : F13.FT) : (List (Int) × Int) → (Int × Int) → Option ((Int × Int) ⊕ (Int × Unit)) := fun (t10, t11) (n, t12) =>
    bif decide (t12 < t11) then
      bif decide (0 ≤ t12 ∧ t12 < (↑t10.length : Int) ∧ 0 < t10.length) then
        bif decide (0 + t12.toNat < t10.length) then
          some
            (Sum.inl
              (IntKind.u8.wrap
                  (↑((IntKind.u8.wrap (IntKind.u8.wrap (n * 128) * 2) % 256).toNat |||
                        (t10.getD (0 + t12.toNat) 0 % 256).toNat) :
                    Int),
                IntKind.i64.wrap (t12 + 1)))
        else none
      else none
    else some (Sum.inr (n, PUnit.unit))
theorem r1e (x13 : F13.FT) (kd : List (Int) × Int) (d : Int × Int) : roundF (tabC Try.prog (tab x13) (pls x13) 100 12) 100 .none (u1 fun _ _ => none) (codeAt [1, 1, 0, 1, 0, 0] (bodyOf Try.prog 52)) kd d = r1P x13 kd d := by kernel_rfl
noncomputable def r1 : (List (Int) × Int) → (Int × Int) → Option ((Int × Int) ⊕ (Int × Unit)) := r1P F13.f
noncomputable def l1 : G1 := fun kd d => iterO (r1 kd) d
theorem ok1 : UnOk Try.prog (u1 l1) (codeAt [1, 1, 0, 1, 0] (bodyOf Try.prog 52)) :=
  loopT (p := .none) (c := codeAt [1, 1, 0, 1, 0, 0] (bodyOf Try.prog 52)) (fuel := 100) (depth := 12) mixed tabS plsP (by kernel_rfl) trivial (by kernel_rfl) (fun kd d => r1e F13.f kd d) rfl
def fP (x13 : F13.FT) (l1 : G1) : FT := fun ((r0_2, r1_2, r2_2, r3_2), wide) =>
    (x13 ((r0_2, r1_2, r2_2, r3_2), wide)).bind fun r0 =>
      bif decide (0 + List.length r0.fst ≤ List.length r0.fst) && true then
        (l1 (List.take (List.length r0.fst) (List.drop 0 r0.fst), (↑(List.length r0.fst) : Int)) (0, 0)).bind fun r1 =>
          some (r1.fst, r0.snd)
      else none
theorem fe (x13 : F13.FT) (l1 : G1) (d : (List (Int) × Int × List (Int) × Int) × Int) : bodyF (tabC Try.prog (tab x13) ((52, (.node .none (.node .none (.node (.node .none (.node (.unit (u1 l1)) .none)) .none)))) :: pls x13) 100 12) 100 52 i o d = fP x13 l1 d := by kernel_rfl
noncomputable def f : FT := fP F13.f l1
def plan (l1 : G1) : Plan := (.node .none (.node .none (.node (.node .none (.node (.unit (u1 l1)) .none)) .none)))
theorem planOk : PlanOk Try.prog (plan l1) (bodyOf Try.prog 52) := (planOk_of (plan l1) _ [([1, 1, 0, 1, 0], u1 l1)] rfl ⟨ok1, trivial⟩)
theorem meets : MeetsF Try.prog 52 ⟨i, o, f⟩ :=
  funcT (fuel := 100) (depth := 12) (pl := (52, plan l1) :: pls F13.f) mixed tabS ⟨planOk, plsP⟩ (fun d => fe F13.f l1 d)
theorem spec : SpecOk Try.prog (fun _ => none) 52 (specF ⟨i, o, f⟩) := specF_ok (by kernel_rfl) meets
end Go.Proofs.Ytkleakkhbfdipaa.F52

/- What comes of function 12 of this program, (*consulate.scroll.Reader).Byte, as the engine gives it. -/
namespace Go.Proofs.Ytkleakkhbfdipaa.F12
open Go Go.Proofs Go.Proofs.Ytkleakkhbfdipaa Go.RowKit Go.Proofs.Ytkleakkhbfdipaa.Sx
set_option linter.unusedVariables false
set_option maxRecDepth 100000
def tab (x52 : F52.FT) : List (FuncId × Sx.Spec) := [(52, specF ⟨F52.i, F52.o, x52⟩)]
def pls (x52 : F52.FT) : List (FuncId × Plan) := []
@[reducible] def i : Sh := .pt true 69 (.sl true 5 (.sc (.int .u8) .nil) (.sc (.int .i64) (.sl true 3 (.sc (.int .i64) .nil) (.sc (.int .i64) .nil)))) .nil
@[reducible] def o : Sh := .sc (.int .u8) .nil
abbrev FT := ((List (Int) × Int × List (Int) × Int)) → Option (Int × ((List (Int) × Int × List (Int) × Int)))
theorem tabS : AllS Try.prog (tab F52.f) := ⟨F52.spec, trivial⟩
theorem plsP : AllP Try.prog (pls F52.f) := trivial
theorem mixed : Try.prog.follows .mixedOrders = true := by kernel_rfl
def fP (x52 : F52.FT) : FT := fun (r0_2, r1_2, r2_2, r3_2) =>
   (x52 ((r0_2, r1_2, r2_2, r3_2), 1)).bind fun r0 => some (r0.fst, r0.snd)
theorem fe (x52 : F52.FT) (d : (List (Int) × Int × List (Int) × Int)) : bodyF (tabC Try.prog (tab x52) ((12, .none) :: pls x52) 100 12) 100 12 i o d = fP x52 d := by kernel_rfl
noncomputable def f : FT := fP F52.f
def plan : Plan := .none
theorem planOk : PlanOk Try.prog (plan) (bodyOf Try.prog 12) := (planOk_of (plan) _ [] (by kernel_rfl) trivial)
theorem meets : MeetsF Try.prog 12 ⟨i, o, f⟩ :=
  funcT (fuel := 100) (depth := 12) (pl := (12, plan) :: pls F52.f) mixed tabS ⟨planOk, plsP⟩ (fun d => fe F52.f d)
theorem spec : SpecOk Try.prog (fun _ => none) 12 (specF ⟨i, o, f⟩) := specF_ok (by kernel_rfl) meets
end Go.Proofs.Ytkleakkhbfdipaa.F12

/- What comes of function 62 of this program, consulate.scroll.number[uint16], as the engine gives it. -/
namespace Go.Proofs.Ytkleakkhbfdipaa.F62
open Go Go.Proofs Go.Proofs.Ytkleakkhbfdipaa Go.RowKit Go.Proofs.Ytkleakkhbfdipaa.Sx
set_option linter.unusedVariables false
set_option maxRecDepth 100000
def tab (x13 : F13.FT) : List (FuncId × Sx.Spec) := [(13, specF ⟨F13.i, F13.o, x13⟩)]
def pls (x13 : F13.FT) : List (FuncId × Plan) := []
@[reducible] def k1 : Sh := .sl true 5 (.sc (.int .u8) .nil) (.sc (.int .i64) .nil)
@[reducible] def i1 : Sh := .sc (.int .u16) (.sc (.int .i64) .nil)
@[reducible] def o1 : Sh := .sc (.int .u16) .nil
abbrev G1 := (List (Int) × Int) → (Int × Int) → Option (Int × Unit)
def u1 (F : G1) : Un := ⟨24, [10, 11], k1, [5, 12], i1, [5], o1, [10, 11], [(.exit 0, [true])], F⟩
@[reducible] def i : Sh := .pt true 69 (.sl true 5 (.sc (.int .u8) .nil) (.sc (.int .i64) (.sl true 3 (.sc (.int .i64) .nil) (.sc (.int .i64) .nil)))) (.sc (.int .i64) .nil)
@[reducible] def o : Sh := .sc (.int .u16) .nil
abbrev FT := ((List (Int) × Int × List (Int) × Int) × Int) → Option (Int × ((List (Int) × Int × List (Int) × Int)))
theorem tabS : AllS Try.prog (tab F13.f) := ⟨F13.spec, trivial⟩
theorem plsP : AllP Try.prog (pls F13.f) := trivial
theorem mixed : Try.prog.follows .mixedOrders = true := by kernel_rfl
def r1P (x13 : F13.FT) : (List (Int) × Int) → (Int × Int) → Option ((Int × Int) ⊕ (Int × Unit)) := fun (t10, t11) (n, t12) =>
    bif decide (t12 < t11) then
      bif decide (0 ≤ t12 ∧ t12 < (↑t10.length : Int) ∧ 0 < t10.length) then
        bif decide (0 + t12.toNat < t10.length) then
          some
            (Sum.inl
              (IntKind.u16.wrap
                  (↑((IntKind.u16.wrap (IntKind.u16.wrap (n * 128) * 2) % 65536).toNat |||
                        (IntKind.u16.wrap (t10.getD (0 + t12.toNat) 0) % 65536).toNat) :
                    Int),
                IntKind.i64.wrap (t12 + 1)))
        else none
      else none
    else some (Sum.inr (n, PUnit.unit))
theorem r1e (x13 : F13.FT) (kd : List (Int) × Int) (d : Int × Int) : roundF (tabC Try.prog (tab x13) (pls x13) 100 12) 100 .none (u1 fun _ _ => none) (codeAt [1, 1, 0, 1, 0, 0] (bodyOf Try.prog 62)) kd d = r1P x13 kd d := by kernel_rfl
noncomputable def r1 : (List (Int) × Int) → (Int × Int) → Option ((Int × Int) ⊕ (Int × Unit)) := r1P F13.f
noncomputable def l1 : G1 := fun kd d => iterO (r1 kd) d
theorem ok1 : UnOk Try.prog (u1 l1) (codeAt [1, 1, 0, 1, 0] (bodyOf Try.prog 62)) :=
  loopT (p := .none) (c := codeAt [1, 1, 0, 1, 0, 0] (bodyOf Try.prog 62)) (fuel := 100) (depth := 12) mixed tabS plsP (by kernel_rfl) trivial (by kernel_rfl) (fun kd d => r1e F13.f kd d) rfl
def fP (x13 : F13.FT) (l1 : G1) : FT := fun ((r0_2, r1_2, r2_2, r3_2), wide) =>
    (x13 ((r0_2, r1_2, r2_2, r3_2), wide)).bind fun r0 =>
      bif decide (0 + List.length r0.fst ≤ List.length r0.fst) && true then
        (l1 (List.take (List.length r0.fst) (List.drop 0 r0.fst), (↑(List.length r0.fst) : Int)) (0, 0)).bind fun r1 =>
          some (r1.fst, r0.snd)
      else none
theorem fe (x13 : F13.FT) (l1 : G1) (d : (List (Int) × Int × List (Int) × Int) × Int) : bodyF (tabC Try.prog (tab x13) ((62, (.node .none (.node .none (.node (.node .none (.node (.unit (u1 l1)) .none)) .none)))) :: pls x13) 100 12) 100 62 i o d = fP x13 l1 d := by kernel_rfl
noncomputable def f : FT := fP F13.f l1
def plan (l1 : G1) : Plan := (.node .none (.node .none (.node (.node .none (.node (.unit (u1 l1)) .none)) .none)))
theorem planOk : PlanOk Try.prog (plan l1) (bodyOf Try.prog 62) := (planOk_of (plan l1) _ [([1, 1, 0, 1, 0], u1 l1)] rfl ⟨ok1, trivial⟩)
theorem meets : MeetsF Try.prog 62 ⟨i, o, f⟩ :=
  funcT (fuel := 100) (depth := 12) (pl := (62, plan l1) :: pls F13.f) mixed tabS ⟨planOk, plsP⟩ (fun d => fe F13.f l1 d)
theorem spec : SpecOk Try.prog (fun _ => none) 62 (specF ⟨i, o, f⟩) := specF_ok (by kernel_rfl) meets
end Go.Proofs.Ytkleakkhbfdipaa.F62

/- What comes of function 48 of this program, (*consulate.scroll.Reader).Two, as the engine gives it. -/
namespace Go.Proofs.Ytkleakkhbfdipaa.F48
open Go Go.Proofs Go.Proofs.Ytkleakkhbfdipaa Go.RowKit Go.Proofs.Ytkleakkhbfdipaa.Sx
set_option linter.unusedVariables false
set_option maxRecDepth 100000
def tab (x62 : F62.FT) : List (FuncId × Sx.Spec) := [(62, specF ⟨F62.i, F62.o, x62⟩)]
def pls (x62 : F62.FT) : List (FuncId × Plan) := []
@[reducible] def i : Sh := .pt true 69 (.sl true 5 (.sc (.int .u8) .nil) (.sc (.int .i64) (.sl true 3 (.sc (.int .i64) .nil) (.sc (.int .i64) .nil)))) .nil
@[reducible] def o : Sh := .sc (.int .u16) .nil
abbrev FT := ((List (Int) × Int × List (Int) × Int)) → Option (Int × ((List (Int) × Int × List (Int) × Int)))
theorem tabS : AllS Try.prog (tab F62.f) := ⟨F62.spec, trivial⟩
theorem plsP : AllP Try.prog (pls F62.f) := trivial
theorem mixed : Try.prog.follows .mixedOrders = true := by kernel_rfl
def fP (x62 : F62.FT) : FT := fun (r0_2, r1_2, r2_2, r3_2) =>
   (x62 ((r0_2, r1_2, r2_2, r3_2), 2)).bind fun r0 => some (r0.fst, r0.snd)
theorem fe (x62 : F62.FT) (d : (List (Int) × Int × List (Int) × Int)) : bodyF (tabC Try.prog (tab x62) ((48, .none) :: pls x62) 100 12) 100 48 i o d = fP x62 d := by kernel_rfl
noncomputable def f : FT := fP F62.f
def plan : Plan := .none
theorem planOk : PlanOk Try.prog (plan) (bodyOf Try.prog 48) := (planOk_of (plan) _ [] (by kernel_rfl) trivial)
theorem meets : MeetsF Try.prog 48 ⟨i, o, f⟩ :=
  funcT (fuel := 100) (depth := 12) (pl := (48, plan) :: pls F62.f) mixed tabS ⟨planOk, plsP⟩ (fun d => fe F62.f d)
theorem spec : SpecOk Try.prog (fun _ => none) 48 (specF ⟨i, o, f⟩) := specF_ok (by kernel_rfl) meets
end Go.Proofs.Ytkleakkhbfdipaa.F48

/- What comes of function 61 of this program, consulate.scroll.number[uint32], as the engine gives it. -/
namespace Go.Proofs.Ytkleakkhbfdipaa.F61
open Go Go.Proofs Go.Proofs.Ytkleakkhbfdipaa Go.RowKit Go.Proofs.Ytkleakkhbfdipaa.Sx
set_option linter.unusedVariables false
set_option maxRecDepth 100000
def tab (x13 : F13.FT) : List (FuncId × Sx.Spec) := [(13, specF ⟨F13.i, F13.o, x13⟩)]
def pls (x13 : F13.FT) : List (FuncId × Plan) := []
@[reducible] def k1 : Sh := .sl true 5 (.sc (.int .u8) .nil) (.sc (.int .i64) .nil)
@[reducible] def i1 : Sh := .sc (.int .u32) (.sc (.int .i64) .nil)
@[reducible] def o1 : Sh := .sc (.int .u32) .nil
abbrev G1 := (List (Int) × Int) → (Int × Int) → Option (Int × Unit)
def u1 (F : G1) : Un := ⟨24, [10, 11], k1, [5, 12], i1, [5], o1, [10, 11], [(.exit 0, [true])], F⟩
@[reducible] def i : Sh := .pt true 69 (.sl true 5 (.sc (.int .u8) .nil) (.sc (.int .i64) (.sl true 3 (.sc (.int .i64) .nil) (.sc (.int .i64) .nil)))) (.sc (.int .i64) .nil)
@[reducible] def o : Sh := .sc (.int .u32) .nil
abbrev FT := ((List (Int) × Int × List (Int) × Int) × Int) → Option (Int × ((List (Int) × Int × List (Int) × Int)))
theorem tabS : AllS Try.prog (tab F13.f) := ⟨F13.spec, trivial⟩
theorem plsP : AllP Try.prog (pls F13.f) := trivial
theorem mixed : Try.prog.follows .mixedOrders = true := by kernel_rfl
def r1P (x13 : F13.FT) : (List (Int) × Int) → (Int × Int) → Option ((Int × Int) ⊕ (Int × Unit)) := fun (t10, t11) (n, t12) =>
    bif decide (t12 < t11) then
      bif decide (0 ≤ t12 ∧ t12 < (↑t10.length : Int) ∧ 0 < t10.length) then
        bif decide (0 + t12.toNat < t10.length) then
          some
            (Sum.inl
              (IntKind.u32.wrap
                  (↑((IntKind.u32.wrap (IntKind.u32.wrap (n * 128) * 2) % 4294967296).toNat |||
                        (IntKind.u32.wrap (t10.getD (0 + t12.toNat) 0) % 4294967296).toNat) :
                    Int),
                IntKind.i64.wrap (t12 + 1)))
        else none
      else none
    else some (Sum.inr (n, PUnit.unit))
theorem r1e (x13 : F13.FT) (kd : List (Int) × Int) (d : Int × Int) : roundF (tabC Try.prog (tab x13) (pls x13) 100 12) 100 .none (u1 fun _ _ => none) (codeAt [1, 1, 0, 1, 0, 0] (bodyOf Try.prog 61)) kd d = r1P x13 kd d := by kernel_rfl
noncomputable def r1 : (List (Int) × Int) → (Int × Int) → Option ((Int × Int) ⊕ (Int × Unit)) := r1P F13.f
noncomputable def l1 : G1 := fun kd d => iterO (r1 kd) d
theorem ok1 : UnOk Try.prog (u1 l1) (codeAt [1, 1, 0, 1, 0] (bodyOf Try.prog 61)) :=
  loopT (p := .none) (c := codeAt [1, 1, 0, 1, 0, 0] (bodyOf Try.prog 61)) (fuel := 100) (depth := 12) mixed tabS plsP (by kernel_rfl) trivial (by kernel_rfl) (fun kd d => r1e F13.f kd d) rfl
def fP (x13 : F13.FT) (l1 : G1) : FT := fun ((r0_2, r1_2, r2_2, r3_2), wide) =>
    (x13 ((r0_2, r1_2, r2_2, r3_2), wide)).bind fun r0 =>
      bif decide (0 + List.length r0.fst ≤ List.length r0.fst) && true then
        (l1 (List.take (List.length r0.fst) (List.drop 0 r0.fst), (↑(List.length r0.fst) : Int)) (0, 0)).bind fun r1 =>
          some (r1.fst, r0.snd)
      else none
theorem fe (x13 : F13.FT) (l1 : G1) (d : (List (Int) × Int × List (Int) × Int) × Int) : bodyF (tabC Try.prog (tab x13) ((61, (.node .none (.node .none (.node (.node .none (.node (.unit (u1 l1)) .none)) .none)))) :: pls x13) 100 12) 100 61 i o d = fP x13 l1 d := by kernel_rfl
noncomputable def f : FT := fP F13.f l1
def plan (l1 : G1) : Plan := (.node .none (.node .none (.node (.node .none (.node (.unit (u1 l1)) .none)) .none)))
theorem planOk : PlanOk Try.prog (plan l1) (bodyOf Try.prog 61) := (planOk_of (plan l1) _ [([1, 1, 0, 1, 0], u1 l1)] rfl ⟨ok1, trivial⟩)
theorem meets : MeetsF Try.prog 61 ⟨i, o, f⟩ :=
  funcT (fuel := 100) (depth := 12) (pl := (61, plan l1) :: pls F13.f) mixed tabS ⟨planOk, plsP⟩ (fun d => fe F13.f l1 d)
theorem spec : SpecOk Try.prog (fun _ => none) 61 (specF ⟨i, o, f⟩) := specF_ok (by kernel_rfl) meets
end Go.Proofs.Ytkleakkhbfdipaa.F61

/- What comes of function 40 of this program, (*consulate.scroll.Reader).Four, as the engine gives it. -/
namespace Go.Proofs.Ytkleakkhbfdipaa.F40
open Go Go.Proofs Go.Proofs.Ytkleakkhbfdipaa Go.RowKit Go.Proofs.Ytkleakkhbfdipaa.Sx
set_option linter.unusedVariables false
set_option maxRecDepth 100000
def tab (x61 : F61.FT) : List (FuncId × Sx.Spec) := [(61, specF ⟨F61.i, F61.o, x61⟩)]
def pls (x61 : F61.FT) : List (FuncId × Plan) := []
@[reducible] def i : Sh := .pt true 69 (.sl true 5 (.sc (.int .u8) .nil) (.sc (.int .i64) (.sl true 3 (.sc (.int .i64) .nil) (.sc (.int .i64) .nil)))) .nil
@[reducible] def o : Sh := .sc (.int .u32) .nil
abbrev FT := ((List (Int) × Int × List (Int) × Int)) → Option (Int × ((List (Int) × Int × List (Int) × Int)))
theorem tabS : AllS Try.prog (tab F61.f) := ⟨F61.spec, trivial⟩
theorem plsP : AllP Try.prog (pls F61.f) := trivial
theorem mixed : Try.prog.follows .mixedOrders = true := by kernel_rfl
def fP (x61 : F61.FT) : FT := fun (r0_2, r1_2, r2_2, r3_2) =>
   (x61 ((r0_2, r1_2, r2_2, r3_2), 4)).bind fun r0 => some (r0.fst, r0.snd)
theorem fe (x61 : F61.FT) (d : (List (Int) × Int × List (Int) × Int)) : bodyF (tabC Try.prog (tab x61) ((40, .none) :: pls x61) 100 12) 100 40 i o d = fP x61 d := by kernel_rfl
noncomputable def f : FT := fP F61.f
def plan : Plan := .none
theorem planOk : PlanOk Try.prog (plan) (bodyOf Try.prog 40) := (planOk_of (plan) _ [] (by kernel_rfl) trivial)
theorem meets : MeetsF Try.prog 40 ⟨i, o, f⟩ :=
  funcT (fuel := 100) (depth := 12) (pl := (40, plan) :: pls F61.f) mixed tabS ⟨planOk, plsP⟩ (fun d => fe F61.f d)
theorem spec : SpecOk Try.prog (fun _ => none) 40 (specF ⟨i, o, f⟩) := specF_ok (by kernel_rfl) meets
end Go.Proofs.Ytkleakkhbfdipaa.F40

/- What comes of function 15 of this program, (*consulate.scroll.Reader).Open, as the engine gives it. -/
namespace Go.Proofs.Ytkleakkhbfdipaa.F15
open Go Go.Proofs Go.Proofs.Ytkleakkhbfdipaa Go.RowKit Go.Proofs.Ytkleakkhbfdipaa.Sx
set_option linter.unusedVariables false
set_option maxRecDepth 100000
def tab (x53 : F53.FT) : List (FuncId × Sx.Spec) := [(53, specF ⟨F53.i, F53.o, x53⟩)]
def pls (x53 : F53.FT) : List (FuncId × Plan) := []
@[reducible] def i : Sh := .pt true 69 (.sl true 5 (.sc (.int .u8) .nil) (.sc (.int .i64) (.sl true 3 (.sc (.int .i64) .nil) (.sc (.int .i64) .nil)))) (.sc (.int .i64) .nil)
@[reducible] def o : Sh := .nil
abbrev FT := ((List (Int) × Int × List (Int) × Int) × Int) → Option (Unit × ((List (Int) × Int × List (Int) × Int)))
theorem tabS : AllS Try.prog (tab F53.f) := ⟨F53.spec, trivial⟩
theorem plsP : AllP Try.prog (pls F53.f) := trivial
theorem mixed : Try.prog.follows .mixedOrders = true := by kernel_rfl
def fP (x53 : F53.FT) : FT := fun ((r0_2, r1_2, r2_2, r3_2), n) =>
    (x53 ((r0_2, r1_2, r2_2, r3_2), n)).bind fun r0 =>
      bif r0.fst then
        bif decide (r0.snd.snd.snd.fst.length + 1 / OfNat.ofNat 1 ≤ 1073741824) then
          bif decide (0 + r0.snd.snd.snd.fst.length ≤ r0.snd.snd.snd.fst.length) then
            bif decide (0 + r0.snd.fst.length ≤ r0.snd.fst.length) && true then
              bif
                  decide
                      (0 + (r0.snd.snd.snd.fst.length + 1 / OfNat.ofNat 1) ≤
                        (List.take r0.snd.snd.snd.fst.length (List.drop 0 r0.snd.snd.snd.fst) ++
                            [IntKind.i64.wrap (r0.snd.snd.fst + n)]).length) &&
                    true then
                some
                  (PUnit.unit, List.take r0.snd.fst.length (List.drop 0 r0.snd.fst), r0.snd.snd.fst,
                    List.take (r0.snd.snd.snd.fst.length + 1 / OfNat.ofNat 1)
                      (List.drop 0
                        (List.take r0.snd.snd.snd.fst.length (List.drop 0 r0.snd.snd.snd.fst) ++
                          [IntKind.i64.wrap (r0.snd.snd.fst + n)])),
                    r0.snd.snd.snd.snd)
              else none
            else none
          else none
        else none
      else some (PUnit.unit, r0.snd)
theorem fe (x53 : F53.FT) (d : (List (Int) × Int × List (Int) × Int) × Int) : bodyF (tabC Try.prog (tab x53) ((15, .none) :: pls x53) 100 12) 100 15 i o d = fP x53 d := by kernel_rfl
noncomputable def f : FT := fP F53.f
def plan : Plan := .none
theorem planOk : PlanOk Try.prog (plan) (bodyOf Try.prog 15) := (planOk_of (plan) _ [] (by kernel_rfl) trivial)
theorem meets : MeetsF Try.prog 15 ⟨i, o, f⟩ :=
  funcT (fuel := 100) (depth := 12) (pl := (15, plan) :: pls F53.f) mixed tabS ⟨planOk, plsP⟩ (fun d => fe F53.f d)
theorem spec : SpecOk Try.prog (fun _ => none) 15 (specF ⟨i, o, f⟩) := specF_ok (by kernel_rfl) meets
end Go.Proofs.Ytkleakkhbfdipaa.F15

/- What comes of function 11 of this program, (*consulate.scroll.Reader).Deep, as the engine gives it. -/
namespace Go.Proofs.Ytkleakkhbfdipaa.F11
open Go Go.Proofs Go.Proofs.Ytkleakkhbfdipaa Go.RowKit Go.Proofs.Ytkleakkhbfdipaa.Sx
set_option linter.unusedVariables false
set_option maxRecDepth 100000
def tab : List (FuncId × Sx.Spec) := []
def pls : List (FuncId × Plan) := []
@[reducible] def i : Sh := .pt true 69 (.sl true 5 (.sc (.int .u8) .nil) (.sc (.int .i64) (.sl true 3 (.sc (.int .i64) .nil) (.sc (.int .i64) .nil)))) .nil
@[reducible] def o : Sh := .sc (.int .i64) .nil
abbrev FT := ((List (Int) × Int × List (Int) × Int)) → Option (Int × ((List (Int) × Int × List (Int) × Int)))
theorem tabS : AllS Try.prog (tab) := trivial
theorem plsP : AllP Try.prog (pls) := trivial
theorem mixed : Try.prog.follows .mixedOrders = true := by kernel_rfl
def fP : FT := fun (r0_2, r1_2, r2_2, r3_2) =>
    bif decide (0 + r0_2.length ≤ r0_2.length) && true then
      bif decide (0 + r2_2.length ≤ r2_2.length) && true then
        some
          (if 0 > IntKind.i64.wrap ((↑r2_2.length : Int) - 1) then 0 else IntKind.i64.wrap ((↑r2_2.length : Int) - 1),
            List.take r0_2.length r0_2, r1_2, List.take r2_2.length r2_2, r3_2)
      else none
    else none
theorem fe (d : (List (Int) × Int × List (Int) × Int)) : bodyF (tabC Try.prog (tab) ((11, .none) :: pls) 100 12) 100 11 i o d = fP d := by kernel_rfl
noncomputable def f : FT := fP
def plan : Plan := .none
theorem planOk : PlanOk Try.prog (plan) (bodyOf Try.prog 11) := (planOk_of (plan) _ [] (by kernel_rfl) trivial)
theorem meets : MeetsF Try.prog 11 ⟨i, o, f⟩ :=
  funcT (fuel := 100) (depth := 12) (pl := (11, plan) :: pls) mixed tabS ⟨planOk, plsP⟩ (fun d => fe  d)
theorem spec : SpecOk Try.prog (fun _ => none) 11 (specF ⟨i, o, f⟩) := specF_ok (by kernel_rfl) meets
end Go.Proofs.Ytkleakkhbfdipaa.F11

/- What comes of function 54 of this program, (*consulate.scroll.Reader).within, as the engine gives it. -/
namespace Go.Proofs.Ytkleakkhbfdipaa.F54
open Go Go.Proofs Go.Proofs.Ytkleakkhbfdipaa Go.RowKit Go.Proofs.Ytkleakkhbfdipaa.Sx
set_option linter.unusedVariables false
set_option maxRecDepth 100000
def tab (x11 : F11.FT) (x18 : F18.FT) (x10 : F10.FT) : List (FuncId × Sx.Spec) := [(11, specF ⟨F11.i, F11.o, x11⟩), (18, specF ⟨F18.i, F18.o, x18⟩), (10, specF ⟨F10.i, F10.o, x10⟩)]
def pls (x11 : F11.FT) (x18 : F18.FT) (x10 : F10.FT) : List (FuncId × Plan) := []
@[reducible] def i : Sh := .pt true 69 (.sl true 5 (.sc (.int .u8) .nil) (.sc (.int .i64) (.sl true 3 (.sc (.int .i64) .nil) (.sc (.int .i64) .nil)))) .nil
@[reducible] def o : Sh := .sc .bool .nil
abbrev FT := ((List (Int) × Int × List (Int) × Int)) → Option (Bool × ((List (Int) × Int × List (Int) × Int)))
theorem tabS : AllS Try.prog (tab F11.f F18.f F10.f) := ⟨F11.spec, F18.spec, F10.spec, trivial⟩
theorem plsP : AllP Try.prog (pls F11.f F18.f F10.f) := trivial
theorem mixed : Try.prog.follows .mixedOrders = true := by kernel_rfl
def fP (x11 : F11.FT) (x18 : F18.FT) (x10 : F10.FT) : FT := fun (r0_2, r1_2, r2_2, r3_2) =>
    (x11 (r0_2, r1_2, r2_2, r3_2)).bind fun r0 =>
      bif r0.fst == 0 then (x18 (r0.snd, 26)).bind fun r1 => (x10 r1.snd).bind fun r2 => some (r2.fst == 0, r2.snd)
      else (x10 r0.snd).bind fun r1 => some (r1.fst == 0, r1.snd)
theorem fe (x11 : F11.FT) (x18 : F18.FT) (x10 : F10.FT) (d : (List (Int) × Int × List (Int) × Int)) : bodyF (tabC Try.prog (tab x11 x18 x10) ((54, .none) :: pls x11 x18 x10) 100 12) 100 54 i o d = fP x11 x18 x10 d := by kernel_rfl
noncomputable def f : FT := fP F11.f F18.f F10.f
def plan : Plan := .none
theorem planOk : PlanOk Try.prog (plan) (bodyOf Try.prog 54) := (planOk_of (plan) _ [] (by kernel_rfl) trivial)
theorem meets : MeetsF Try.prog 54 ⟨i, o, f⟩ :=
  funcT (fuel := 100) (depth := 12) (pl := (54, plan) :: pls F11.f F18.f F10.f) mixed tabS ⟨planOk, plsP⟩ (fun d => fe F11.f F18.f F10.f d)
theorem spec : SpecOk Try.prog (fun _ => none) 54 (specF ⟨i, o, f⟩) := specF_ok (by kernel_rfl) meets
end Go.Proofs.Ytkleakkhbfdipaa.F54

/- What comes of function 16 of this program, (*consulate.scroll.Reader).Close, as the engine gives it. -/
namespace Go.Proofs.Ytkleakkhbfdipaa.F16
open Go Go.Proofs Go.Proofs.Ytkleakkhbfdipaa Go.RowKit Go.Proofs.Ytkleakkhbfdipaa.Sx
set_option linter.unusedVariables false
set_option maxRecDepth 100000
def tab (x54 : F54.FT) (x19 : F19.FT) (x18 : F18.FT) (x10 : F10.FT) : List (FuncId × Sx.Spec) := [(54, specF ⟨F54.i, F54.o, x54⟩), (19, specF ⟨F19.i, F19.o, x19⟩), (18, specF ⟨F18.i, F18.o, x18⟩), (10, specF ⟨F10.i, F10.o, x10⟩)]
def pls (x54 : F54.FT) (x19 : F19.FT) (x18 : F18.FT) (x10 : F10.FT) : List (FuncId × Plan) := []
@[reducible] def i : Sh := .pt true 69 (.sl true 5 (.sc (.int .u8) .nil) (.sc (.int .i64) (.sl true 3 (.sc (.int .i64) .nil) (.sc (.int .i64) .nil)))) .nil
@[reducible] def o : Sh := .nil
abbrev FT := ((List (Int) × Int × List (Int) × Int)) → Option (Unit × ((List (Int) × Int × List (Int) × Int)))
theorem tabS : AllS Try.prog (tab F54.f F19.f F18.f F10.f) := ⟨F54.spec, F19.spec, F18.spec, F10.spec, trivial⟩
theorem plsP : AllP Try.prog (pls F54.f F19.f F18.f F10.f) := trivial
theorem mixed : Try.prog.follows .mixedOrders = true := by kernel_rfl
def fP (x54 : F54.FT) (x19 : F19.FT) (x18 : F18.FT) (x10 : F10.FT) : FT := fun (r0_2, r1_2, r2_2, r3_2) =>
    (x54 (r0_2, r1_2, r2_2, r3_2)).bind fun r0 =>
      bif r0.fst then
        (x19 r0.snd).bind fun r1 =>
          bif decide (r1.fst > 0) then
            (x18 (r1.snd, 5)).bind fun r2 =>
              (x10 r2.snd).bind fun r3 =>
                bif r3.fst == 0 then
                  bif
                      decide
                        (0 ≤
                            (some (IntKind.i64.wrap ((↑r3.snd.snd.snd.fst.length : Int) - 1))).getD
                              (↑r3.snd.snd.snd.fst.length : Int) ∧
                          (some (IntKind.i64.wrap ((↑r3.snd.snd.snd.fst.length : Int) - 1))).getD
                                (↑r3.snd.snd.snd.fst.length : Int) ≤
                              (↑r3.snd.snd.snd.fst.length : Int) ∧
                            0 + r3.snd.snd.snd.fst.length ≤ r3.snd.snd.snd.fst.length) then
                    bif decide (0 + r3.snd.fst.length ≤ r3.snd.fst.length) && true then
                      bif
                          decide
                              (0 +
                                  ((some (IntKind.i64.wrap ((↑r3.snd.snd.snd.fst.length : Int) - 1))).getD
                                      (↑r3.snd.snd.snd.fst.length : Int)).toNat ≤
                                r3.snd.snd.snd.fst.length) &&
                            true then
                        some
                          (PUnit.unit, List.take r3.snd.fst.length (List.drop 0 r3.snd.fst), r3.snd.snd.fst,
                            List.take
                              ((some (IntKind.i64.wrap ((↑r3.snd.snd.snd.fst.length : Int) - 1))).getD
                                  (↑r3.snd.snd.snd.fst.length : Int)).toNat
                              (List.drop 0 r3.snd.snd.snd.fst),
                            r3.snd.snd.snd.snd)
                      else none
                    else none
                  else none
                else some (PUnit.unit, r3.snd)
          else
            (x10 r1.snd).bind fun r2 =>
              bif r2.fst == 0 then
                bif
                    decide
                      (0 ≤
                          (some (IntKind.i64.wrap ((↑r2.snd.snd.snd.fst.length : Int) - 1))).getD
                            (↑r2.snd.snd.snd.fst.length : Int) ∧
                        (some (IntKind.i64.wrap ((↑r2.snd.snd.snd.fst.length : Int) - 1))).getD
                              (↑r2.snd.snd.snd.fst.length : Int) ≤
                            (↑r2.snd.snd.snd.fst.length : Int) ∧
                          0 + r2.snd.snd.snd.fst.length ≤ r2.snd.snd.snd.fst.length) then
                  bif decide (0 + r2.snd.fst.length ≤ r2.snd.fst.length) && true then
                    bif
                        decide
                            (0 +
                                ((some (IntKind.i64.wrap ((↑r2.snd.snd.snd.fst.length : Int) - 1))).getD
                                    (↑r2.snd.snd.snd.fst.length : Int)).toNat ≤
                              r2.snd.snd.snd.fst.length) &&
                          true then
                      some
                        (PUnit.unit, List.take r2.snd.fst.length (List.drop 0 r2.snd.fst), r2.snd.snd.fst,
                          List.take
                            ((some (IntKind.i64.wrap ((↑r2.snd.snd.snd.fst.length : Int) - 1))).getD
                                (↑r2.snd.snd.snd.fst.length : Int)).toNat
                            (List.drop 0 r2.snd.snd.snd.fst),
                          r2.snd.snd.snd.snd)
                    else none
                  else none
                else none
              else some (PUnit.unit, r2.snd)
      else
        (x10 r0.snd).bind fun r1 =>
          bif r1.fst == 0 then
            bif
                decide
                  (0 ≤
                      (some (IntKind.i64.wrap ((↑r1.snd.snd.snd.fst.length : Int) - 1))).getD
                        (↑r1.snd.snd.snd.fst.length : Int) ∧
                    (some (IntKind.i64.wrap ((↑r1.snd.snd.snd.fst.length : Int) - 1))).getD
                          (↑r1.snd.snd.snd.fst.length : Int) ≤
                        (↑r1.snd.snd.snd.fst.length : Int) ∧
                      0 + r1.snd.snd.snd.fst.length ≤ r1.snd.snd.snd.fst.length) then
              bif decide (0 + r1.snd.fst.length ≤ r1.snd.fst.length) && true then
                bif
                    decide
                        (0 +
                            ((some (IntKind.i64.wrap ((↑r1.snd.snd.snd.fst.length : Int) - 1))).getD
                                (↑r1.snd.snd.snd.fst.length : Int)).toNat ≤
                          r1.snd.snd.snd.fst.length) &&
                      true then
                  some
                    (PUnit.unit, List.take r1.snd.fst.length (List.drop 0 r1.snd.fst), r1.snd.snd.fst,
                      List.take
                        ((some (IntKind.i64.wrap ((↑r1.snd.snd.snd.fst.length : Int) - 1))).getD
                            (↑r1.snd.snd.snd.fst.length : Int)).toNat
                        (List.drop 0 r1.snd.snd.snd.fst),
                      r1.snd.snd.snd.snd)
                else none
              else none
            else none
          else some (PUnit.unit, r1.snd)
theorem fe (x54 : F54.FT) (x19 : F19.FT) (x18 : F18.FT) (x10 : F10.FT) (d : (List (Int) × Int × List (Int) × Int)) : bodyF (tabC Try.prog (tab x54 x19 x18 x10) ((16, .none) :: pls x54 x19 x18 x10) 100 12) 100 16 i o d = fP x54 x19 x18 x10 d := by kernel_rfl
noncomputable def f : FT := fP F54.f F19.f F18.f F10.f
def plan : Plan := .none
theorem planOk : PlanOk Try.prog (plan) (bodyOf Try.prog 16) := (planOk_of (plan) _ [] (by kernel_rfl) trivial)
theorem meets : MeetsF Try.prog 16 ⟨i, o, f⟩ :=
  funcT (fuel := 100) (depth := 12) (pl := (16, plan) :: pls F54.f F19.f F18.f F10.f) mixed tabS ⟨planOk, plsP⟩ (fun d => fe F54.f F19.f F18.f F10.f d)
theorem spec : SpecOk Try.prog (fun _ => none) 16 (specF ⟨i, o, f⟩) := specF_ok (by kernel_rfl) meets
end Go.Proofs.Ytkleakkhbfdipaa.F16

/- What comes of function 17 of this program, (*consulate.scroll.Reader).Skip, as the engine gives it. -/
namespace Go.Proofs.Ytkleakkhbfdipaa.F17
open Go Go.Proofs Go.Proofs.Ytkleakkhbfdipaa Go.RowKit Go.Proofs.Ytkleakkhbfdipaa.Sx
set_option linter.unusedVariables false
set_option maxRecDepth 100000
def tab (x54 : F54.FT) : List (FuncId × Sx.Spec) := [(54, specF ⟨F54.i, F54.o, x54⟩)]
def pls (x54 : F54.FT) : List (FuncId × Plan) := []
@[reducible] def i : Sh := .pt true 69 (.sl true 5 (.sc (.int .u8) .nil) (.sc (.int .i64) (.sl true 3 (.sc (.int .i64) .nil) (.sc (.int .i64) .nil)))) .nil
@[reducible] def o : Sh := .nil
abbrev FT := ((List (Int) × Int × List (Int) × Int)) → Option (Unit × ((List (Int) × Int × List (Int) × Int)))
theorem tabS : AllS Try.prog (tab F54.f) := ⟨F54.spec, trivial⟩
theorem plsP : AllP Try.prog (pls F54.f) := trivial
theorem mixed : Try.prog.follows .mixedOrders = true := by kernel_rfl
def fP (x54 : F54.FT) : FT := fun (r0_2, r1_2, r2_2, r3_2) =>
    (x54 (r0_2, r1_2, r2_2, r3_2)).bind fun r0 =>
      bif r0.fst then
        bif
            decide
              (0 ≤ IntKind.i64.wrap ((↑r0.snd.snd.snd.fst.length : Int) - 1) ∧
                IntKind.i64.wrap ((↑r0.snd.snd.snd.fst.length : Int) - 1) < (↑r0.snd.snd.snd.fst.length : Int) ∧
                  0 < r0.snd.snd.snd.fst.length) then
          bif
              decide
                (0 + (IntKind.i64.wrap ((↑r0.snd.snd.snd.fst.length : Int) - 1)).toNat < r0.snd.snd.snd.fst.length) then
            bif
                decide
                  (0 ≤
                      (some (IntKind.i64.wrap ((↑r0.snd.snd.snd.fst.length : Int) - 1))).getD
                        (↑r0.snd.snd.snd.fst.length : Int) ∧
                    (some (IntKind.i64.wrap ((↑r0.snd.snd.snd.fst.length : Int) - 1))).getD
                          (↑r0.snd.snd.snd.fst.length : Int) ≤
                        (↑r0.snd.snd.snd.fst.length : Int) ∧
                      0 + r0.snd.snd.snd.fst.length ≤ r0.snd.snd.snd.fst.length) then
              bif decide (0 + r0.snd.fst.length ≤ r0.snd.fst.length) && true then
                bif
                    decide
                        (0 +
                            ((some (IntKind.i64.wrap ((↑r0.snd.snd.snd.fst.length : Int) - 1))).getD
                                (↑r0.snd.snd.snd.fst.length : Int)).toNat ≤
                          r0.snd.snd.snd.fst.length) &&
                      true then
                  some
                    (PUnit.unit, List.take r0.snd.fst.length (List.drop 0 r0.snd.fst),
                      r0.snd.snd.snd.fst.getD (0 + (IntKind.i64.wrap ((↑r0.snd.snd.snd.fst.length : Int) - 1)).toNat) 0,
                      List.take
                        ((some (IntKind.i64.wrap ((↑r0.snd.snd.snd.fst.length : Int) - 1))).getD
                            (↑r0.snd.snd.snd.fst.length : Int)).toNat
                        (List.drop 0 r0.snd.snd.snd.fst),
                      r0.snd.snd.snd.snd)
                else none
              else none
            else none
          else none
        else none
      else some (PUnit.unit, r0.snd)
theorem fe (x54 : F54.FT) (d : (List (Int) × Int × List (Int) × Int)) : bodyF (tabC Try.prog (tab x54) ((17, .none) :: pls x54) 100 12) 100 17 i o d = fP x54 d := by kernel_rfl
noncomputable def f : FT := fP F54.f
def plan : Plan := .none
theorem planOk : PlanOk Try.prog (plan) (bodyOf Try.prog 17) := (planOk_of (plan) _ [] (by kernel_rfl) trivial)
theorem meets : MeetsF Try.prog 17 ⟨i, o, f⟩ :=
  funcT (fuel := 100) (depth := 12) (pl := (17, plan) :: pls F54.f) mixed tabS ⟨planOk, plsP⟩ (fun d => fe F54.f d)
theorem spec : SpecOk Try.prog (fun _ => none) 17 (specF ⟨i, o, f⟩) := specF_ok (by kernel_rfl) meets
end Go.Proofs.Ytkleakkhbfdipaa.F17

/- What comes of function 9 of this program, (*consulate.scroll.Reader).At, as the engine gives it. -/
namespace Go.Proofs.Ytkleakkhbfdipaa.F9
open Go Go.Proofs Go.Proofs.Ytkleakkhbfdipaa Go.RowKit Go.Proofs.Ytkleakkhbfdipaa.Sx
set_option linter.unusedVariables false
set_option maxRecDepth 100000
def tab : List (FuncId × Sx.Spec) := []
def pls : List (FuncId × Plan) := []
@[reducible] def i : Sh := .pt true 69 (.sl true 5 (.sc (.int .u8) .nil) (.sc (.int .i64) (.sl true 3 (.sc (.int .i64) .nil) (.sc (.int .i64) .nil)))) .nil
@[reducible] def o : Sh := .sc (.int .i64) .nil
abbrev FT := ((List (Int) × Int × List (Int) × Int)) → Option (Int × ((List (Int) × Int × List (Int) × Int)))
theorem tabS : AllS Try.prog (tab) := trivial
theorem plsP : AllP Try.prog (pls) := trivial
theorem mixed : Try.prog.follows .mixedOrders = true := by kernel_rfl
def fP : FT := fun (r0_2, r1_2, r2_2, r3_2) =>
   some (r1_2, r0_2, r1_2, r2_2, r3_2)
theorem fe (d : (List (Int) × Int × List (Int) × Int)) : bodyF (tabC Try.prog (tab) ((9, .none) :: pls) 100 12) 100 9 i o d = fP d := by kernel_rfl
noncomputable def f : FT := fP
def plan : Plan := .none
theorem planOk : PlanOk Try.prog (plan) (bodyOf Try.prog 9) := (planOk_of (plan) _ [] (by kernel_rfl) trivial)
theorem meets : MeetsF Try.prog 9 ⟨i, o, f⟩ :=
  funcT (fuel := 100) (depth := 12) (pl := (9, plan) :: pls) mixed tabS ⟨planOk, plsP⟩ (fun d => fe  d)
theorem spec : SpecOk Try.prog (fun _ => none) 9 (specF ⟨i, o, f⟩) := specF_ok (by kernel_rfl) meets
end Go.Proofs.Ytkleakkhbfdipaa.F9

/- What comes of function 8 of this program, consulate.scroll.New, as the engine gives it. -/
namespace Go.Proofs.Ytkleakkhbfdipaa.F8
open Go Go.Proofs Go.Proofs.Ytkleakkhbfdipaa Go.RowKit Go.Proofs.Ytkleakkhbfdipaa.Sx
set_option linter.unusedVariables false
set_option maxRecDepth 100000
def tab (x51 : F51.FT) : List (FuncId × Sx.Spec) := [(51, specF ⟨F51.i, F51.o, x51⟩)]
def pls (x51 : F51.FT) : List (FuncId × Plan) := []
@[reducible] def i : Sh := .sl false 5 (.sc (.int .u8) .nil) .nil
@[reducible] def o : Sh := .pt true 69 (.sl true 5 (.sc (.int .u8) .nil) (.sc (.int .i64) (.sl true 3 (.sc (.int .i64) .nil) (.sc (.int .i64) .nil)))) .nil
abbrev FT := List (Int) → Option (((List (Int) × Int × List (Int) × Int)) × Unit)
theorem tabS : AllS Try.prog (tab F51.f) := ⟨F51.spec, trivial⟩
theorem plsP : AllP Try.prog (pls F51.f) := trivial
theorem mixed : Try.prog.follows .mixedOrders = true := by kernel_rfl
def fP (x51 : F51.FT) : FT := fun b =>
    bif decide (0 + b.length ≤ b.length) && true then
      (x51 (List.take b.length b)).bind fun r0 =>
        bif decide (0 + List.length r0.fst ≤ List.length r0.fst) && true then
          some ((List.take (List.length r0.fst) (List.drop 0 r0.fst), 0, [(↑b.length : Int)], 0), PUnit.unit)
        else none
    else none
theorem fe (x51 : F51.FT) (d : List (Int)) : bodyF (tabC Try.prog (tab x51) ((8, .none) :: pls x51) 100 12) 100 8 i o d = fP x51 d := by kernel_rfl
noncomputable def f : FT := fP F51.f
def plan : Plan := .none
theorem planOk : PlanOk Try.prog (plan) (bodyOf Try.prog 8) := (planOk_of (plan) _ [] (by kernel_rfl) trivial)
theorem meets : MeetsF Try.prog 8 ⟨i, o, f⟩ :=
  funcT (fuel := 100) (depth := 12) (pl := (8, plan) :: pls F51.f) mixed tabS ⟨planOk, plsP⟩ (fun d => fe F51.f d)
theorem spec : SpecOk Try.prog (fun _ => none) 8 (specF ⟨i, o, f⟩) := specF_ok (by kernel_rfl) meets
end Go.Proofs.Ytkleakkhbfdipaa.F8

/- What comes of function 35 of this program, bytes.Clone, as the engine gives it. -/
namespace Go.Proofs.Ytkleakkhbfdipaa.F35
open Go Go.Proofs Go.Proofs.Ytkleakkhbfdipaa Go.RowKit Go.Proofs.Ytkleakkhbfdipaa.Sx
set_option linter.unusedVariables false
set_option maxRecDepth 100000
def tab : List (FuncId × Sx.Spec) := []
def pls : List (FuncId × Plan) := []
@[reducible] def i : Sh := .sl false 5 (.sc (.int .u8) .nil) .nil
@[reducible] def o : Sh := .sl true 5 (.sc (.int .u8) .nil) .nil
abbrev FT := List (Int) → Option (List (Int) × Unit)
theorem tabS : AllS Try.prog (tab) := trivial
theorem plsP : AllP Try.prog (pls) := trivial
theorem mixed : Try.prog.follows .mixedOrders = true := by kernel_rfl
def fP : FT := fun b =>
    bif decide (0 < b.length) then
      bif decide (0 + b.length ≤ b.length) then
        bif decide (0 + (List.take b.length b).length ≤ 1073741824) then
          bif decide (0 + (0 + (List.take b.length b).length) ≤ ([] ++ List.take b.length b).length) && true then
            some (List.take (0 + (List.take b.length b).length) (List.drop 0 ([] ++ List.take b.length b)), PUnit.unit)
          else none
        else none
      else none
    else none
theorem fe (d : List (Int)) : bodyF (tabC Try.prog (tab) ((35, .none) :: pls) 100 12) 100 35 i o d = fP d := by kernel_rfl
noncomputable def f : FT := fun d => if 0 < d.length then fP d else some ([], ())
def plan : Plan := .none
theorem planOk : PlanOk Try.prog (plan) (bodyOf Try.prog 35) := (planOk_of (plan) _ [] (by kernel_rfl) trivial)
theorem meets : MeetsF Try.prog 35 ⟨i, o, f⟩ :=
  sliceT (fuel := 100) (depth := 12) (pl := (35, plan) :: pls) (z := (show Den o from [])) mixed tabS ⟨planOk, plsP⟩ (fun (d : List (Int)) hd => (fe  d).trans (show fP d = f d from (if_pos (c := 0 < d.length) hd).symm)) (fun (d : List (Int)) h => (show f d = _ from if_neg (c := 0 < d.length) (by have h : d.length = 0 := h; omega))) (fun c => by kernel_rfl) (fun a c => by kernel_rfl)
theorem spec : SpecOk Try.prog (fun _ => none) 35 (specF ⟨i, o, f⟩) := specF_ok (by kernel_rfl) meets
end Go.Proofs.Ytkleakkhbfdipaa.F35

/- What comes of function 37 of this program, (*consulate.consulateref01.Reader).Left, as the engine gives it. -/
namespace Go.Proofs.Ytkleakkhbfdipaa.F37
open Go Go.Proofs Go.Proofs.Ytkleakkhbfdipaa Go.RowKit Go.Proofs.Ytkleakkhbfdipaa.Sx
set_option linter.unusedVariables false
set_option maxRecDepth 100000
def tab : List (FuncId × Sx.Spec) := []
def pls : List (FuncId × Plan) := []
@[reducible] def i : Sh := .pt true 62 (.sl false 5 (.sc (.int .u8) .nil) (.sc (.int .i64) (.sl true 3 (.sc (.int .i64) .nil) (.sc (.int .i64) .nil)))) .nil
@[reducible] def o : Sh := .sc (.int .i64) .nil
abbrev FT := ((List (Int) × Int × List (Int) × Int)) → Option (Int × ((List (Int) × Int × List (Int) × Int)))
theorem tabS : AllS Try.prog (tab) := trivial
theorem plsP : AllP Try.prog (pls) := trivial
theorem mixed : Try.prog.follows .mixedOrders = true := by kernel_rfl
def fP : FT := fun (r0_2, r1_2, r2_2, r3_2) =>
    bif r3_2 != 0 then some (0, r0_2, r1_2, r2_2, r3_2)
    else
      bif decide ((↑r2_2.length : Int) > 0) then
        bif
            decide
              (0 ≤ IntKind.i64.wrap ((↑r2_2.length : Int) - 1) ∧
                IntKind.i64.wrap ((↑r2_2.length : Int) - 1) < (↑r2_2.length : Int) ∧ 0 < r2_2.length) then
          bif decide (0 + (IntKind.i64.wrap ((↑r2_2.length : Int) - 1)).toNat < r2_2.length) then
            bif decide (0 + r0_2.length ≤ r0_2.length) && true then
              bif decide (0 + r2_2.length ≤ r2_2.length) && true then
                some
                  (IntKind.i64.wrap (r2_2.getD (0 + (IntKind.i64.wrap ((↑r2_2.length : Int) - 1)).toNat) 0 - r1_2),
                    List.take r0_2.length r0_2, r1_2, List.take r2_2.length r2_2, r3_2)
              else none
            else none
          else none
        else none
      else
        bif decide (0 + r0_2.length ≤ r0_2.length) && true then
          bif decide (0 + r2_2.length ≤ r2_2.length) && true then
            some
              (IntKind.i64.wrap ((↑r0_2.length : Int) - r1_2), List.take r0_2.length r0_2, r1_2,
                List.take r2_2.length r2_2, r3_2)
          else none
        else none
theorem fe (d : (List (Int) × Int × List (Int) × Int)) : bodyF (tabC Try.prog (tab) ((37, .none) :: pls) 100 12) 100 37 i o d = fP d := by kernel_rfl
noncomputable def f : FT := fP
def plan : Plan := .none
theorem planOk : PlanOk Try.prog (plan) (bodyOf Try.prog 37) := (planOk_of (plan) _ [] (by kernel_rfl) trivial)
theorem meets : MeetsF Try.prog 37 ⟨i, o, f⟩ :=
  funcT (fuel := 100) (depth := 12) (pl := (37, plan) :: pls) mixed tabS ⟨planOk, plsP⟩ (fun d => fe  d)
theorem spec : SpecOk Try.prog (fun _ => none) 37 (specF ⟨i, o, f⟩) := specF_ok (by kernel_rfl) meets
end Go.Proofs.Ytkleakkhbfdipaa.F37

/- What comes of function 57 of this program, (*consulate.consulateref01.Reader).Take, as the engine gives it. -/
namespace Go.Proofs.Ytkleakkhbfdipaa.F57
open Go Go.Proofs Go.Proofs.Ytkleakkhbfdipaa Go.RowKit Go.Proofs.Ytkleakkhbfdipaa.Sx
set_option linter.unusedVariables false
set_option maxRecDepth 100000
def tab (x37 : F37.FT) : List (FuncId × Sx.Spec) := [(37, specF ⟨F37.i, F37.o, x37⟩)]
def pls (x37 : F37.FT) : List (FuncId × Plan) := []
@[reducible] def k1 : Sh := .sc (.int .i64) .nil
@[reducible] def i1 : Sh := .pt true 62 (.sl false 5 (.sc (.int .u8) .nil) (.sc (.int .i64) (.sl true 3 (.sc (.int .i64) .nil) (.sc (.int .i64) .nil)))) (.sl true 5 (.sc (.int .u8) .nil) (.sc (.int .i64) .nil))
@[reducible] def o1 : Sh := .sl true 5 (.sc (.int .u8) .nil) .nil
abbrev G1 := Int → ((List (Int) × Int × List (Int) × Int) × List (Int) × Int) → Option (List (Int) × ((List (Int) × Int × List (Int) × Int)))
def u1 (F : G1) : Un := ⟨51, [1], k1, [0, 5, 6], i1, [5], o1, [0, 1], [(.exit 0, [true])], F⟩
@[reducible] def i : Sh := .pt true 62 (.sl false 5 (.sc (.int .u8) .nil) (.sc (.int .i64) (.sl true 3 (.sc (.int .i64) .nil) (.sc (.int .i64) .nil)))) (.sc (.int .i64) .nil)
@[reducible] def o : Sh := .sl true 5 (.sc (.int .u8) .nil) .nil
abbrev FT := ((List (Int) × Int × List (Int) × Int) × Int) → Option (List (Int) × ((List (Int) × Int × List (Int) × Int)))
theorem tabS : AllS Try.prog (tab F37.f) := ⟨F37.spec, trivial⟩
theorem plsP : AllP Try.prog (pls F37.f) := trivial
theorem mixed : Try.prog.follows .mixedOrders = true := by kernel_rfl
def r1P (x37 : F37.FT) : Int → ((List (Int) × Int × List (Int) × Int) × List (Int) × Int) → Option (((List (Int) × Int × List (Int) × Int) × List (Int) × Int) ⊕ (List (Int) × ((List (Int) × Int × List (Int) × Int)))) := fun n ((r0_2, r1_2, r2_2, r3_2), out, i) =>
    bif decide (i < n) then
      bif decide (0 ≤ r1_2 ∧ r1_2 < (↑r0_2.length : Int) ∧ 0 < r0_2.length) then
        bif decide (0 + r1_2.toNat < r0_2.length) then
          bif decide (out.length + 1 / OfNat.ofNat 1 ≤ 1073741824) then
            bif decide (0 + out.length ≤ out.length) then
              bif decide (0 + r0_2.length ≤ r0_2.length) && true then
                bif decide (0 + r2_2.length ≤ r2_2.length) && true then
                  bif
                      decide
                          (0 + (out.length + 1 / OfNat.ofNat 1) ≤
                            (List.take out.length out ++ [r0_2.getD (0 + r1_2.toNat) 0]).length) &&
                        true then
                    some
                      (Sum.inl
                        ((List.take r0_2.length r0_2, IntKind.i64.wrap (r1_2 + 1), List.take r2_2.length r2_2, r3_2),
                          List.take (out.length + 1 / OfNat.ofNat 1)
                            (List.drop 0 (List.take out.length out ++ [r0_2.getD (0 + r1_2.toNat) 0])),
                          IntKind.i64.wrap (i + 1)))
                  else none
                else none
              else none
            else none
          else none
        else none
      else none
    else
      bif decide (0 + out.length ≤ out.length) && true then
        some (Sum.inr (List.take out.length out, r0_2, r1_2, r2_2, r3_2))
      else none
theorem r1e (x37 : F37.FT) (kd : Int) (d : (List (Int) × Int × List (Int) × Int) × List (Int) × Int) : roundF (tabC Try.prog (tab x37) (pls x37) 100 12) 100 .none (u1 fun _ _ => none) (codeAt [1, 1, 1, 1, 0, 1, 0, 0] (bodyOf Try.prog 57)) kd d = r1P x37 kd d := by kernel_rfl
noncomputable def r1 : Int → ((List (Int) × Int × List (Int) × Int) × List (Int) × Int) → Option (((List (Int) × Int × List (Int) × Int) × List (Int) × Int) ⊕ (List (Int) × ((List (Int) × Int × List (Int) × Int)))) := r1P F37.f
noncomputable def l1 : G1 := fun kd d => iterO (r1 kd) d
theorem ok1 : UnOk Try.prog (u1 l1) (codeAt [1, 1, 1, 1, 0, 1, 0] (bodyOf Try.prog 57)) :=
  loopT (p := .none) (c := codeAt [1, 1, 1, 1, 0, 1, 0, 0] (bodyOf Try.prog 57)) (fuel := 100) (depth := 12) mixed tabS plsP (by kernel_rfl) trivial (by kernel_rfl) (fun kd d => r1e F37.f kd d) rfl
def fP (x37 : F37.FT) (l1 : G1) : FT := fun ((r0_2, r1_2, r2_2, r3_2), n) =>
    bif r3_2 != 0 then some ([], r0_2, r1_2, r2_2, r3_2)
    else
      bif decide (n < 0) then
        bif decide (0 + r0_2.length ≤ r0_2.length) && true then
          bif decide (0 + r2_2.length ≤ r2_2.length) && true then
            some ([], List.take r0_2.length r0_2, r1_2, List.take r2_2.length r2_2, 4)
          else none
        else none
      else
        (x37 (r0_2, r1_2, r2_2, r3_2)).bind fun r0 =>
          bif decide (n > r0.fst) then
            bif decide (0 + r0.snd.fst.length ≤ r0.snd.fst.length) && true then
              bif decide (0 + r0.snd.snd.snd.fst.length ≤ r0.snd.snd.snd.fst.length) && true then
                some
                  ([], List.take r0.snd.fst.length (List.drop 0 r0.snd.fst), r0.snd.snd.fst,
                    List.take r0.snd.snd.snd.fst.length (List.drop 0 r0.snd.snd.snd.fst), 4)
              else none
            else none
          else
            (l1 n (r0.snd, [], 0)).bind fun r1 =>
              bif decide (0 + List.length r1.fst ≤ List.length r1.fst) && true then
                some (List.take (List.length r1.fst) (List.drop 0 r1.fst), r1.snd)
              else none
theorem fe (x37 : F37.FT) (l1 : G1) (d : (List (Int) × Int × List (Int) × Int) × Int) : bodyF (tabC Try.prog (tab x37) ((57, (.node .none (.node .none (.node .none (.node .none (.node (.node .none (.node (.unit (u1 l1)) .none)) .none)))))) :: pls x37) 100 12) 100 57 i o d = fP x37 l1 d := by kernel_rfl
noncomputable def f : FT := fP F37.f l1
def plan (l1 : G1) : Plan := (.node .none (.node .none (.node .none (.node .none (.node (.node .none (.node (.unit (u1 l1)) .none)) .none)))))
theorem planOk : PlanOk Try.prog (plan l1) (bodyOf Try.prog 57) := (planOk_of (plan l1) _ [([1, 1, 1, 1, 0, 1, 0], u1 l1)] rfl ⟨ok1, trivial⟩)
theorem meets : MeetsF Try.prog 57 ⟨i, o, f⟩ :=
  funcT (fuel := 100) (depth := 12) (pl := (57, plan l1) :: pls F37.f) mixed tabS ⟨planOk, plsP⟩ (fun d => fe F37.f l1 d)
theorem spec : SpecOk Try.prog (fun _ => none) 57 (specF ⟨i, o, f⟩) := specF_ok (by kernel_rfl) meets
end Go.Proofs.Ytkleakkhbfdipaa.F57

/- What comes of function 56 of this program, (*consulate.consulateref01.Reader).Number, as the engine gives it. -/
namespace Go.Proofs.Ytkleakkhbfdipaa.F56
open Go Go.Proofs Go.Proofs.Ytkleakkhbfdipaa Go.RowKit Go.Proofs.Ytkleakkhbfdipaa.Sx
set_option linter.unusedVariables false
set_option maxRecDepth 100000
def tab (x57 : F57.FT) : List (FuncId × Sx.Spec) := [(57, specF ⟨F57.i, F57.o, x57⟩)]
def pls (x57 : F57.FT) : List (FuncId × Plan) := []
@[reducible] def k1 : Sh := .sl true 5 (.sc (.int .u8) .nil) .nil
@[reducible] def i1 : Sh := .sc (.int .i64) (.sc (.int .i64) .nil)
@[reducible] def o1 : Sh := .sc (.int .i64) .nil
abbrev G1 := List (Int) → (Int × Int) → Option (Int × Unit)
def u1 (F : G1) : Un := ⟨26, [5], k1, [6, 7], i1, [6], o1, [5], [(.exit 0, [true])], F⟩
@[reducible] def i : Sh := .pt true 62 (.sl false 5 (.sc (.int .u8) .nil) (.sc (.int .i64) (.sl true 3 (.sc (.int .i64) .nil) (.sc (.int .i64) .nil)))) (.sc (.int .i64) .nil)
@[reducible] def o : Sh := .sc (.int .i64) .nil
abbrev FT := ((List (Int) × Int × List (Int) × Int) × Int) → Option (Int × ((List (Int) × Int × List (Int) × Int)))
theorem tabS : AllS Try.prog (tab F57.f) := ⟨F57.spec, trivial⟩
theorem plsP : AllP Try.prog (pls F57.f) := trivial
theorem mixed : Try.prog.follows .mixedOrders = true := by kernel_rfl
def r1P (x57 : F57.FT) : List (Int) → (Int × Int) → Option ((Int × Int) ⊕ (Int × Unit)) := fun l (n, i) =>
    bif decide (i < (↑l.length : Int)) then
      bif decide (0 ≤ i ∧ i < (↑l.length : Int) ∧ 0 < l.length) then
        bif decide (0 + i.toNat < l.length) then
          some
            (Sum.inl
              (IntKind.i64.wrap (IntKind.i64.wrap (256 * n) + IntKind.i64.wrap (l.getD (0 + i.toNat) 0)),
                IntKind.i64.wrap (i + 1)))
        else none
      else none
    else some (Sum.inr (n, PUnit.unit))
theorem r1e (x57 : F57.FT) (kd : List (Int)) (d : Int × Int) : roundF (tabC Try.prog (tab x57) (pls x57) 100 12) 100 .none (u1 fun _ _ => none) (codeAt [1, 1, 1, 0, 1, 0, 0] (bodyOf Try.prog 56)) kd d = r1P x57 kd d := by kernel_rfl
noncomputable def r1 : List (Int) → (Int × Int) → Option ((Int × Int) ⊕ (Int × Unit)) := r1P F57.f
noncomputable def l1 : G1 := fun kd d => iterO (r1 kd) d
theorem ok1 : UnOk Try.prog (u1 l1) (codeAt [1, 1, 1, 0, 1, 0] (bodyOf Try.prog 56)) :=
  loopT (p := .none) (c := codeAt [1, 1, 1, 0, 1, 0, 0] (bodyOf Try.prog 56)) (fuel := 100) (depth := 12) mixed tabS plsP (by kernel_rfl) trivial (by kernel_rfl) (fun kd d => r1e F57.f kd d) rfl
def fP (x57 : F57.FT) (l1 : G1) : FT := fun ((r0_2, r1_2, r2_2, r3_2), wide) =>
    (x57 ((r0_2, r1_2, r2_2, r3_2), wide)).bind fun r0 =>
      bif decide (0 + List.length r0.fst ≤ List.length r0.fst) && true then
        (l1 (List.take (List.length r0.fst) (List.drop 0 r0.fst)) (0, 0)).bind fun r1 => some (r1.fst, r0.snd)
      else none
theorem fe (x57 : F57.FT) (l1 : G1) (d : (List (Int) × Int × List (Int) × Int) × Int) : bodyF (tabC Try.prog (tab x57) ((56, (.node .none (.node .none (.node .none (.node (.node .none (.node (.unit (u1 l1)) .none)) .none))))) :: pls x57) 100 12) 100 56 i o d = fP x57 l1 d := by kernel_rfl
noncomputable def f : FT := fP F57.f l1
def plan (l1 : G1) : Plan := (.node .none (.node .none (.node .none (.node (.node .none (.node (.unit (u1 l1)) .none)) .none))))
theorem planOk : PlanOk Try.prog (plan l1) (bodyOf Try.prog 56) := (planOk_of (plan l1) _ [([1, 1, 1, 0, 1, 0], u1 l1)] rfl ⟨ok1, trivial⟩)
theorem meets : MeetsF Try.prog 56 ⟨i, o, f⟩ :=
  funcT (fuel := 100) (depth := 12) (pl := (56, plan l1) :: pls F57.f) mixed tabS ⟨planOk, plsP⟩ (fun d => fe F57.f l1 d)
theorem spec : SpecOk Try.prog (fun _ => none) 56 (specF ⟨i, o, f⟩) := specF_ok (by kernel_rfl) meets
end Go.Proofs.Ytkleakkhbfdipaa.F56

/- What comes of function 58 of this program, (*consulate.consulateref01.Reader).Open, as the engine gives it. -/
namespace Go.Proofs.Ytkleakkhbfdipaa.F58
open Go Go.Proofs Go.Proofs.Ytkleakkhbfdipaa Go.RowKit Go.Proofs.Ytkleakkhbfdipaa.Sx
set_option linter.unusedVariables false
set_option maxRecDepth 100000
def tab (x37 : F37.FT) : List (FuncId × Sx.Spec) := [(37, specF ⟨F37.i, F37.o, x37⟩)]
def pls (x37 : F37.FT) : List (FuncId × Plan) := []
@[reducible] def i : Sh := .pt true 62 (.sl false 5 (.sc (.int .u8) .nil) (.sc (.int .i64) (.sl true 3 (.sc (.int .i64) .nil) (.sc (.int .i64) .nil)))) (.sc (.int .i64) .nil)
@[reducible] def o : Sh := .nil
abbrev FT := ((List (Int) × Int × List (Int) × Int) × Int) → Option (Unit × ((List (Int) × Int × List (Int) × Int)))
theorem tabS : AllS Try.prog (tab F37.f) := ⟨F37.spec, trivial⟩
theorem plsP : AllP Try.prog (pls F37.f) := trivial
theorem mixed : Try.prog.follows .mixedOrders = true := by kernel_rfl
def fP (x37 : F37.FT) : FT := fun ((r0_2, r1_2, r2_2, r3_2), n) =>
    bif r3_2 != 0 then some (PUnit.unit, r0_2, r1_2, r2_2, r3_2)
    else
      bif decide (n < 0) then
        bif decide (0 + r0_2.length ≤ r0_2.length) && true then
          bif decide (0 + r2_2.length ≤ r2_2.length) && true then
            some (PUnit.unit, List.take r0_2.length r0_2, r1_2, List.take r2_2.length r2_2, 4)
          else none
        else none
      else
        (x37 (r0_2, r1_2, r2_2, r3_2)).bind fun r0 =>
          bif decide (n > r0.fst) then
            bif decide (0 + r0.snd.fst.length ≤ r0.snd.fst.length) && true then
              bif decide (0 + r0.snd.snd.snd.fst.length ≤ r0.snd.snd.snd.fst.length) && true then
                some
                  (PUnit.unit, List.take r0.snd.fst.length (List.drop 0 r0.snd.fst), r0.snd.snd.fst,
                    List.take r0.snd.snd.snd.fst.length (List.drop 0 r0.snd.snd.snd.fst), 4)
              else none
            else none
          else
            bif decide (r0.snd.snd.snd.fst.length + 1 / OfNat.ofNat 1 ≤ 1073741824) then
              bif decide (0 + r0.snd.snd.snd.fst.length ≤ r0.snd.snd.snd.fst.length) then
                bif decide (0 + r0.snd.fst.length ≤ r0.snd.fst.length) && true then
                  bif
                      decide
                          (0 + (r0.snd.snd.snd.fst.length + 1 / OfNat.ofNat 1) ≤
                            (List.take r0.snd.snd.snd.fst.length (List.drop 0 r0.snd.snd.snd.fst) ++
                                [IntKind.i64.wrap (r0.snd.snd.fst + n)]).length) &&
                        true then
                    some
                      (PUnit.unit, List.take r0.snd.fst.length (List.drop 0 r0.snd.fst), r0.snd.snd.fst,
                        List.take (r0.snd.snd.snd.fst.length + 1 / OfNat.ofNat 1)
                          (List.drop 0
                            (List.take r0.snd.snd.snd.fst.length (List.drop 0 r0.snd.snd.snd.fst) ++
                              [IntKind.i64.wrap (r0.snd.snd.fst + n)])),
                        r0.snd.snd.snd.snd)
                  else none
                else none
              else none
            else none
theorem fe (x37 : F37.FT) (d : (List (Int) × Int × List (Int) × Int) × Int) : bodyF (tabC Try.prog (tab x37) ((58, .none) :: pls x37) 100 12) 100 58 i o d = fP x37 d := by kernel_rfl
noncomputable def f : FT := fP F37.f
def plan : Plan := .none
theorem planOk : PlanOk Try.prog (plan) (bodyOf Try.prog 58) := (planOk_of (plan) _ [] (by kernel_rfl) trivial)
theorem meets : MeetsF Try.prog 58 ⟨i, o, f⟩ :=
  funcT (fuel := 100) (depth := 12) (pl := (58, plan) :: pls F37.f) mixed tabS ⟨planOk, plsP⟩ (fun d => fe F37.f d)
theorem spec : SpecOk Try.prog (fun _ => none) 58 (specF ⟨i, o, f⟩) := specF_ok (by kernel_rfl) meets
end Go.Proofs.Ytkleakkhbfdipaa.F58

/- What comes of function 59 of this program, (*consulate.consulateref01.Reader).Close, as the engine gives it. -/
namespace Go.Proofs.Ytkleakkhbfdipaa.F59
open Go Go.Proofs Go.Proofs.Ytkleakkhbfdipaa Go.RowKit Go.Proofs.Ytkleakkhbfdipaa.Sx
set_option linter.unusedVariables false
set_option maxRecDepth 100000
def tab (x37 : F37.FT) : List (FuncId × Sx.Spec) := [(37, specF ⟨F37.i, F37.o, x37⟩)]
def pls (x37 : F37.FT) : List (FuncId × Plan) := []
@[reducible] def i : Sh := .pt true 62 (.sl false 5 (.sc (.int .u8) .nil) (.sc (.int .i64) (.sl true 3 (.sc (.int .i64) .nil) (.sc (.int .i64) .nil)))) (.sc .bool .nil)
@[reducible] def o : Sh := .nil
abbrev FT := ((List (Int) × Int × List (Int) × Int) × Bool) → Option (Unit × ((List (Int) × Int × List (Int) × Int)))
theorem tabS : AllS Try.prog (tab F37.f) := ⟨F37.spec, trivial⟩
theorem plsP : AllP Try.prog (pls F37.f) := trivial
theorem mixed : Try.prog.follows .mixedOrders = true := by kernel_rfl
def fP (x37 : F37.FT) : FT := fun ((r0_2, r1_2, r2_2, r3_2), skip) =>
    bif r3_2 != 0 then some (PUnit.unit, r0_2, r1_2, r2_2, r3_2)
    else
      bif (↑r2_2.length : Int) == 0 then
        bif decide (0 + r0_2.length ≤ r0_2.length) && true then
          bif decide (0 + r2_2.length ≤ r2_2.length) && true then
            some (PUnit.unit, List.take r0_2.length r0_2, r1_2, List.take r2_2.length r2_2, 26)
          else none
        else none
      else
        bif !skip then
          bif decide (0 + r0_2.length ≤ r0_2.length) && true then
            bif decide (0 + r2_2.length ≤ r2_2.length) && true then
              (x37 (List.take r0_2.length r0_2, r1_2, List.take r2_2.length r2_2, r3_2)).bind fun r0 =>
                bif decide (r0.fst > 0) then
                  bif decide (0 + r0.snd.fst.length ≤ r0.snd.fst.length) && true then
                    bif decide (0 + r0.snd.snd.snd.fst.length ≤ r0.snd.snd.snd.fst.length) && true then
                      some
                        (PUnit.unit, List.take r0.snd.fst.length (List.drop 0 r0.snd.fst), r0.snd.snd.fst,
                          List.take r0.snd.snd.snd.fst.length (List.drop 0 r0.snd.snd.snd.fst), 5)
                    else none
                  else none
                else
                  bif
                      decide
                        (0 ≤ IntKind.i64.wrap ((↑r0.snd.snd.snd.fst.length : Int) - 1) ∧
                          IntKind.i64.wrap ((↑r0.snd.snd.snd.fst.length : Int) - 1) < (↑r0.snd.snd.snd.fst.length : Int) ∧
                            0 < r0.snd.snd.snd.fst.length) then
                    bif
                        decide
                          (0 + (IntKind.i64.wrap ((↑r0.snd.snd.snd.fst.length : Int) - 1)).toNat <
                            r0.snd.snd.snd.fst.length) then
                      bif
                          decide
                            (0 ≤
                                (some (IntKind.i64.wrap ((↑r0.snd.snd.snd.fst.length : Int) - 1))).getD
                                  (↑r0.snd.snd.snd.fst.length : Int) ∧
                              (some (IntKind.i64.wrap ((↑r0.snd.snd.snd.fst.length : Int) - 1))).getD
                                    (↑r0.snd.snd.snd.fst.length : Int) ≤
                                  (↑r0.snd.snd.snd.fst.length : Int) ∧
                                0 + r0.snd.snd.snd.fst.length ≤ r0.snd.snd.snd.fst.length) then
                        bif decide (0 + r0.snd.fst.length ≤ r0.snd.fst.length) && true then
                          bif
                              decide
                                  (0 +
                                      ((some (IntKind.i64.wrap ((↑r0.snd.snd.snd.fst.length : Int) - 1))).getD
                                          (↑r0.snd.snd.snd.fst.length : Int)).toNat ≤
                                    r0.snd.snd.snd.fst.length) &&
                                true then
                            some
                              (PUnit.unit, List.take r0.snd.fst.length (List.drop 0 r0.snd.fst),
                                r0.snd.snd.snd.fst.getD
                                  (0 + (IntKind.i64.wrap ((↑r0.snd.snd.snd.fst.length : Int) - 1)).toNat) 0,
                                List.take
                                  ((some (IntKind.i64.wrap ((↑r0.snd.snd.snd.fst.length : Int) - 1))).getD
                                      (↑r0.snd.snd.snd.fst.length : Int)).toNat
                                  (List.drop 0 r0.snd.snd.snd.fst),
                                r0.snd.snd.snd.snd)
                          else none
                        else none
                      else none
                    else none
                  else none
            else none
          else none
        else
          bif
              decide
                (0 ≤ IntKind.i64.wrap ((↑r2_2.length : Int) - 1) ∧
                  IntKind.i64.wrap ((↑r2_2.length : Int) - 1) < (↑r2_2.length : Int) ∧ 0 < r2_2.length) then
            bif decide (0 + (IntKind.i64.wrap ((↑r2_2.length : Int) - 1)).toNat < r2_2.length) then
              bif
                  decide
                    (0 ≤ (some (IntKind.i64.wrap ((↑r2_2.length : Int) - 1))).getD (↑r2_2.length : Int) ∧
                      (some (IntKind.i64.wrap ((↑r2_2.length : Int) - 1))).getD (↑r2_2.length : Int) ≤
                          (↑r2_2.length : Int) ∧
                        0 + r2_2.length ≤ r2_2.length) then
                bif decide (0 + r0_2.length ≤ r0_2.length) && true then
                  bif
                      decide
                          (0 + ((some (IntKind.i64.wrap ((↑r2_2.length : Int) - 1))).getD (↑r2_2.length : Int)).toNat ≤
                            r2_2.length) &&
                        true then
                    some
                      (PUnit.unit, List.take r0_2.length r0_2,
                        r2_2.getD (0 + (IntKind.i64.wrap ((↑r2_2.length : Int) - 1)).toNat) 0,
                        List.take ((some (IntKind.i64.wrap ((↑r2_2.length : Int) - 1))).getD (↑r2_2.length : Int)).toNat
                          r2_2,
                        r3_2)
                  else none
                else none
              else none
            else none
          else none
theorem fe (x37 : F37.FT) (d : (List (Int) × Int × List (Int) × Int) × Bool) : bodyF (tabC Try.prog (tab x37) ((59, .none) :: pls x37) 100 12) 100 59 i o d = fP x37 d := by kernel_rfl
noncomputable def f : FT := fP F37.f
def plan : Plan := .none
theorem planOk : PlanOk Try.prog (plan) (bodyOf Try.prog 59) := (planOk_of (plan) _ [] (by kernel_rfl) trivial)
theorem meets : MeetsF Try.prog 59 ⟨i, o, f⟩ :=
  funcT (fuel := 100) (depth := 12) (pl := (59, plan) :: pls F37.f) mixed tabS ⟨planOk, plsP⟩ (fun d => fe F37.f d)
theorem spec : SpecOk Try.prog (fun _ => none) 59 (specF ⟨i, o, f⟩) := specF_ok (by kernel_rfl) meets
end Go.Proofs.Ytkleakkhbfdipaa.F59

/- What comes of function 60 of this program, (*consulate.consulateref01.Reader).Fail, as the engine gives it. -/
namespace Go.Proofs.Ytkleakkhbfdipaa.F60
open Go Go.Proofs Go.Proofs.Ytkleakkhbfdipaa Go.RowKit Go.Proofs.Ytkleakkhbfdipaa.Sx
set_option linter.unusedVariables false
set_option maxRecDepth 100000
def tab : List (FuncId × Sx.Spec) := []
def pls : List (FuncId × Plan) := []
@[reducible] def i : Sh := .pt true 62 (.sl false 5 (.sc (.int .u8) .nil) (.sc (.int .i64) (.sl true 3 (.sc (.int .i64) .nil) (.sc (.int .i64) .nil)))) (.sc (.int .i64) .nil)
@[reducible] def o : Sh := .nil
abbrev FT := ((List (Int) × Int × List (Int) × Int) × Int) → Option (Unit × ((List (Int) × Int × List (Int) × Int)))
theorem tabS : AllS Try.prog (tab) := trivial
theorem plsP : AllP Try.prog (pls) := trivial
theorem mixed : Try.prog.follows .mixedOrders = true := by kernel_rfl
def fP : FT := fun ((r0_2, r1_2, r2_2, r3_2), e) =>
    bif r3_2 == 0 then
      bif decide (0 + r0_2.length ≤ r0_2.length) && true then
        bif decide (0 + r2_2.length ≤ r2_2.length) && true then
          some (PUnit.unit, List.take r0_2.length r0_2, r1_2, List.take r2_2.length r2_2, e)
        else none
      else none
    else some (PUnit.unit, r0_2, r1_2, r2_2, r3_2)
theorem fe (d : (List (Int) × Int × List (Int) × Int) × Int) : bodyF (tabC Try.prog (tab) ((60, .none) :: pls) 100 12) 100 60 i o d = fP d := by kernel_rfl
noncomputable def f : FT := fP
def plan : Plan := .none
theorem planOk : PlanOk Try.prog (plan) (bodyOf Try.prog 60) := (planOk_of (plan) _ [] (by kernel_rfl) trivial)
theorem meets : MeetsF Try.prog 60 ⟨i, o, f⟩ :=
  funcT (fuel := 100) (depth := 12) (pl := (60, plan) :: pls) mixed tabS ⟨planOk, plsP⟩ (fun d => fe  d)
theorem spec : SpecOk Try.prog (fun _ => none) 60 (specF ⟨i, o, f⟩) := specF_ok (by kernel_rfl) meets
end Go.Proofs.Ytkleakkhbfdipaa.F60

/- What comes of function 36 of this program, consulate.consulatelaw01.reads, as the engine gives it. -/
namespace Go.Proofs.Ytkleakkhbfdipaa.F36
open Go Go.Proofs Go.Proofs.Ytkleakkhbfdipaa Go.RowKit Go.Proofs.Ytkleakkhbfdipaa.Sx
set_option linter.unusedVariables false
set_option maxRecDepth 100000
def tab (x12 : F12.FT) (x56 : F56.FT) (x48 : F48.FT) (x40 : F40.FT) (x13 : F13.FT) (x57 : F57.FT) (x14 : F14.FT) (x37 : F37.FT) (x15 : F15.FT) (x58 : F58.FT) (x16 : F16.FT) (x59 : F59.FT) (x17 : F17.FT) (x18 : F18.FT) (x60 : F60.FT) : List (FuncId × Sx.Spec) := [(12, specF ⟨F12.i, F12.o, x12⟩), (56, specF ⟨F56.i, F56.o, x56⟩), (48, specF ⟨F48.i, F48.o, x48⟩), (40, specF ⟨F40.i, F40.o, x40⟩), (13, specF ⟨F13.i, F13.o, x13⟩), (57, specF ⟨F57.i, F57.o, x57⟩), (14, specF ⟨F14.i, F14.o, x14⟩), (37, specF ⟨F37.i, F37.o, x37⟩), (15, specF ⟨F15.i, F15.o, x15⟩), (58, specF ⟨F58.i, F58.o, x58⟩), (16, specF ⟨F16.i, F16.o, x16⟩), (59, specF ⟨F59.i, F59.o, x59⟩), (17, specF ⟨F17.i, F17.o, x17⟩), (18, specF ⟨F18.i, F18.o, x18⟩), (60, specF ⟨F60.i, F60.o, x60⟩)]
def pls (x12 : F12.FT) (x56 : F56.FT) (x48 : F48.FT) (x40 : F40.FT) (x13 : F13.FT) (x57 : F57.FT) (x14 : F14.FT) (x37 : F37.FT) (x15 : F15.FT) (x58 : F58.FT) (x16 : F16.FT) (x59 : F59.FT) (x17 : F17.FT) (x18 : F18.FT) (x60 : F60.FT) : List (FuncId × Plan) := []
@[reducible] def i : Sh := .pt true 69 (.sl true 5 (.sc (.int .u8) .nil) (.sc (.int .i64) (.sl true 3 (.sc (.int .i64) .nil) (.sc (.int .i64) .nil)))) (.pt true 62 (.sl false 5 (.sc (.int .u8) .nil) (.sc (.int .i64) (.sl true 3 (.sc (.int .i64) .nil) (.sc (.int .i64) .nil)))) (.ag (.sc (.int .i64) (.sc (.int .i64) .nil)) .nil))
@[reducible] def o : Sh := .sc .bool .nil
abbrev FT := ((List (Int) × Int × List (Int) × Int) × (List (Int) × Int × List (Int) × Int) × (Int × Int)) → Option (Bool × ((List (Int) × Int × List (Int) × Int) × (List (Int) × Int × List (Int) × Int)))
theorem tabS : AllS Try.prog (tab F12.f F56.f F48.f F40.f F13.f F57.f F14.f F37.f F15.f F58.f F16.f F59.f F17.f F18.f F60.f) := ⟨F12.spec, F56.spec, F48.spec, F40.spec, F13.spec, F57.spec, F14.spec, F37.spec, F15.spec, F58.spec, F16.spec, F59.spec, F17.spec, F18.spec, F60.spec, trivial⟩
theorem plsP : AllP Try.prog (pls F12.f F56.f F48.f F40.f F13.f F57.f F14.f F37.f F15.f F58.f F16.f F59.f F17.f F18.f F60.f) := trivial
theorem mixed : Try.prog.follows .mixedOrders = true := by kernel_rfl
def fP (x12 : F12.FT) (x56 : F56.FT) (x48 : F48.FT) (x40 : F40.FT) (x13 : F13.FT) (x57 : F57.FT) (x14 : F14.FT) (x37 : F37.FT) (x15 : F15.FT) (x58 : F58.FT) (x16 : F16.FT) (x59 : F59.FT) (x17 : F17.FT) (x18 : F18.FT) (x60 : F60.FT) : FT := fun ((r0_2, r1_2, r2_2, r3_2), (w0, w1, w2, w3), (a0, a1)) =>
    bif a0 == 0 then
      (x12 (r0_2, r1_2, r2_2, r3_2)).bind fun r0 =>
        (x56 ((w0, w1, w2, w3), 1)).bind fun r1 => some (IntKind.i64.wrap r0.fst == r1.fst, r0.snd, r1.snd)
    else
      bif a0 == 1 then
        (x48 (r0_2, r1_2, r2_2, r3_2)).bind fun r0 =>
          (x56 ((w0, w1, w2, w3), 2)).bind fun r1 => some (IntKind.i64.wrap r0.fst == r1.fst, r0.snd, r1.snd)
      else
        bif a0 == 2 then
          (x40 (r0_2, r1_2, r2_2, r3_2)).bind fun r0 =>
            (x56 ((w0, w1, w2, w3), 4)).bind fun r1 => some (IntKind.i64.wrap r0.fst == r1.fst, r0.snd, r1.snd)
        else
          bif a0 == 3 then
            bif decide (0 + r0_2.length ≤ r0_2.length) && true then
              bif decide (0 + r2_2.length ≤ r2_2.length) && true then
                (x13 ((List.take r0_2.length r0_2, r1_2, List.take r2_2.length r2_2, r3_2), a1)).bind fun r0 =>
                  bif decide (0 + w0.length ≤ w0.length) && true then
                    bif decide (0 + w2.length ≤ w2.length) && true then
                      (x57 ((List.take w0.length w0, w1, List.take w2.length w2, w3), a1)).bind fun r1 =>
                        bif decide (0 + List.length r0.fst ≤ List.length r0.fst) then
                          bif decide (0 + List.length r1.fst ≤ List.length r1.fst) then
                            some
                              ((ByteArray.mk
                                      (Array.mk
                                        (List.map (fun n => UInt8.ofNat n.toNat)
                                          (List.take (List.length r0.fst) (List.drop 0 r0.fst))))).toList ==
                                  (ByteArray.mk
                                      (Array.mk
                                        (List.map (fun n => UInt8.ofNat n.toNat)
                                          (List.take (List.length r1.fst) (List.drop 0 r1.fst))))).toList,
                                r0.snd, r1.snd)
                          else none
                        else none
                    else none
                  else none
              else none
            else none
          else
            bif a0 == 4 then
              (x14 (r0_2, r1_2, r2_2, r3_2)).bind fun r0 =>
                (x37 (w0, w1, w2, w3)).bind fun r1 =>
                  (x57 (r1.snd, r1.fst)).bind fun r2 =>
                    bif decide (0 + List.length r0.fst ≤ List.length r0.fst) then
                      bif decide (0 + List.length r2.fst ≤ List.length r2.fst) then
                        some
                          ((ByteArray.mk
                                  (Array.mk
                                    (List.map (fun n => UInt8.ofNat n.toNat)
                                      (List.take (List.length r0.fst) (List.drop 0 r0.fst))))).toList ==
                              (ByteArray.mk
                                  (Array.mk
                                    (List.map (fun n => UInt8.ofNat n.toNat)
                                      (List.take (List.length r2.fst) (List.drop 0 r2.fst))))).toList,
                            r0.snd, r2.snd)
                      else none
                    else none
            else
              bif a0 == 5 then
                (x15 ((r0_2, r1_2, r2_2, r3_2), a1)).bind fun r0 =>
                  (x58 ((w0, w1, w2, w3), a1)).bind fun r1 => some (true, r0.snd, r1.snd)
              else
                bif a0 == 6 then
                  (x16 (r0_2, r1_2, r2_2, r3_2)).bind fun r0 =>
                    (x59 ((w0, w1, w2, w3), false)).bind fun r1 => some (true, r0.snd, r1.snd)
                else
                  bif a0 == 7 then
                    (x17 (r0_2, r1_2, r2_2, r3_2)).bind fun r0 =>
                      (x59 ((w0, w1, w2, w3), true)).bind fun r1 => some (true, r0.snd, r1.snd)
                  else
                    bif a0 == 8 then
                      (x18 ((r0_2, r1_2, r2_2, r3_2), a1)).bind fun r0 =>
                        (x60 ((w0, w1, w2, w3), a1)).bind fun r1 => some (true, r0.snd, r1.snd)
                    else some (true, (r0_2, r1_2, r2_2, r3_2), w0, w1, w2, w3)
theorem fe (x12 : F12.FT) (x56 : F56.FT) (x48 : F48.FT) (x40 : F40.FT) (x13 : F13.FT) (x57 : F57.FT) (x14 : F14.FT) (x37 : F37.FT) (x15 : F15.FT) (x58 : F58.FT) (x16 : F16.FT) (x59 : F59.FT) (x17 : F17.FT) (x18 : F18.FT) (x60 : F60.FT) (d : (List (Int) × Int × List (Int) × Int) × (List (Int) × Int × List (Int) × Int) × (Int × Int)) : bodyF (tabC Try.prog (tab x12 x56 x48 x40 x13 x57 x14 x37 x15 x58 x16 x59 x17 x18 x60) ((36, .none) :: pls x12 x56 x48 x40 x13 x57 x14 x37 x15 x58 x16 x59 x17 x18 x60) 100 12) 100 36 i o d = fP x12 x56 x48 x40 x13 x57 x14 x37 x15 x58 x16 x59 x17 x18 x60 d := by kernel_rfl
noncomputable def f : FT := fP F12.f F56.f F48.f F40.f F13.f F57.f F14.f F37.f F15.f F58.f F16.f F59.f F17.f F18.f F60.f
def plan : Plan := .none
theorem planOk : PlanOk Try.prog (plan) (bodyOf Try.prog 36) := (planOk_of (plan) _ [] (by kernel_rfl) trivial)
theorem meets : MeetsF Try.prog 36 ⟨i, o, f⟩ :=
  funcT (fuel := 100) (depth := 12) (pl := (36, plan) :: pls F12.f F56.f F48.f F40.f F13.f F57.f F14.f F37.f F15.f F58.f F16.f F59.f F17.f F18.f F60.f) mixed tabS ⟨planOk, plsP⟩ (fun d => fe F12.f F56.f F48.f F40.f F13.f F57.f F14.f F37.f F15.f F58.f F16.f F59.f F17.f F18.f F60.f d)
theorem spec : SpecOk Try.prog (fun _ => none) 36 (specF ⟨i, o, f⟩) := specF_ok (by kernel_rfl) meets
end Go.Proofs.Ytkleakkhbfdipaa.F36

/- What stands on its own: function 21 says true. -/
namespace Go.Proofs.Ytkleakkhbfdipaa.KA
open Go Go.Proofs Go.Proofs.Ytkleakkhbfdipaa Go.RowKit Go.Proofs.Ytkleakkhbfdipaa.Sx
theorem mixed : Try.prog.follows .mixedOrders = true := by kernel_rfl
theorem tells (W : World) (hW : GlobW W) : Calls Try.prog 21 #[] W (Law.Told W) :=
  closed_law (C := tower (base Try.prog) [] 100 20) (tower_ok (base_ok _) (noPlans _ rfl) mixed (fun _ _ h => by cases h) 20) rfl (by kernel_rfl) W hW
end Go.Proofs.Ytkleakkhbfdipaa.KA

/- What comes of function 3 of this program, consulate.consulatelaw01.ScrollWithin, as the engine gives it. -/
namespace Go.Proofs.Ytkleakkhbfdipaa.F3
open Go Go.Proofs Go.Proofs.Ytkleakkhbfdipaa Go.RowKit Go.Proofs.Ytkleakkhbfdipaa.Sx
set_option linter.unusedVariables false
set_option maxRecDepth 100000
def tab (x8 : F8.FT) (x9 : F9.FT) (x10 : F10.FT) (x11 : F11.FT) (x12 : F12.FT) (x13 : F13.FT) (x14 : F14.FT) (x15 : F15.FT) (x16 : F16.FT) (x17 : F17.FT) (x18 : F18.FT) (x19 : F19.FT) : List (FuncId × Sx.Spec) := [(8, specF ⟨F8.i, F8.o, x8⟩), (9, specF ⟨F9.i, F9.o, x9⟩), (10, specF ⟨F10.i, F10.o, x10⟩), (11, specF ⟨F11.i, F11.o, x11⟩), (12, specF ⟨F12.i, F12.o, x12⟩), (13, specF ⟨F13.i, F13.o, x13⟩), (14, specF ⟨F14.i, F14.o, x14⟩), (15, specF ⟨F15.i, F15.o, x15⟩), (16, specF ⟨F16.i, F16.o, x16⟩), (17, specF ⟨F17.i, F17.o, x17⟩), (18, specF ⟨F18.i, F18.o, x18⟩), (19, specF ⟨F19.i, F19.o, x19⟩), (21, pureS saysS)]
def pls (x8 : F8.FT) (x9 : F9.FT) (x10 : F10.FT) (x11 : F11.FT) (x12 : F12.FT) (x13 : F13.FT) (x14 : F14.FT) (x15 : F15.FT) (x16 : F16.FT) (x17 : F17.FT) (x18 : F18.FT) (x19 : F19.FT) : List (FuncId × Plan) := []
@[reducible] def k1 : Sh := .pt true 28 (.sc (.int .i64) (.sc (.int .i64) .nil)) (.sc (.int .i64) (.sc (.int .i64) (.sc (.int .i64) .nil)))
@[reducible] def i1 : Sh := .pt true 69 (.sl true 5 (.sc (.int .u8) .nil) (.sc (.int .i64) (.sl true 3 (.sc (.int .i64) .nil) (.sc (.int .i64) .nil)))) (.sl true 3 (.sc (.int .i64) .nil) (.sl true 5 (.sc (.int .u8) .nil) .nil))
@[reducible] def o1 : Sh := .sl true 3 (.sc (.int .i64) .nil) (.sl true 5 (.sc (.int .u8) .nil) .nil)
abbrev G1 := ((Int × Int) × Int × Int × Int) → ((List (Int) × Int × List (Int) × Int) × List (Int) × List (Int)) → Option ((List (Int) × List (Int)) × ((List (Int) × Int × List (Int) × Int)))
def u1 (F : G1) : Un := ⟨195, [8, 9, 11, 40], k1, [5, 6, 12], i1, [6, 12], o1, [0, 5, 8, 9, 10, 11, 24, 25, 26], [(.normal, [true, true])], F⟩
@[reducible] def k2 : Sh := .sc (.int .i64) .nil
@[reducible] def i2 : Sh := .pt true 69 (.sl true 5 (.sc (.int .u8) .nil) (.sc (.int .i64) (.sl true 3 (.sc (.int .i64) .nil) (.sc (.int .i64) .nil)))) (.sl true 3 (.sc (.int .i64) .nil) .nil)
@[reducible] def o2 : Sh := .sc (.int .i64) (.sc .bool (.sl true 3 (.sc (.int .i64) .nil) .nil))
abbrev G2 := Int → ((List (Int) × Int × List (Int) × Int) × List (Int)) → Option ((Int × Bool × List (Int)) × ((List (Int) × Int × List (Int) × Int)))
def u2 (F : G2) : Un := ⟨195, [11], k2, [5, 6], i2, [4, 6], o2, [0, 5, 8, 9, 10, 11, 12, 24, 25, 26], [(.normal, [false, true]), (.ret, [true, false])], F⟩
@[reducible] def k3 : Sh := .sl true 3 (.sc (.int .i64) .nil) (.sc (.int .i64) (.sc (.int .i64) (.sc (.int .i64) .nil)))
@[reducible] def i3 : Sh := .pt true 69 (.sl true 5 (.sc (.int .u8) .nil) (.sc (.int .i64) (.sl true 3 (.sc (.int .i64) .nil) (.sc (.int .i64) .nil)))) .nil
@[reducible] def o3 : Sh := .sc (.int .i64) (.sc .bool .nil)
abbrev G3 := (List (Int) × Int × Int × Int) → ((List (Int) × Int × List (Int) × Int)) → Option ((Int × Bool) × ((List (Int) × Int × List (Int) × Int)))
def u3 (F : G3) : Un := ⟨195, [6, 9, 10, 11], k3, [5], i3, [4], o3, [0, 5, 6, 8, 9, 12, 24, 25, 26], [(.normal, [false]), (.ret, [true])], F⟩
@[reducible] def k4 : Sh := .sl false 5 (.sc (.int .u8) .nil) (.pt true 28 (.sc (.int .i64) (.sc (.int .i64) .nil)) (.sc (.int .i64) .nil))
@[reducible] def i4 : Sh := .pt true 69 (.sl true 5 (.sc (.int .u8) .nil) (.sc (.int .i64) (.sl true 3 (.sc (.int .i64) .nil) (.sc (.int .i64) .nil)))) (.sl true 5 (.sc (.int .u8) .nil) .nil)
@[reducible] def o4 : Sh := .sc (.int .i64) (.sc .bool .nil)
abbrev G4 := (List (Int) × (Int × Int) × Int) → ((List (Int) × Int × List (Int) × Int) × List (Int)) → Option ((Int × Bool) × ((List (Int) × Int × List (Int) × Int)))
def u4 (F : G4) : Un := ⟨195, [0, 8, 9], k4, [5, 12], i4, [4], o4, [0, 5, 6, 24, 25, 26], [(.normal, [false]), (.ret, [true])], F⟩
@[reducible] def k5 : Sh := .sl true 3 (.sc (.int .i64) .nil) .nil
@[reducible] def i5 : Sh := .pt true 69 (.sl true 5 (.sc (.int .u8) .nil) (.sc (.int .i64) (.sl true 3 (.sc (.int .i64) .nil) (.sc (.int .i64) .nil)))) .nil
@[reducible] def o5 : Sh := .sc (.int .i64) (.sc .bool .nil)
abbrev G5 := List (Int) → ((List (Int) × Int × List (Int) × Int)) → Option ((Int × Bool) × ((List (Int) × Int × List (Int) × Int)))
def u5 (F : G5) : Un := ⟨195, [6], k5, [5], i5, [4], o5, [0, 5, 6, 24, 25, 26], [(.normal, [false]), (.ret, [true])], F⟩
@[reducible] def k6 : Sh := .sl false 5 (.sc (.int .u8) .nil) (.sl false 28 (.sc (.int .i64) (.sc (.int .i64) .nil)) (.sc (.int .i64) .nil))
@[reducible] def i6 : Sh := .pt true 69 (.sl true 5 (.sc (.int .u8) .nil) (.sc (.int .i64) (.sl true 3 (.sc (.int .i64) .nil) (.sc (.int .i64) .nil)))) (.sl true 3 (.sc (.int .i64) .nil) (.sc (.int .i64) .nil))
@[reducible] def o6 : Sh := .sc (.int .i64) (.sc .bool .nil)
abbrev G6 := (List (Int) × (List (Int × Int)) × Int) → ((List (Int) × Int × List (Int) × Int) × List (Int) × Int) → Option ((Int × Bool) × ((List (Int) × Int × List (Int) × Int)))
def u6 (F : G6) : Un := ⟨195, [0, 24, 25], k6, [5, 6, 26], i6, [4], o6, [0, 5, 24, 25], [(.exit 0, [false]), (.ret, [true])], F⟩
@[reducible] def i : Sh := .sl false 5 (.sc (.int .u8) .nil) (.sl false 28 (.sc (.int .i64) (.sc (.int .i64) .nil)) .nil)
@[reducible] def o : Sh := .sc .bool .nil
abbrev FT := (List (Int) × (List (Int × Int))) → Option (Bool × Unit)
theorem tabS : AllS Try.prog (tab F8.f F9.f F10.f F11.f F12.f F13.f F14.f F15.f F16.f F17.f F18.f F19.f) := ⟨F8.spec, F9.spec, F10.spec, F11.spec, F12.spec, F13.spec, F14.spec, F15.spec, F16.spec, F17.spec, F18.spec, F19.spec, says_ok (by kernel_rfl) KA.tells, trivial⟩
theorem plsP : AllP Try.prog (pls F8.f F9.f F10.f F11.f F12.f F13.f F14.f F15.f F16.f F17.f F18.f F19.f) := trivial
theorem mixed : Try.prog.follows .mixedOrders = true := by kernel_rfl
def r1P (x8 : F8.FT) (x9 : F9.FT) (x10 : F10.FT) (x11 : F11.FT) (x12 : F12.FT) (x13 : F13.FT) (x14 : F14.FT) (x15 : F15.FT) (x16 : F16.FT) (x17 : F17.FT) (x18 : F18.FT) (x19 : F19.FT) : G1 := fun ((a0, a1), at0, deep, t40) ((r0_2, r1_2, r2_2, r3_2), ends, got) =>
    bif t40 == 0 then
      (x12 (r0_2, r1_2, r2_2, r3_2)).bind fun r0 =>
        bif decide (0 + ends.length ≤ ends.length) && true then some ((List.take ends.length ends, [r0.fst]), r0.snd)
        else none
    else
      bif t40 == 3 then
        (x13 ((r0_2, r1_2, r2_2, r3_2), a1)).bind fun r0 =>
          bif decide (0 + ends.length ≤ ends.length) && true then
            bif decide (0 + List.length r0.fst ≤ List.length r0.fst) && true then
              some ((List.take ends.length ends, List.take (List.length r0.fst) (List.drop 0 r0.fst)), r0.snd)
            else none
          else none
      else
        bif t40 == 4 then
          (x14 (r0_2, r1_2, r2_2, r3_2)).bind fun r0 =>
            bif decide (0 + ends.length ≤ ends.length) && true then
              bif decide (0 + List.length r0.fst ≤ List.length r0.fst) && true then
                some ((List.take ends.length ends, List.take (List.length r0.fst) (List.drop 0 r0.fst)), r0.snd)
              else none
            else none
        else
          bif t40 == 5 then
            (x15 ((r0_2, r1_2, r2_2, r3_2), a1)).bind fun r0 =>
              (x11 r0.snd).bind fun r1 =>
                bif decide (r1.fst > deep) then
                  bif decide (ends.length + 1 / OfNat.ofNat 1 ≤ 1073741824) then
                    bif decide (0 + ends.length ≤ ends.length) then
                      bif
                          decide
                              (0 + (ends.length + 1 / OfNat.ofNat 1) ≤
                                (List.take ends.length ends ++ [IntKind.i64.wrap (at0 + a1)]).length) &&
                            true then
                        bif decide (0 + got.length ≤ got.length) && true then
                          some
                            ((List.take (ends.length + 1 / OfNat.ofNat 1)
                                  (List.drop 0 (List.take ends.length ends ++ [IntKind.i64.wrap (at0 + a1)])),
                                List.take got.length got),
                              r1.snd)
                        else none
                      else none
                    else none
                  else none
                else
                  bif decide (0 + ends.length ≤ ends.length) && true then
                    bif decide (0 + got.length ≤ got.length) && true then
                      some ((List.take ends.length ends, List.take got.length got), r1.snd)
                    else none
                  else none
          else
            bif t40 == 6 then
              (x16 (r0_2, r1_2, r2_2, r3_2)).bind fun r0 =>
                bif decide (0 + ends.length ≤ ends.length) && true then
                  bif decide (0 + got.length ≤ got.length) && true then
                    some ((List.take ends.length ends, List.take got.length got), r0.snd)
                  else none
                else none
            else
              bif t40 == 7 then
                (x17 (r0_2, r1_2, r2_2, r3_2)).bind fun r0 =>
                  bif decide (0 + ends.length ≤ ends.length) && true then
                    bif decide (0 + got.length ≤ got.length) && true then
                      some ((List.take ends.length ends, List.take got.length got), r0.snd)
                    else none
                  else none
              else
                bif t40 == 8 then
                  (x18 ((r0_2, r1_2, r2_2, r3_2), a1)).bind fun r0 =>
                    bif decide (0 + ends.length ≤ ends.length) && true then
                      bif decide (0 + got.length ≤ got.length) && true then
                        some ((List.take ends.length ends, List.take got.length got), r0.snd)
                      else none
                    else none
                else
                  bif decide (0 + ends.length ≤ ends.length) && true then
                    bif decide (0 + got.length ≤ got.length) && true then
                      some ((List.take ends.length ends, List.take got.length got), r0_2, r1_2, r2_2, r3_2)
                    else none
                  else none
theorem r1e (x8 : F8.FT) (x9 : F9.FT) (x10 : F10.FT) (x11 : F11.FT) (x12 : F12.FT) (x13 : F13.FT) (x14 : F14.FT) (x15 : F15.FT) (x16 : F16.FT) (x17 : F17.FT) (x18 : F18.FT) (x19 : F19.FT) (kd : (Int × Int) × Int × Int × Int) (d : (List (Int) × Int × List (Int) × Int) × List (Int) × List (Int)) : unitF (tabC Try.prog (tab x8 x9 x10 x11 x12 x13 x14 x15 x16 x17 x18 x19) (pls x8 x9 x10 x11 x12 x13 x14 x15 x16 x17 x18 x19) 100 12) 100 .none (u1 fun _ _ => none) (codeAt [1, 1, 1, 1, 0, 1, 0, 0, 1, 1, 0, 0, 1, 1, 1, 1, 0, 1] (bodyOf Try.prog 3)) kd d = r1P x8 x9 x10 x11 x12 x13 x14 x15 x16 x17 x18 x19 kd d := by kernel_rfl
noncomputable def r1 : G1 := r1P F8.f F9.f F10.f F11.f F12.f F13.f F14.f F15.f F16.f F17.f F18.f F19.f
noncomputable def l1 : G1 := r1
theorem ok1 : UnOk Try.prog (u1 l1) (codeAt [1, 1, 1, 1, 0, 1, 0, 0, 1, 1, 0, 0, 1, 1, 1, 1, 0, 1] (bodyOf Try.prog 3)) :=
  blockT (p := .none) (fuel := 100) (depth := 12) mixed tabS plsP trivial (fun kd d => r1e F8.f F9.f F10.f F11.f F12.f F13.f F14.f F15.f F16.f F17.f F18.f F19.f kd d)
def r2P (x8 : F8.FT) (x9 : F9.FT) (x10 : F10.FT) (x11 : F11.FT) (x12 : F12.FT) (x13 : F13.FT) (x14 : F14.FT) (x15 : F15.FT) (x16 : F16.FT) (x17 : F17.FT) (x18 : F18.FT) (x19 : F19.FT) : G2 := fun deep ((r0_2, r1_2, r2_2, r3_2), ends) =>
    (x11 (r0_2, r1_2, r2_2, r3_2)).bind fun r0 =>
      bif decide (r0.fst < deep) then
        bif decide (0 + r0.snd.fst.length ≤ r0.snd.fst.length) && true then
          bif decide (0 + r0.snd.snd.snd.fst.length ≤ r0.snd.snd.snd.fst.length) && true then
            (x9
                  (List.take r0.snd.fst.length (List.drop 0 r0.snd.fst), r0.snd.snd.fst,
                    List.take r0.snd.snd.snd.fst.length (List.drop 0 r0.snd.snd.snd.fst), r0.snd.snd.snd.snd)).bind
              fun r1 =>
              bif
                  decide
                    (0 ≤ IntKind.i64.wrap ((↑ends.length : Int) - 1) ∧
                      IntKind.i64.wrap ((↑ends.length : Int) - 1) < (↑ends.length : Int) ∧ 0 < ends.length) then
                bif decide (0 + (IntKind.i64.wrap ((↑ends.length : Int) - 1)).toNat < ends.length) then
                  bif r1.fst != ends.getD (0 + (IntKind.i64.wrap ((↑ends.length : Int) - 1)).toNat) 0 then
                    some ((1, false, []), r1.snd)
                  else
                    bif
                        decide
                          (0 ≤ (some (IntKind.i64.wrap ((↑ends.length : Int) - 1))).getD (↑ends.length : Int) ∧
                            (some (IntKind.i64.wrap ((↑ends.length : Int) - 1))).getD (↑ends.length : Int) ≤
                                (↑ends.length : Int) ∧
                              0 + ends.length ≤ ends.length) then
                      bif
                          decide
                              (0 +
                                  ((some (IntKind.i64.wrap ((↑ends.length : Int) - 1))).getD (↑ends.length : Int)).toNat ≤
                                ends.length) &&
                            true then
                        some
                          ((0, false,
                              List.take
                                ((some (IntKind.i64.wrap ((↑ends.length : Int) - 1))).getD (↑ends.length : Int)).toNat
                                ends),
                            r1.snd)
                      else none
                    else none
                else none
              else none
          else none
        else none
      else
        bif decide (0 + ends.length ≤ ends.length) && true then some ((0, false, List.take ends.length ends), r0.snd)
        else none
theorem r2e (x8 : F8.FT) (x9 : F9.FT) (x10 : F10.FT) (x11 : F11.FT) (x12 : F12.FT) (x13 : F13.FT) (x14 : F14.FT) (x15 : F15.FT) (x16 : F16.FT) (x17 : F17.FT) (x18 : F18.FT) (x19 : F19.FT) (kd : Int) (d : (List (Int) × Int × List (Int) × Int) × List (Int)) : unitF (tabC Try.prog (tab x8 x9 x10 x11 x12 x13 x14 x15 x16 x17 x18 x19) (pls x8 x9 x10 x11 x12 x13 x14 x15 x16 x17 x18 x19) 100 12) 100 .none (u2 fun _ _ => none) (codeAt [1, 1, 1, 1, 0, 1, 0, 0, 1, 1, 0, 0, 1, 1, 1, 1, 1, 0] (bodyOf Try.prog 3)) kd d = r2P x8 x9 x10 x11 x12 x13 x14 x15 x16 x17 x18 x19 kd d := by kernel_rfl
noncomputable def r2 : G2 := r2P F8.f F9.f F10.f F11.f F12.f F13.f F14.f F15.f F16.f F17.f F18.f F19.f
noncomputable def l2 : G2 := r2
theorem ok2 : UnOk Try.prog (u2 l2) (codeAt [1, 1, 1, 1, 0, 1, 0, 0, 1, 1, 0, 0, 1, 1, 1, 1, 1, 0] (bodyOf Try.prog 3)) :=
  blockT (p := .none) (fuel := 100) (depth := 12) mixed tabS plsP trivial (fun kd d => r2e F8.f F9.f F10.f F11.f F12.f F13.f F14.f F15.f F16.f F17.f F18.f F19.f kd d)
def r3P (x8 : F8.FT) (x9 : F9.FT) (x10 : F10.FT) (x11 : F11.FT) (x12 : F12.FT) (x13 : F13.FT) (x14 : F14.FT) (x15 : F15.FT) (x16 : F16.FT) (x17 : F17.FT) (x18 : F18.FT) (x19 : F19.FT) : G3 := fun (ends, at0, was, deep) (r0_2, r1_2, r2_2, r3_2) =>
    bif decide (0 + r0_2.length ≤ r0_2.length) && true then
      bif decide (0 + r2_2.length ≤ r2_2.length) && true then
        (x9 (List.take r0_2.length r0_2, r1_2, List.take r2_2.length r2_2, r3_2)).bind fun r0 =>
          bif decide (r0.fst < at0) then some ((1, false), r0.snd)
          else
            (x9 r0.snd).bind fun r1 =>
              bif
                  decide
                    (0 ≤ IntKind.i64.wrap ((↑ends.length : Int) - 1) ∧
                      IntKind.i64.wrap ((↑ends.length : Int) - 1) < (↑ends.length : Int) ∧ 0 < ends.length) then
                bif decide (0 + (IntKind.i64.wrap ((↑ends.length : Int) - 1)).toNat < ends.length) then
                  bif decide (r1.fst > ends.getD (0 + (IntKind.i64.wrap ((↑ends.length : Int) - 1)).toNat) 0) then
                    some ((1, false), r1.snd)
                  else
                    (x11 r1.snd).bind fun r2 =>
                      bif r2.fst != IntKind.i64.wrap ((↑ends.length : Int) - 1) then some ((1, false), r2.snd)
                      else
                        bif was != 0 then
                          (x9 r2.snd).bind fun r3 =>
                            bif r3.fst != at0 then some ((1, false), r3.snd)
                            else
                              (x11 r3.snd).bind fun r4 =>
                                bif r4.fst != deep then some ((1, false), r4.snd)
                                else
                                  (x10 r4.snd).bind fun r5 =>
                                    bif r5.fst != was then some ((1, false), r5.snd)
                                    else
                                      (x19 r5.snd).bind fun r6 =>
                                        bif r6.fst != 0 then some ((1, false), r6.snd) else some ((0, false), r6.snd)
                        else some ((0, false), r2.snd)
                else none
              else none
      else none
    else none
theorem r3e (x8 : F8.FT) (x9 : F9.FT) (x10 : F10.FT) (x11 : F11.FT) (x12 : F12.FT) (x13 : F13.FT) (x14 : F14.FT) (x15 : F15.FT) (x16 : F16.FT) (x17 : F17.FT) (x18 : F18.FT) (x19 : F19.FT) (kd : List (Int) × Int × Int × Int) (d : (List (Int) × Int × List (Int) × Int)) : unitF (tabC Try.prog (tab x8 x9 x10 x11 x12 x13 x14 x15 x16 x17 x18 x19) (pls x8 x9 x10 x11 x12 x13 x14 x15 x16 x17 x18 x19) 100 12) 100 .none (u3 fun _ _ => none) (codeAt [1, 1, 1, 1, 0, 1, 0, 0, 1, 1, 0, 0, 1, 1, 1, 1, 1, 1, 0] (bodyOf Try.prog 3)) kd d = r3P x8 x9 x10 x11 x12 x13 x14 x15 x16 x17 x18 x19 kd d := by kernel_rfl
noncomputable def r3 : G3 := r3P F8.f F9.f F10.f F11.f F12.f F13.f F14.f F15.f F16.f F17.f F18.f F19.f
noncomputable def l3 : G3 := r3
theorem ok3 : UnOk Try.prog (u3 l3) (codeAt [1, 1, 1, 1, 0, 1, 0, 0, 1, 1, 0, 0, 1, 1, 1, 1, 1, 1, 0] (bodyOf Try.prog 3)) :=
  blockT (p := .none) (fuel := 100) (depth := 12) mixed tabS plsP trivial (fun kd d => r3e F8.f F9.f F10.f F11.f F12.f F13.f F14.f F15.f F16.f F17.f F18.f F19.f kd d)
def r4P (x8 : F8.FT) (x9 : F9.FT) (x10 : F10.FT) (x11 : F11.FT) (x12 : F12.FT) (x13 : F13.FT) (x14 : F14.FT) (x15 : F15.FT) (x16 : F16.FT) (x17 : F17.FT) (x18 : F18.FT) (x19 : F19.FT) : G4 := fun (b, (a0, a1), at0) ((r0_2, r1_2, r2_2, r3_2), got) =>
    (x9 (r0_2, r1_2, r2_2, r3_2)).bind fun r0 =>
      bif decide (a0 < 5) then
        bif decide (IntKind.i64.wrap (r0.fst - at0) > 0) then
          (x9 r0.snd).bind fun r1 =>
            bif
                decide
                  (0 ≤ at0 ∧
                    at0 ≤ (some r1.fst).getD (↑b.length : Int) ∧
                      (some r1.fst).getD (↑b.length : Int) ≤ (↑b.length : Int) ∧ 0 + b.length ≤ b.length) then
              bif decide (0 + at0.toNat + ((some r1.fst).getD (↑b.length : Int) - at0).toNat ≤ b.length) then
                bif decide (0 + got.length ≤ got.length) then
                  bif
                      decide
                        (0 + ((some r1.fst).getD (↑b.length : Int) - at0).toNat ≤
                          (List.take ((some r1.fst).getD (↑b.length : Int) - at0).toNat
                              (List.drop (0 + at0.toNat) b)).length) then
                    bif
                        !(ByteArray.mk
                                (Array.mk (List.map (fun n => UInt8.ofNat n.toNat) (List.take got.length got)))).toList ==
                            (ByteArray.mk
                                (Array.mk
                                  (List.map (fun n => UInt8.ofNat n.toNat)
                                    (List.take ((some r1.fst).getD (↑b.length : Int) - at0).toNat
                                      (List.drop 0
                                        (List.take ((some r1.fst).getD (↑b.length : Int) - at0).toNat
                                          (List.drop (0 + at0.toNat) b))))))).toList then
                      some ((1, false), r1.snd)
                    else some ((0, false), r1.snd)
                  else none
                else none
              else none
            else none
        else some ((0, false), r0.snd)
      else some ((0, false), r0.snd)
theorem r4e (x8 : F8.FT) (x9 : F9.FT) (x10 : F10.FT) (x11 : F11.FT) (x12 : F12.FT) (x13 : F13.FT) (x14 : F14.FT) (x15 : F15.FT) (x16 : F16.FT) (x17 : F17.FT) (x18 : F18.FT) (x19 : F19.FT) (kd : List (Int) × (Int × Int) × Int) (d : (List (Int) × Int × List (Int) × Int) × List (Int)) : unitF (tabC Try.prog (tab x8 x9 x10 x11 x12 x13 x14 x15 x16 x17 x18 x19) (pls x8 x9 x10 x11 x12 x13 x14 x15 x16 x17 x18 x19) 100 12) 100 .none (u4 fun _ _ => none) (codeAt [1, 1, 1, 1, 0, 1, 0, 0, 1, 1, 0, 0, 1, 1, 1, 1, 1, 1, 1, 0] (bodyOf Try.prog 3)) kd d = r4P x8 x9 x10 x11 x12 x13 x14 x15 x16 x17 x18 x19 kd d := by kernel_rfl
noncomputable def r4 : G4 := r4P F8.f F9.f F10.f F11.f F12.f F13.f F14.f F15.f F16.f F17.f F18.f F19.f
noncomputable def l4 : G4 := r4
theorem ok4 : UnOk Try.prog (u4 l4) (codeAt [1, 1, 1, 1, 0, 1, 0, 0, 1, 1, 0, 0, 1, 1, 1, 1, 1, 1, 1, 0] (bodyOf Try.prog 3)) :=
  blockT (p := .none) (fuel := 100) (depth := 12) mixed tabS plsP trivial (fun kd d => r4e F8.f F9.f F10.f F11.f F12.f F13.f F14.f F15.f F16.f F17.f F18.f F19.f kd d)
def r5P (x8 : F8.FT) (x9 : F9.FT) (x10 : F10.FT) (x11 : F11.FT) (x12 : F12.FT) (x13 : F13.FT) (x14 : F14.FT) (x15 : F15.FT) (x16 : F16.FT) (x17 : F17.FT) (x18 : F18.FT) (x19 : F19.FT) : G5 := fun ends (r0_2, r1_2, r2_2, r3_2) =>
    bif decide (0 + r0_2.length ≤ r0_2.length) && true then
      bif decide (0 + r2_2.length ≤ r2_2.length) && true then
        (x10 (List.take r0_2.length r0_2, r1_2, List.take r2_2.length r2_2, r3_2)).bind fun r0 =>
          bif r0.fst == 0 then
            (x19 r0.snd).bind fun r1 =>
              bif
                  decide
                    (0 ≤ IntKind.i64.wrap ((↑ends.length : Int) - 1) ∧
                      IntKind.i64.wrap ((↑ends.length : Int) - 1) < (↑ends.length : Int) ∧ 0 < ends.length) then
                bif decide (0 + (IntKind.i64.wrap ((↑ends.length : Int) - 1)).toNat < ends.length) then
                  (x9 r1.snd).bind fun r2 =>
                    bif
                        r1.fst !=
                          IntKind.i64.wrap
                            (ends.getD (0 + (IntKind.i64.wrap ((↑ends.length : Int) - 1)).toNat) 0 - r2.fst) then
                      some ((1, false), r2.snd)
                    else some ((0, false), r2.snd)
                else none
              else none
          else some ((0, false), r0.snd)
      else none
    else none
theorem r5e (x8 : F8.FT) (x9 : F9.FT) (x10 : F10.FT) (x11 : F11.FT) (x12 : F12.FT) (x13 : F13.FT) (x14 : F14.FT) (x15 : F15.FT) (x16 : F16.FT) (x17 : F17.FT) (x18 : F18.FT) (x19 : F19.FT) (kd : List (Int)) (d : (List (Int) × Int × List (Int) × Int)) : unitF (tabC Try.prog (tab x8 x9 x10 x11 x12 x13 x14 x15 x16 x17 x18 x19) (pls x8 x9 x10 x11 x12 x13 x14 x15 x16 x17 x18 x19) 100 12) 100 .none (u5 fun _ _ => none) (codeAt [1, 1, 1, 1, 0, 1, 0, 0, 1, 1, 0, 0, 1, 1, 1, 1, 1, 1, 1, 1] (bodyOf Try.prog 3)) kd d = r5P x8 x9 x10 x11 x12 x13 x14 x15 x16 x17 x18 x19 kd d := by kernel_rfl
noncomputable def r5 : G5 := r5P F8.f F9.f F10.f F11.f F12.f F13.f F14.f F15.f F16.f F17.f F18.f F19.f
noncomputable def l5 : G5 := r5
theorem ok5 : UnOk Try.prog (u5 l5) (codeAt [1, 1, 1, 1, 0, 1, 0, 0, 1, 1, 0, 0, 1, 1, 1, 1, 1, 1, 1, 1] (bodyOf Try.prog 3)) :=
  blockT (p := .none) (fuel := 100) (depth := 12) mixed tabS plsP trivial (fun kd d => r5e F8.f F9.f F10.f F11.f F12.f F13.f F14.f F15.f F16.f F17.f F18.f F19.f kd d)
def r6P (x8 : F8.FT) (x9 : F9.FT) (x10 : F10.FT) (x11 : F11.FT) (x12 : F12.FT) (x13 : F13.FT) (x14 : F14.FT) (x15 : F15.FT) (x16 : F16.FT) (x17 : F17.FT) (x18 : F18.FT) (x19 : F19.FT) (l1 : G1) (l2 : G2) (l3 : G3) (l4 : G4) (l5 : G5) : (List (Int) × (List (Int × Int)) × Int) → ((List (Int) × Int × List (Int) × Int) × List (Int) × Int) → Option (((List (Int) × Int × List (Int) × Int) × List (Int) × Int) ⊕ ((Int × Bool) × ((List (Int) × Int × List (Int) × Int)))) := fun (b, t24, t25) ((r0_2, r1_2, r2_2, r3_2), ends, t26) =>
    bif decide (t26 < t25) then
      bif decide (0 ≤ t26 ∧ t26 < (↑t24.length : Int) ∧ 0 < t24.length) then
        bif decide (0 + t26.toNat < t24.length) then
          bif t26 == 60 then some (Sum.inr ((0, false), r0_2, r1_2, r2_2, r3_2))
          else
            (x9 (r0_2, r1_2, r2_2, r3_2)).bind fun r0 =>
              (x10 r0.snd).bind fun r1 =>
                (x11 r1.snd).bind fun r2 =>
                  bif decide (0 + ends.length ≤ ends.length) && true then
                    (l1
                          (((t24.getD (0 + t26.toNat) (0, 0)).fst, (t24.getD (0 + t26.toNat) (0, 0)).snd), r0.fst, r2.fst,
                            (t24.getD (0 + t26.toNat) (0, 0)).fst)
                          (r2.snd, List.take ends.length ends, [])).bind
                      fun r3 =>
                      bif decide (0 + r3.fst.fst.length ≤ r3.fst.fst.length) && true then
                        (l2 r2.fst (r3.snd, List.take r3.fst.fst.length (List.drop 0 r3.fst.fst))).bind fun r4 =>
                          bif decide (r4.fst.fst = 0) then
                            bif decide (0 + List.length r4.fst.snd.snd ≤ List.length r4.fst.snd.snd) && true then
                              (l3
                                    (List.take (List.length r4.fst.snd.snd) (List.drop 0 r4.fst.snd.snd), r0.fst, r1.fst,
                                      r2.fst)
                                    r4.snd).bind
                                fun r5 =>
                                bif decide (r5.fst.fst = 0) then
                                  bif decide (0 + b.length ≤ b.length) && true then
                                    bif decide (0 + List.length r3.fst.snd ≤ List.length r3.fst.snd) && true then
                                      (l4
                                            (List.take b.length b,
                                              ((t24.getD (0 + t26.toNat) (0, 0)).fst,
                                                (t24.getD (0 + t26.toNat) (0, 0)).snd),
                                              r0.fst)
                                            (r5.snd, List.take (List.length r3.fst.snd) (List.drop 0 r3.fst.snd))).bind
                                        fun r6 =>
                                        bif decide (r6.fst.fst = 0) then
                                          bif
                                              decide (0 + List.length r4.fst.snd.snd ≤ List.length r4.fst.snd.snd) &&
                                                true then
                                            (l5 (List.take (List.length r4.fst.snd.snd) (List.drop 0 r4.fst.snd.snd))
                                                  r6.snd).bind
                                              fun r7 =>
                                              bif decide (r7.fst.fst = 0) then
                                                bif
                                                    decide
                                                        (0 + List.length r4.fst.snd.snd ≤ List.length r4.fst.snd.snd) &&
                                                      true then
                                                  some
                                                    (Sum.inl
                                                      (r7.snd,
                                                        List.take (List.length r4.fst.snd.snd)
                                                          (List.drop 0 r4.fst.snd.snd),
                                                        IntKind.i64.wrap (t26 + 1)))
                                                else none
                                              else
                                                bif decide (r7.fst.fst = 1) then some (Sum.inr ((1, r7.fst.snd), r7.snd))
                                                else none
                                          else none
                                        else
                                          bif decide (r6.fst.fst = 1) then some (Sum.inr ((1, r6.fst.snd), r6.snd))
                                          else none
                                    else none
                                  else none
                                else bif decide (r5.fst.fst = 1) then some (Sum.inr ((1, r5.fst.snd), r5.snd)) else none
                            else none
                          else bif decide (r4.fst.fst = 1) then some (Sum.inr ((1, r4.fst.snd.fst), r4.snd)) else none
                      else none
                  else none
        else none
      else none
    else some (Sum.inr ((0, false), r0_2, r1_2, r2_2, r3_2))
theorem r6e (x8 : F8.FT) (x9 : F9.FT) (x10 : F10.FT) (x11 : F11.FT) (x12 : F12.FT) (x13 : F13.FT) (x14 : F14.FT) (x15 : F15.FT) (x16 : F16.FT) (x17 : F17.FT) (x18 : F18.FT) (x19 : F19.FT) (l1 : G1) (l2 : G2) (l3 : G3) (l4 : G4) (l5 : G5) (kd : List (Int) × (List (Int × Int)) × Int) (d : (List (Int) × Int × List (Int) × Int) × List (Int) × Int) : roundF (tabC Try.prog (tab x8 x9 x10 x11 x12 x13 x14 x15 x16 x17 x18 x19) (pls x8 x9 x10 x11 x12 x13 x14 x15 x16 x17 x18 x19) 100 12) 100 (.node .none (.node .none (.node (.node (.node .none (.node .none (.node .none (.node .none (.node (.node .none (.unit (u1 l1))) (.node (.unit (u2 l2)) (.node (.unit (u3 l3)) (.node (.unit (u4 l4)) (.unit (u5 l5)))))))))) .none) .none))) (u6 fun _ _ => none) (codeAt [1, 1, 1, 1, 0, 1, 0, 0] (bodyOf Try.prog 3)) kd d = r6P x8 x9 x10 x11 x12 x13 x14 x15 x16 x17 x18 x19 l1 l2 l3 l4 l5 kd d := by kernel_rfl
noncomputable def r6 : (List (Int) × (List (Int × Int)) × Int) → ((List (Int) × Int × List (Int) × Int) × List (Int) × Int) → Option (((List (Int) × Int × List (Int) × Int) × List (Int) × Int) ⊕ ((Int × Bool) × ((List (Int) × Int × List (Int) × Int)))) := r6P F8.f F9.f F10.f F11.f F12.f F13.f F14.f F15.f F16.f F17.f F18.f F19.f l1 l2 l3 l4 l5
noncomputable def l6 : G6 := fun kd d => iterO (r6 kd) d
theorem ok6 : UnOk Try.prog (u6 l6) (codeAt [1, 1, 1, 1, 0, 1, 0] (bodyOf Try.prog 3)) :=
  loopT (p := (.node .none (.node .none (.node (.node (.node .none (.node .none (.node .none (.node .none (.node (.node .none (.unit (u1 l1))) (.node (.unit (u2 l2)) (.node (.unit (u3 l3)) (.node (.unit (u4 l4)) (.unit (u5 l5)))))))))) .none) .none)))) (c := codeAt [1, 1, 1, 1, 0, 1, 0, 0] (bodyOf Try.prog 3)) (fuel := 100) (depth := 12) mixed tabS plsP (by kernel_rfl) (planOk_of (.node .none (.node .none (.node (.node (.node .none (.node .none (.node .none (.node .none (.node (.node .none (.unit (u1 l1))) (.node (.unit (u2 l2)) (.node (.unit (u3 l3)) (.node (.unit (u4 l4)) (.unit (u5 l5)))))))))) .none) .none))) _ [([1, 1, 0, 0, 1, 1, 1, 1, 0, 1], u1 l1), ([1, 1, 0, 0, 1, 1, 1, 1, 1, 0], u2 l2), ([1, 1, 0, 0, 1, 1, 1, 1, 1, 1, 0], u3 l3), ([1, 1, 0, 0, 1, 1, 1, 1, 1, 1, 1, 0], u4 l4), ([1, 1, 0, 0, 1, 1, 1, 1, 1, 1, 1, 1], u5 l5)] rfl ⟨ok1, ok2, ok3, ok4, ok5, trivial⟩) (by kernel_rfl) (fun kd d => r6e F8.f F9.f F10.f F11.f F12.f F13.f F14.f F15.f F16.f F17.f F18.f F19.f l1 l2 l3 l4 l5 kd d) rfl
def fP (x8 : F8.FT) (x9 : F9.FT) (x10 : F10.FT) (x11 : F11.FT) (x12 : F12.FT) (x13 : F13.FT) (x14 : F14.FT) (x15 : F15.FT) (x16 : F16.FT) (x17 : F17.FT) (x18 : F18.FT) (x19 : F19.FT) (l6 : G6) : FT := fun (b, l) =>
    bif
        decide
          (0 ≤ (some (if 100 < (↑b.length : Int) then 100 else (↑b.length : Int))).getD (↑b.length : Int) ∧
            (some (if 100 < (↑b.length : Int) then 100 else (↑b.length : Int))).getD (↑b.length : Int) ≤
                (↑b.length : Int) ∧
              0 + b.length ≤ b.length) then
      bif
          decide
              (0 + ((some (if 100 < (↑b.length : Int) then 100 else (↑b.length : Int))).getD (↑b.length : Int)).toNat ≤
                b.length) &&
            true then
        (x8
              (List.take
                ((some (if 100 < (↑b.length : Int) then 100 else (↑b.length : Int))).getD (↑b.length : Int)).toNat
                b)).bind
          fun r0 =>
          bif
              decide
                  (0 +
                      ((some (if 100 < (↑b.length : Int) then 100 else (↑b.length : Int))).getD (↑b.length : Int)).toNat ≤
                    b.length) &&
                true then
            bif decide (0 + l.length ≤ l.length) && true then
              (l6
                    (List.take
                        ((some (if 100 < (↑b.length : Int) then 100 else (↑b.length : Int))).getD (↑b.length : Int)).toNat
                        b,
                      List.take l.length l, (↑l.length : Int))
                    (r0.fst,
                      [(↑((some (if 100 < (↑b.length : Int) then 100 else (↑b.length : Int))).getD
                                (↑b.length : Int)).toNat :
                          Int)],
                      0)).bind
                fun r1 =>
                bif decide (r1.fst.fst = 0) then some (true, PUnit.unit)
                else bif decide (r1.fst.fst = 1) then some (r1.fst.snd, PUnit.unit) else none
            else none
          else none
      else none
    else none
theorem fe (x8 : F8.FT) (x9 : F9.FT) (x10 : F10.FT) (x11 : F11.FT) (x12 : F12.FT) (x13 : F13.FT) (x14 : F14.FT) (x15 : F15.FT) (x16 : F16.FT) (x17 : F17.FT) (x18 : F18.FT) (x19 : F19.FT) (l6 : G6) (d : List (Int) × (List (Int × Int))) : bodyF (tabC Try.prog (tab x8 x9 x10 x11 x12 x13 x14 x15 x16 x17 x18 x19) ((3, (.node .none (.node .none (.node .none (.node .none (.node (.node .none (.node (.unit (u6 l6)) .none)) .none)))))) :: pls x8 x9 x10 x11 x12 x13 x14 x15 x16 x17 x18 x19) 100 12) 100 3 i o d = fP x8 x9 x10 x11 x12 x13 x14 x15 x16 x17 x18 x19 l6 d := by kernel_rfl
noncomputable def f : FT := fP F8.f F9.f F10.f F11.f F12.f F13.f F14.f F15.f F16.f F17.f F18.f F19.f l6
def plan (l6 : G6) : Plan := (.node .none (.node .none (.node .none (.node .none (.node (.node .none (.node (.unit (u6 l6)) .none)) .none)))))
theorem planOk : PlanOk Try.prog (plan l6) (bodyOf Try.prog 3) := (planOk_of (plan l6) _ [([1, 1, 1, 1, 0, 1, 0], u6 l6)] rfl ⟨ok6, trivial⟩)
theorem meets : MeetsF Try.prog 3 ⟨i, o, f⟩ :=
  funcT (fuel := 100) (depth := 12) (pl := (3, plan l6) :: pls F8.f F9.f F10.f F11.f F12.f F13.f F14.f F15.f F16.f F17.f F18.f F19.f) mixed tabS ⟨planOk, plsP⟩ (fun d => fe F8.f F9.f F10.f F11.f F12.f F13.f F14.f F15.f F16.f F17.f F18.f F19.f l6 d)
theorem spec : SpecOk Try.prog (fun _ => none) 3 (specF ⟨i, o, f⟩) := specF_ok (by kernel_rfl) meets
end Go.Proofs.Ytkleakkhbfdipaa.F3
