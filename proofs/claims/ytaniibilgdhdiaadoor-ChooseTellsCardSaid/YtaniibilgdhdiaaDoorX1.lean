/- What comes of function 20 of this program, cmp.Compare[uint32], as the engine gives it. -/
import Derived.Test.YtaniibilgdhdiaaDoorChecked
import Derived.Test.YtaniibilgdhdiaaDoorZN
import Derived.Test.YtaniibilgdhdiaaDoorZO
namespace Go.Proofs.YtaniibilgdhdiaaDoor.F20
open Go Go.Proofs Go.Proofs.YtaniibilgdhdiaaDoor Go.RowKit Go.Proofs.YtaniibilgdhdiaaDoor.Sx
set_option linter.unusedVariables false
set_option maxRecDepth 100000
def tab : List (FuncId × Sx.Spec) := []
def pls : List (FuncId × Plan) := []
@[reducible] def i : Sh := .sc (.int .u32) (.sc (.int .u32) .nil)
@[reducible] def o : Sh := .sc (.int .i64) .nil
abbrev FT := (Int × Int) → Option (Int × Unit)
theorem tabS : AllS Tryd.prog (tab) := trivial
theorem plsP : AllP Tryd.prog (pls) := trivial
theorem mixed : Tryd.prog.follows .mixedOrders = true := by kernel_rfl
def fP : FT := fun (x, y) =>
    bif x != x then bif y != y then some (0, PUnit.unit) else some (-1, PUnit.unit)
    else
      bif y != y then some (1, PUnit.unit)
      else
       bif decide (x < y) then some (-1, PUnit.unit)
       else bif decide (x > y) then some (1, PUnit.unit) else some (0, PUnit.unit)
theorem fe (d : Int × Int) : bodyF (tabC Tryd.prog (tab) ((20, .none) :: pls) 100 10) 100 20 i o d = fP d := by kernel_rfl
noncomputable def f : FT := fP
def plan : Plan := .none
theorem planOk : PlanOk Tryd.prog (plan) (bodyOf Tryd.prog 20) := (planOk_of (plan) _ [] (by kernel_rfl) trivial)
theorem meets : MeetsF Tryd.prog 20 ⟨i, o, f⟩ :=
  funcT (fuel := 100) (depth := 10) (pl := (20, plan) :: pls) mixed tabS ⟨planOk, plsP⟩ (fun d => fe  d)
theorem spec : SpecOk Tryd.prog (fun _ => none) 20 (specF ⟨i, o, f⟩) := specF_ok (by kernel_rfl) meets
end Go.Proofs.YtaniibilgdhdiaaDoor.F20

/- What comes of function 21 of this program, cmp.Compare[int], as the engine gives it. -/
namespace Go.Proofs.YtaniibilgdhdiaaDoor.F21
open Go Go.Proofs Go.Proofs.YtaniibilgdhdiaaDoor Go.RowKit Go.Proofs.YtaniibilgdhdiaaDoor.Sx
set_option linter.unusedVariables false
set_option maxRecDepth 100000
def tab : List (FuncId × Sx.Spec) := []
def pls : List (FuncId × Plan) := []
@[reducible] def i : Sh := .sc (.int .i64) (.sc (.int .i64) .nil)
@[reducible] def o : Sh := .sc (.int .i64) .nil
abbrev FT := (Int × Int) → Option (Int × Unit)
theorem tabS : AllS Tryd.prog (tab) := trivial
theorem plsP : AllP Tryd.prog (pls) := trivial
theorem mixed : Tryd.prog.follows .mixedOrders = true := by kernel_rfl
def fP : FT := fun (x, y) =>
    bif x != x then bif y != y then some (0, PUnit.unit) else some (-1, PUnit.unit)
    else
      bif y != y then some (1, PUnit.unit)
      else
       bif decide (x < y) then some (-1, PUnit.unit)
       else bif decide (x > y) then some (1, PUnit.unit) else some (0, PUnit.unit)
theorem fe (d : Int × Int) : bodyF (tabC Tryd.prog (tab) ((21, .none) :: pls) 100 10) 100 21 i o d = fP d := by kernel_rfl
noncomputable def f : FT := fP
def plan : Plan := .none
theorem planOk : PlanOk Tryd.prog (plan) (bodyOf Tryd.prog 21) := (planOk_of (plan) _ [] (by kernel_rfl) trivial)
theorem meets : MeetsF Tryd.prog 21 ⟨i, o, f⟩ :=
  funcT (fuel := 100) (depth := 10) (pl := (21, plan) :: pls) mixed tabS ⟨planOk, plsP⟩ (fun d => fe  d)
theorem spec : SpecOk Tryd.prog (fun _ => none) 21 (specF ⟨i, o, f⟩) := specF_ok (by kernel_rfl) meets
end Go.Proofs.YtaniibilgdhdiaaDoor.F21

/- What comes of function 22 of this program, cmp.Compare[byte], as the engine gives it. -/
namespace Go.Proofs.YtaniibilgdhdiaaDoor.F22
open Go Go.Proofs Go.Proofs.YtaniibilgdhdiaaDoor Go.RowKit Go.Proofs.YtaniibilgdhdiaaDoor.Sx
set_option linter.unusedVariables false
set_option maxRecDepth 100000
def tab : List (FuncId × Sx.Spec) := []
def pls : List (FuncId × Plan) := []
@[reducible] def i : Sh := .sc (.int .u8) (.sc (.int .u8) .nil)
@[reducible] def o : Sh := .sc (.int .i64) .nil
abbrev FT := (Int × Int) → Option (Int × Unit)
theorem tabS : AllS Tryd.prog (tab) := trivial
theorem plsP : AllP Tryd.prog (pls) := trivial
theorem mixed : Tryd.prog.follows .mixedOrders = true := by kernel_rfl
def fP : FT := fun (x, y) =>
    bif x != x then bif y != y then some (0, PUnit.unit) else some (-1, PUnit.unit)
    else
      bif y != y then some (1, PUnit.unit)
      else
       bif decide (x < y) then some (-1, PUnit.unit)
       else bif decide (x > y) then some (1, PUnit.unit) else some (0, PUnit.unit)
theorem fe (d : Int × Int) : bodyF (tabC Tryd.prog (tab) ((22, .none) :: pls) 100 10) 100 22 i o d = fP d := by kernel_rfl
noncomputable def f : FT := fP
def plan : Plan := .none
theorem planOk : PlanOk Tryd.prog (plan) (bodyOf Tryd.prog 22) := (planOk_of (plan) _ [] (by kernel_rfl) trivial)
theorem meets : MeetsF Tryd.prog 22 ⟨i, o, f⟩ :=
  funcT (fuel := 100) (depth := 10) (pl := (22, plan) :: pls) mixed tabS ⟨planOk, plsP⟩ (fun d => fe  d)
theorem spec : SpecOk Tryd.prog (fun _ => none) 22 (specF ⟨i, o, f⟩) := specF_ok (by kernel_rfl) meets
end Go.Proofs.YtaniibilgdhdiaaDoor.F22

/- What comes of function 23 of this program, consulate.choose.class, as the engine gives it. -/
namespace Go.Proofs.YtaniibilgdhdiaaDoor.F23
open Go Go.Proofs Go.Proofs.YtaniibilgdhdiaaDoor Go.RowKit Go.Proofs.YtaniibilgdhdiaaDoor.Sx
set_option linter.unusedVariables false
set_option maxRecDepth 100000
def tab : List (FuncId × Sx.Spec) := []
def pls : List (FuncId × Plan) := []
@[reducible] def i : Sh := .sc (.int .i64) .nil
@[reducible] def o : Sh := .sc (.int .i64) .nil
abbrev FT := Int → Option (Int × Unit)
theorem tabS : AllS Tryd.prog (tab) := trivial
theorem plsP : AllP Tryd.prog (pls) := trivial
theorem mixed : Tryd.prog.follows .mixedOrders = true := by kernel_rfl
def fP : FT := fun n =>
    bif n == 0 then some (0, PUnit.unit)
    else
      bif n == 3 then some (1, PUnit.unit)
      else bif n == 2 then some (2, PUnit.unit) else bif n == 1 then some (2, PUnit.unit) else some (3, PUnit.unit)
theorem fe (d : Int) : bodyF (tabC Tryd.prog (tab) ((23, .none) :: pls) 100 10) 100 23 i o d = fP d := by kernel_rfl
noncomputable def f : FT := fP
def plan : Plan := .none
theorem planOk : PlanOk Tryd.prog (plan) (bodyOf Tryd.prog 23) := (planOk_of (plan) _ [] (by kernel_rfl) trivial)
theorem meets : MeetsF Tryd.prog 23 ⟨i, o, f⟩ :=
  funcT (fuel := 100) (depth := 10) (pl := (23, plan) :: pls) mixed tabS ⟨planOk, plsP⟩ (fun d => fe  d)
theorem spec : SpecOk Tryd.prog (fun _ => none) 23 (specF ⟨i, o, f⟩) := specF_ok (by kernel_rfl) meets
end Go.Proofs.YtaniibilgdhdiaaDoor.F23

/- What comes of function 24 of this program, cmp.Compare[int64], as the engine gives it. -/
namespace Go.Proofs.YtaniibilgdhdiaaDoor.F24
open Go Go.Proofs Go.Proofs.YtaniibilgdhdiaaDoor Go.RowKit Go.Proofs.YtaniibilgdhdiaaDoor.Sx
set_option linter.unusedVariables false
set_option maxRecDepth 100000
def tab : List (FuncId × Sx.Spec) := []
def pls : List (FuncId × Plan) := []
@[reducible] def i : Sh := .sc (.int .i64) (.sc (.int .i64) .nil)
@[reducible] def o : Sh := .sc (.int .i64) .nil
abbrev FT := (Int × Int) → Option (Int × Unit)
theorem tabS : AllS Tryd.prog (tab) := trivial
theorem plsP : AllP Tryd.prog (pls) := trivial
theorem mixed : Tryd.prog.follows .mixedOrders = true := by kernel_rfl
def fP : FT := fun (x, y) =>
    bif x != x then bif y != y then some (0, PUnit.unit) else some (-1, PUnit.unit)
    else
      bif y != y then some (1, PUnit.unit)
      else
       bif decide (x < y) then some (-1, PUnit.unit)
       else bif decide (x > y) then some (1, PUnit.unit) else some (0, PUnit.unit)
theorem fe (d : Int × Int) : bodyF (tabC Tryd.prog (tab) ((24, .none) :: pls) 100 10) 100 24 i o d = fP d := by kernel_rfl
noncomputable def f : FT := fP
def plan : Plan := .none
theorem planOk : PlanOk Tryd.prog (plan) (bodyOf Tryd.prog 24) := (planOk_of (plan) _ [] (by kernel_rfl) trivial)
theorem meets : MeetsF Tryd.prog 24 ⟨i, o, f⟩ :=
  funcT (fuel := 100) (depth := 10) (pl := (24, plan) :: pls) mixed tabS ⟨planOk, plsP⟩ (fun d => fe  d)
theorem spec : SpecOk Tryd.prog (fun _ => none) 24 (specF ⟨i, o, f⟩) := specF_ok (by kernel_rfl) meets
end Go.Proofs.YtaniibilgdhdiaaDoor.F24

/- What comes of function 25 of this program, cmp.Compare[consulate.api.IP], as the engine gives it. -/
namespace Go.Proofs.YtaniibilgdhdiaaDoor.F25
open Go Go.Proofs Go.Proofs.YtaniibilgdhdiaaDoor Go.RowKit Go.Proofs.YtaniibilgdhdiaaDoor.Sx
set_option linter.unusedVariables false
set_option maxRecDepth 100000
def tab : List (FuncId × Sx.Spec) := []
def pls : List (FuncId × Plan) := []
@[reducible] def i : Sh := .sc (.int .u32) (.sc (.int .u32) .nil)
@[reducible] def o : Sh := .sc (.int .i64) .nil
abbrev FT := (Int × Int) → Option (Int × Unit)
theorem tabS : AllS Tryd.prog (tab) := trivial
theorem plsP : AllP Tryd.prog (pls) := trivial
theorem mixed : Tryd.prog.follows .mixedOrders = true := by kernel_rfl
def fP : FT := fun (x, y) =>
    bif x != x then bif y != y then some (0, PUnit.unit) else some (-1, PUnit.unit)
    else
      bif y != y then some (1, PUnit.unit)
      else
       bif decide (x < y) then some (-1, PUnit.unit)
       else bif decide (x > y) then some (1, PUnit.unit) else some (0, PUnit.unit)
theorem fe (d : Int × Int) : bodyF (tabC Tryd.prog (tab) ((25, .none) :: pls) 100 10) 100 25 i o d = fP d := by kernel_rfl
noncomputable def f : FT := fP
def plan : Plan := .none
theorem planOk : PlanOk Tryd.prog (plan) (bodyOf Tryd.prog 25) := (planOk_of (plan) _ [] (by kernel_rfl) trivial)
theorem meets : MeetsF Tryd.prog 25 ⟨i, o, f⟩ :=
  funcT (fuel := 100) (depth := 10) (pl := (25, plan) :: pls) mixed tabS ⟨planOk, plsP⟩ (fun d => fe  d)
theorem spec : SpecOk Tryd.prog (fun _ => none) 25 (specF ⟨i, o, f⟩) := specF_ok (by kernel_rfl) meets
end Go.Proofs.YtaniibilgdhdiaaDoor.F25

/- What comes of function 7 of this program, consulate.choose.Compare, as the engine gives it. -/
namespace Go.Proofs.YtaniibilgdhdiaaDoor.F7
open Go Go.Proofs Go.Proofs.YtaniibilgdhdiaaDoor Go.RowKit Go.Proofs.YtaniibilgdhdiaaDoor.Sx
set_option linter.unusedVariables false
set_option maxRecDepth 100000
def tab (x20 : F20.FT) (x21 : F21.FT) (x22 : F22.FT) (x23 : F23.FT) (x24 : F24.FT) (x25 : F25.FT) : List (FuncId × Sx.Spec) := [(20, specF ⟨F20.i, F20.o, x20⟩), (21, specF ⟨F21.i, F21.o, x21⟩), (22, specF ⟨F22.i, F22.o, x22⟩), (23, specF ⟨F23.i, F23.o, x23⟩), (24, specF ⟨F24.i, F24.o, x24⟩), (25, specF ⟨F25.i, F25.o, x25⟩)]
def pls (x20 : F20.FT) (x21 : F21.FT) (x22 : F22.FT) (x23 : F23.FT) (x24 : F24.FT) (x25 : F25.FT) : List (FuncId × Plan) := []
@[reducible] def i : Sh := .ag none (.sc (.int .u32) (.sc (.int .i64) (.sc (.int .u8) (.sc (.int .u32) (.sc (.int .u32) (.sc (.int .i64) (.sc (.int .i64) (.sc (.int .u32) (.sc (.int .i64) .nil))))))))) (.ag none (.sc (.int .u32) (.sc (.int .i64) (.sc (.int .u8) (.sc (.int .u32) (.sc (.int .u32) (.sc (.int .i64) (.sc (.int .i64) (.sc (.int .u32) (.sc (.int .i64) .nil))))))))) (.sc .bool .nil))
@[reducible] def o : Sh := .sc (.int .i64) (.sc (.int .i64) .nil)
abbrev FT := ((Int × Int × Int × Int × Int × Int × Int × Int × Int) × (Int × Int × Int × Int × Int × Int × Int × Int × Int) × Bool) → Option ((Int × Int) × Unit)
theorem tabS : AllS Tryd.prog (tab F20.f F21.f F22.f F23.f F24.f F25.f) := ⟨F20.spec, F21.spec, F22.spec, F23.spec, F24.spec, F25.spec, trivial⟩
theorem plsP : AllP Tryd.prog (pls F20.f F21.f F22.f F23.f F24.f F25.f) := trivial
theorem mixed : Tryd.prog.follows .mixedOrders = true := by kernel_rfl
def fP (x20 : F20.FT) (x21 : F21.FT) (x22 : F22.FT) (x23 : F23.FT) (x24 : F24.FT) (x25 : F25.FT) : FT := fun ((a0, a1, a2, a3, a4, a5, a6, a7, a8), (b0, b1, b2, b3, b4, b5, b6, b7, b8), med) =>
    (x20 (b0, a0)).bind fun r0 =>
      (x21 (a1, b1)).bind fun r1 =>
       (x22 (a2, b2)).bind fun r2 =>
       (x20 (a3, b3)).bind fun r3 =>
       (x23 a5).bind fun r4 =>
       (x23 b5).bind fun r5 =>
       (x21 (r4.fst, r5.fst)).bind fun r6 =>
       (x24 (a6, b6)).bind fun r7 =>
       (x25 (a7, b7)).bind fun r8 =>
       (x21 (a8, b8)).bind fun r9 =>
       bif !med then
       bif r0.fst != 0 then some ((r0.fst, 1), PUnit.unit)
       else
       bif r1.fst != 0 then some ((r1.fst, 2), PUnit.unit)
       else
       bif r2.fst != 0 then some ((r2.fst, 3), PUnit.unit)
       else
       bif r6.fst != 0 then some ((r6.fst, 5), PUnit.unit)
       else
       bif r7.fst != 0 then some ((r7.fst, 6), PUnit.unit)
       else
       bif r8.fst != 0 then some ((r8.fst, 7), PUnit.unit)
       else
       bif r9.fst != 0 then some ((r9.fst, 8), PUnit.unit) else some ((0, 0), PUnit.unit)
       else
       bif a4 != b4 then
       bif r0.fst != 0 then some ((r0.fst, 1), PUnit.unit)
       else
       bif r1.fst != 0 then some ((r1.fst, 2), PUnit.unit)
       else
       bif r2.fst != 0 then some ((r2.fst, 3), PUnit.unit)
       else
       bif r6.fst != 0 then some ((r6.fst, 5), PUnit.unit)
       else
       bif r7.fst != 0 then some ((r7.fst, 6), PUnit.unit)
       else
       bif r8.fst != 0 then some ((r8.fst, 7), PUnit.unit)
       else
       bif r9.fst != 0 then some ((r9.fst, 8), PUnit.unit) else some ((0, 0), PUnit.unit)
       else
       bif r0.fst != 0 then some ((r0.fst, 1), PUnit.unit)
       else
       bif r1.fst != 0 then some ((r1.fst, 2), PUnit.unit)
       else
       bif r2.fst != 0 then some ((r2.fst, 3), PUnit.unit)
       else
       bif r3.fst != 0 then some ((r3.fst, 4), PUnit.unit)
       else
       bif r6.fst != 0 then some ((r6.fst, 5), PUnit.unit)
       else
       bif r7.fst != 0 then some ((r7.fst, 6), PUnit.unit)
       else
       bif r8.fst != 0 then some ((r8.fst, 7), PUnit.unit)
       else
       bif r9.fst != 0 then some ((r9.fst, 8), PUnit.unit)
       else some ((0, 0), PUnit.unit)
theorem fe (x20 : F20.FT) (x21 : F21.FT) (x22 : F22.FT) (x23 : F23.FT) (x24 : F24.FT) (x25 : F25.FT) (d : (Int × Int × Int × Int × Int × Int × Int × Int × Int) × (Int × Int × Int × Int × Int × Int × Int × Int × Int) × Bool) : bodyF (tabC Tryd.prog (tab x20 x21 x22 x23 x24 x25) ((7, .none) :: pls x20 x21 x22 x23 x24 x25) 100 10) 100 7 i o d = fP x20 x21 x22 x23 x24 x25 d := by kernel_rfl
noncomputable def f : FT := fP F20.f F21.f F22.f F23.f F24.f F25.f
def plan : Plan := .none
theorem planOk : PlanOk Tryd.prog (plan) (bodyOf Tryd.prog 7) := (planOk_of (plan) _ [] (by kernel_rfl) trivial)
theorem meets : MeetsF Tryd.prog 7 ⟨i, o, f⟩ :=
  funcT (fuel := 100) (depth := 10) (pl := (7, plan) :: pls F20.f F21.f F22.f F23.f F24.f F25.f) mixed tabS ⟨planOk, plsP⟩ (fun d =>  fe F20.f F21.f F22.f F23.f F24.f F25.f d)
theorem spec : SpecOk Tryd.prog (fun _ => none) 7 (specF ⟨i, o, f⟩) := specF_ok (by kernel_rfl) meets
end Go.Proofs.YtaniibilgdhdiaaDoor.F7

/- What comes of function 26 of this program, consulate.choose.places, as the engine gives it. -/
namespace Go.Proofs.YtaniibilgdhdiaaDoor.F26
open Go Go.Proofs Go.Proofs.YtaniibilgdhdiaaDoor Go.RowKit Go.Proofs.YtaniibilgdhdiaaDoor.Sx
set_option linter.unusedVariables false
set_option maxRecDepth 100000
def tab : List (FuncId × Sx.Spec) := []
def pls : List (FuncId × Plan) := []
@[reducible] def k1 : Sh := .sc (.int .i64) .nil
@[reducible] def i1 : Sh := .sl true 3 (.sc (.int .i64) .nil) (.sc (.int .i64) .nil)
@[reducible] def o1 : Sh := .sl true 3 (.sc (.int .i64) .nil) .nil
abbrev G1 := Int → (List (Int) × Int) → Option (List (Int) × Unit)
def u1 (F : G1) : Un := ⟨16, [6], k1, [3, 7], i1, [3], o1, [6], [(.exit 0, [true])], F⟩
@[reducible] def i : Sh := .sl false 26 (.sc (.int .u32) (.sc (.int .i64) (.sc (.int .u8) (.sc (.int .u32) (.sc (.int .u32) (.sc (.int .i64) (.sc (.int .i64) (.sc (.int .u32) (.sc (.int .i64) .nil))))))))) .nil
@[reducible] def o : Sh := .sl true 3 (.sc (.int .i64) .nil) .nil
abbrev FT := ((List (Int × Int × Int × Int × Int × Int × Int × Int × Int))) → Option (List (Int) × Unit)
theorem tabS : AllS Tryd.prog (tab) := trivial
theorem plsP : AllP Tryd.prog (pls) := trivial
theorem mixed : Tryd.prog.follows .mixedOrders = true := by kernel_rfl
def r1P : Int → (List (Int) × Int) → Option ((List (Int) × Int) ⊕ (List (Int) × Unit)) := fun t6 (out, t7) =>
    bif decide (t7 < t6) then
      bif decide (out.length + (1 : Nat) ≤ (1073741824 : Nat)) then
       bif decide ((0 : Nat) + out.length ≤ out.length) then
       bif decide ((0 : Nat) + (out.length + (1 : Nat)) ≤ (List.take out.length out ++ [t7]).length) && true then
       some
       (Sum.inl
       (List.take (out.length + (1 : Nat)) (List.drop (0 : Nat) (List.take out.length out ++ [t7])),
       IntKind.i64.wrap (t7 + (1 : Int))))
       else none
       else none
      else none
    else
      bif decide ((0 : Nat) + out.length ≤ out.length) && true then some (Sum.inr (List.take out.length out, PUnit.unit))
      else none
theorem r1e (kd : Int) (d : List (Int) × Int) : roundF (tabC Tryd.prog (tab) (pls) 100 10) 100 .none (u1 fun _ _ => none) (codeAt [1, 1, 0, 1, 0, 0] (bodyOf Tryd.prog 26)) kd d = r1P kd d := by kernel_rfl
noncomputable def r1 : Int → (List (Int) × Int) → Option ((List (Int) × Int) ⊕ (List (Int) × Unit)) := r1P
noncomputable def l1 : G1 := fun kd d => iterO (r1 kd) d
theorem ok1 : UnOk Tryd.prog (u1 l1) (codeAt [1, 1, 0, 1, 0] (bodyOf Tryd.prog 26)) :=
  loopT (p := .none) (c := codeAt [1, 1, 0, 1, 0, 0] (bodyOf Tryd.prog 26)) (fuel := 100) (depth := 10) mixed tabS plsP (by kernel_rfl) trivial (by kernel_rfl) (fun kd d => r1e  kd d) rfl
def fP (l1 : G1) : FT := fun l =>
    (l1 (↑l.length : Int) ([], (0 : Int))).bind fun r0 =>
      bif decide ((0 : Nat) + List.length r0.fst ≤ List.length r0.fst) && true then
       some (List.take (List.length r0.fst) (List.drop (0 : Nat) r0.fst), PUnit.unit)
      else none
theorem fe (l1 : G1) (d : (List (Int × Int × Int × Int × Int × Int × Int × Int × Int))) : bodyF (tabC Tryd.prog (tab) ((26, (.node .none (.node .none (.node (.node .none (.node (.unit (u1 l1)) .none)) .none)))) :: pls) 100 10) 100 26 i o d = fP l1 d := by kernel_rfl
noncomputable def f : FT := fP l1
def plan (l1 : G1) : Plan := (.node .none (.node .none (.node (.node .none (.node (.unit (u1 l1)) .none)) .none)))
theorem planOk : PlanOk Tryd.prog (plan l1) (bodyOf Tryd.prog 26) := (planOk_of (plan l1) _ [([1, 1, 0, 1, 0], u1 l1)] rfl ⟨ok1, trivial⟩)
theorem meets : MeetsF Tryd.prog 26 ⟨i, o, f⟩ :=
  funcT (fuel := 100) (depth := 10) (pl := (26, plan l1) :: pls) mixed tabS ⟨planOk, plsP⟩ (fun d =>  fe l1 d)
theorem spec : SpecOk Tryd.prog (fun _ => none) 26 (specF ⟨i, o, f⟩) := specF_ok (by kernel_rfl) meets
end Go.Proofs.YtaniibilgdhdiaaDoor.F26

/- What comes of function 37 of this program, consulate.choose.best, as the engine gives it. -/
namespace Go.Proofs.YtaniibilgdhdiaaDoor.F37
open Go Go.Proofs Go.Proofs.YtaniibilgdhdiaaDoor Go.RowKit Go.Proofs.YtaniibilgdhdiaaDoor.Sx
set_option linter.unusedVariables false
set_option maxRecDepth 100000
def tab (x7 : F7.FT) : List (FuncId × Sx.Spec) := [(7, specF ⟨F7.i, F7.o, x7⟩)]
def pls (x7 : F7.FT) : List (FuncId × Plan) := []
@[reducible] def k1 : Sh := .sl false 26 (.sc (.int .u32) (.sc (.int .i64) (.sc (.int .u8) (.sc (.int .u32) (.sc (.int .u32) (.sc (.int .i64) (.sc (.int .i64) (.sc (.int .u32) (.sc (.int .i64) .nil))))))))) (.sc .bool (.sc (.int .i64) (.sc (.int .i64) .nil)))
@[reducible] def i1 : Sh := .nil
@[reducible] def o1 : Sh := .sc (.int .i64) .nil
abbrev G1 := ((List (Int × Int × Int × Int × Int × Int × Int × Int × Int)) × Bool × Int × Int) → Unit → Option (Int × Unit)
def u1 (F : G1) : Un := ⟨39, [0, 2, 7, 9], k1, [], i1, [10], o1, [0, 2, 7, 9, 12, 13, 14], [(.normal, [true])], F⟩
@[reducible] def k2 : Sh := .sl false 26 (.sc (.int .u32) (.sc (.int .i64) (.sc (.int .u8) (.sc (.int .u32) (.sc (.int .u32) (.sc (.int .i64) (.sc (.int .i64) (.sc (.int .u32) (.sc (.int .i64) .nil))))))))) (.sc .bool (.sl false 3 (.sc (.int .i64) .nil) (.sc (.int .i64) .nil)))
@[reducible] def i2 : Sh := .sc (.int .i64) (.sc (.int .i64) .nil)
@[reducible] def o2 : Sh := .sc (.int .i64) .nil
abbrev G2 := ((List (Int × Int × Int × Int × Int × Int × Int × Int × Int)) × Bool × List (Int) × Int) → (Int × Int) → Option (Int × Unit)
def u2 (F : G2) : Un := ⟨39, [0, 2, 12, 13], k2, [7, 14], i2, [7], o2, [0, 2, 12, 13], [(.exit 0, [true])], F⟩
@[reducible] def i : Sh := .sl false 26 (.sc (.int .u32) (.sc (.int .i64) (.sc (.int .u8) (.sc (.int .u32) (.sc (.int .u32) (.sc (.int .i64) (.sc (.int .i64) (.sc (.int .u32) (.sc (.int .i64) .nil))))))))) (.sl false 3 (.sc (.int .i64) .nil) (.sc .bool .nil))
@[reducible] def o : Sh := .sc (.int .i64) .nil
abbrev FT := ((List (Int × Int × Int × Int × Int × Int × Int × Int × Int)) × List (Int) × Bool) → Option (Int × Unit)
theorem tabS : AllS Tryd.prog (tab F7.f) := ⟨F7.spec, trivial⟩
theorem plsP : AllP Tryd.prog (pls F7.f) := trivial
theorem mixed : Tryd.prog.follows .mixedOrders = true := by kernel_rfl
def r1P (x7 : F7.FT) : G1 := fun (l, med, at0, k) () =>
    bif decide ((0 : Int) ≤ k ∧ k < (↑l.length : Int) ∧ (0 : Nat) < l.length) then
      bif decide ((0 : Nat) + k.toNat < l.length) then
       bif decide ((0 : Int) ≤ at0 ∧ at0 < (↑l.length : Int) ∧ (0 : Nat) < l.length) then
       bif decide ((0 : Nat) + at0.toNat < l.length) then
       (x7
       (((l.getD ((0 : Nat) + k.toNat)
       ((0 : Int), (0 : Int), (0 : Int), (0 : Int), (0 : Int), (0 : Int), (0 : Int), (0 : Int),
       (0 : Int))).fst,
       (l.getD ((0 : Nat) + k.toNat)
       ((0 : Int), (0 : Int), (0 : Int), (0 : Int), (0 : Int), (0 : Int), (0 : Int), (0 : Int),
       (0 : Int))).snd.fst,
       (l.getD ((0 : Nat) + k.toNat)
       ((0 : Int), (0 : Int), (0 : Int), (0 : Int), (0 : Int), (0 : Int), (0 : Int), (0 : Int),
       (0 : Int))).snd.snd.fst,
       (l.getD ((0 : Nat) + k.toNat)
       ((0 : Int), (0 : Int), (0 : Int), (0 : Int), (0 : Int), (0 : Int), (0 : Int), (0 : Int),
       (0 : Int))).snd.snd.snd.fst,
       (l.getD ((0 : Nat) + k.toNat)
       ((0 : Int), (0 : Int), (0 : Int), (0 : Int), (0 : Int), (0 : Int), (0 : Int), (0 : Int),
       (0 : Int))).snd.snd.snd.snd.fst,
       (l.getD ((0 : Nat) + k.toNat)
       ((0 : Int), (0 : Int), (0 : Int), (0 : Int), (0 : Int), (0 : Int), (0 : Int),
       (0 : Int), (0 : Int))).snd.snd.snd.snd.snd.fst,
       (l.getD ((0 : Nat) + k.toNat)
       ((0 : Int), (0 : Int), (0 : Int), (0 : Int), (0 : Int), (0 : Int), (0 : Int),
       (0 : Int), (0 : Int))).snd.snd.snd.snd.snd.snd.fst,
       (l.getD ((0 : Nat) + k.toNat)
       ((0 : Int), (0 : Int), (0 : Int), (0 : Int), (0 : Int), (0 : Int), (0 : Int),
       (0 : Int), (0 : Int))).snd.snd.snd.snd.snd.snd.snd.fst,
       (l.getD ((0 : Nat) + k.toNat)
       ((0 : Int), (0 : Int), (0 : Int), (0 : Int), (0 : Int), (0 : Int), (0 : Int),
       (0 : Int), (0 : Int))).snd.snd.snd.snd.snd.snd.snd.snd),
       ((l.getD ((0 : Nat) + at0.toNat)
       ((0 : Int), (0 : Int), (0 : Int), (0 : Int), (0 : Int), (0 : Int), (0 : Int), (0 : Int),
       (0 : Int))).fst,
       (l.getD ((0 : Nat) + at0.toNat)
       ((0 : Int), (0 : Int), (0 : Int), (0 : Int), (0 : Int), (0 : Int), (0 : Int), (0 : Int),
       (0 : Int))).snd.fst,
       (l.getD ((0 : Nat) + at0.toNat)
       ((0 : Int), (0 : Int), (0 : Int), (0 : Int), (0 : Int), (0 : Int), (0 : Int), (0 : Int),
       (0 : Int))).snd.snd.fst,
       (l.getD ((0 : Nat) + at0.toNat)
       ((0 : Int), (0 : Int), (0 : Int), (0 : Int), (0 : Int), (0 : Int), (0 : Int), (0 : Int),
       (0 : Int))).snd.snd.snd.fst,
       (l.getD ((0 : Nat) + at0.toNat)
       ((0 : Int), (0 : Int), (0 : Int), (0 : Int), (0 : Int), (0 : Int), (0 : Int), (0 : Int),
       (0 : Int))).snd.snd.snd.snd.fst,
       (l.getD ((0 : Nat) + at0.toNat)
       ((0 : Int), (0 : Int), (0 : Int), (0 : Int), (0 : Int), (0 : Int), (0 : Int),
       (0 : Int), (0 : Int))).snd.snd.snd.snd.snd.fst,
       (l.getD ((0 : Nat) + at0.toNat)
       ((0 : Int), (0 : Int), (0 : Int), (0 : Int), (0 : Int), (0 : Int), (0 : Int),
       (0 : Int), (0 : Int))).snd.snd.snd.snd.snd.snd.fst,
       (l.getD ((0 : Nat) + at0.toNat)
       ((0 : Int), (0 : Int), (0 : Int), (0 : Int), (0 : Int), (0 : Int), (0 : Int),
       (0 : Int), (0 : Int))).snd.snd.snd.snd.snd.snd.snd.fst,
       (l.getD ((0 : Nat) + at0.toNat)
       ((0 : Int), (0 : Int), (0 : Int), (0 : Int), (0 : Int), (0 : Int), (0 : Int),
       (0 : Int), (0 : Int))).snd.snd.snd.snd.snd.snd.snd.snd),
       med)).bind
       fun r0 => some (r0.fst.fst, PUnit.unit)
       else none
       else none
      else none
    else none
theorem r1e (x7 : F7.FT) (kd : (List (Int × Int × Int × Int × Int × Int × Int × Int × Int)) × Bool × Int × Int) (d : Unit) : unitF (tabC Tryd.prog (tab x7) (pls x7) 100 10) 100 .none (u1 fun _ _ => none) (codeAt [1, 1, 0, 1, 0, 0, 1, 1, 0, 0, 1, 1, 1, 0] (bodyOf Tryd.prog 37)) kd d = r1P x7 kd d := by kernel_rfl
noncomputable def r1 : G1 := r1P F7.f
noncomputable def l1 : G1 := r1
theorem ok1 : UnOk Tryd.prog (u1 l1) (codeAt [1, 1, 0, 1, 0, 0, 1, 1, 0, 0, 1, 1, 1, 0] (bodyOf Tryd.prog 37)) :=
  blockT (p := .none) (fuel := 100) (depth := 10) mixed tabS plsP trivial (fun kd d =>  r1e F7.f kd d)
def r2P (x7 : F7.FT) (l1 : G1) : ((List (Int × Int × Int × Int × Int × Int × Int × Int × Int)) × Bool × List (Int) × Int) → (Int × Int) → Option ((Int × Int) ⊕ (Int × Unit)) := fun (l, med, t12, t13) (at0, t14) =>
    bif decide (t14 < t13) then
      bif decide ((0 : Int) ≤ t14 ∧ t14 < (↑t12.length : Int) ∧ (0 : Nat) < t12.length) then
       bif decide ((0 : Nat) + t14.toNat < t12.length) then
       bif decide (at0 < (0 : Int)) then
       some (Sum.inl (t12.getD ((0 : Nat) + t14.toNat) (0 : Int), IntKind.i64.wrap (t14 + (1 : Int))))
       else
       bif decide ((0 : Nat) + l.length ≤ l.length) && true then
       (l1 (List.take l.length l, med, at0, t12.getD ((0 : Nat) + t14.toNat) (0 : Int)) PUnit.unit).bind fun r0 =>
       bif decide (r0.fst < (0 : Int)) then
       some (Sum.inl (t12.getD ((0 : Nat) + t14.toNat) (0 : Int), IntKind.i64.wrap (t14 + (1 : Int))))
       else some (Sum.inl (at0, IntKind.i64.wrap (t14 + (1 : Int))))
       else none
       else none
      else none
    else some (Sum.inr (at0, PUnit.unit))
theorem r2e (x7 : F7.FT) (l1 : G1) (kd : (List (Int × Int × Int × Int × Int × Int × Int × Int × Int)) × Bool × List (Int) × Int) (d : Int × Int) : roundF (tabC Tryd.prog (tab x7) (pls x7) 100 10) 100 (.node .none (.node .none (.node (.node (.node .none (.node .none (.node .none (.node (.unit (u1 l1)) .none)))) .none) .none))) (u2 fun _ _ => none) (codeAt [1, 1, 0, 1, 0, 0] (bodyOf Tryd.prog 37)) kd d = r2P x7 l1 kd d := by kernel_rfl
noncomputable def r2 : ((List (Int × Int × Int × Int × Int × Int × Int × Int × Int)) × Bool × List (Int) × Int) → (Int × Int) → Option ((Int × Int) ⊕ (Int × Unit)) := r2P F7.f l1
noncomputable def l2 : G2 := fun kd d => iterO (r2 kd) d
theorem ok2 : UnOk Tryd.prog (u2 l2) (codeAt [1, 1, 0, 1, 0] (bodyOf Tryd.prog 37)) :=
  loopT (p := (.node .none (.node .none (.node (.node (.node .none (.node .none (.node .none (.node (.unit (u1 l1)) .none)))) .none) .none)))) (c := codeAt [1, 1, 0, 1, 0, 0] (bodyOf Tryd.prog 37)) (fuel := 100) (depth := 10) mixed tabS plsP (by kernel_rfl) (planOk_of (.node .none (.node .none (.node (.node (.node .none (.node .none (.node .none (.node (.unit (u1 l1)) .none)))) .none) .none))) _ [([1, 1, 0, 0, 1, 1, 1, 0], u1 l1)] rfl ⟨ok1, trivial⟩) (by kernel_rfl) (fun kd d => r2e F7.f l1 kd d) rfl
def fP (x7 : F7.FT) (l2 : G2) : FT := fun (l, places, med) =>
    bif decide ((0 : Nat) + l.length ≤ l.length) && true then
      bif decide ((0 : Nat) + places.length ≤ places.length) && true then
       (l2 (List.take l.length l, med, List.take places.length places, (↑places.length : Int))
       ((-1 : Int), (0 : Int))).bind
       fun r0 => some (r0.fst, PUnit.unit)
      else none
    else none
theorem fe (x7 : F7.FT) (l2 : G2) (d : (List (Int × Int × Int × Int × Int × Int × Int × Int × Int)) × List (Int) × Bool) : bodyF (tabC Tryd.prog (tab x7) ((37, (.node .none (.node .none (.node (.node .none (.node (.unit (u2 l2)) .none)) .none)))) :: pls x7) 100 10) 100 37 i o d = fP x7 l2 d := by kernel_rfl
noncomputable def f : FT := fP F7.f l2
def plan (l2 : G2) : Plan := (.node .none (.node .none (.node (.node .none (.node (.unit (u2 l2)) .none)) .none)))
theorem planOk : PlanOk Tryd.prog (plan l2) (bodyOf Tryd.prog 37) := (planOk_of (plan l2) _ [([1, 1, 0, 1, 0], u2 l2)] rfl ⟨ok2, trivial⟩)
theorem meets : MeetsF Tryd.prog 37 ⟨i, o, f⟩ :=
  funcT (fuel := 100) (depth := 10) (pl := (37, plan l2) :: pls F7.f) mixed tabS ⟨planOk, plsP⟩ (fun d =>  fe F7.f l2 d)
theorem spec : SpecOk Tryd.prog (fun _ => none) 37 (specF ⟨i, o, f⟩) := specF_ok (by kernel_rfl) meets
end Go.Proofs.YtaniibilgdhdiaaDoor.F37

/- What comes of function 27 of this program, consulate.choose.among, as the engine gives it. -/
namespace Go.Proofs.YtaniibilgdhdiaaDoor.F27
open Go Go.Proofs Go.Proofs.YtaniibilgdhdiaaDoor Go.RowKit Go.Proofs.YtaniibilgdhdiaaDoor.Sx
set_option linter.unusedVariables false
set_option maxRecDepth 100000
def tab (x37 : F37.FT) : List (FuncId × Sx.Spec) := [(37, specF ⟨F37.i, F37.o, x37⟩)]
def pls (x37 : F37.FT) : List (FuncId × Plan) := []
@[reducible] def k1 : Sh := .sl false 26 (.sc (.int .u32) (.sc (.int .i64) (.sc (.int .u8) (.sc (.int .u32) (.sc (.int .u32) (.sc (.int .i64) (.sc (.int .i64) (.sc (.int .u32) (.sc (.int .i64) .nil))))))))) (.sc (.int .i64) .nil)
@[reducible] def i1 : Sh := .nil
@[reducible] def o1 : Sh := .sc (.int .u32) .nil
abbrev G1 := ((List (Int × Int × Int × Int × Int × Int × Int × Int × Int)) × Int) → Unit → Option (Int × Unit)
def u1 (F : G1) : Un := ⟨61, [0, 8], k1, [], i1, [9], o1, [0, 5, 6, 8, 14, 15, 16], [(.normal, [true])], F⟩
@[reducible] def k2 : Sh := .mp .map (.sc (.int .u32) .nil) (.sl true 3 (.sc (.int .i64) .nil) .nil) (.sc (.int .u32) .nil)
@[reducible] def i2 : Sh := .nil
@[reducible] def o2 : Sh := .sc .bool .nil
abbrev G2 := ((List (Int × List (Int))) × Int) → Unit → Option (Bool × Unit)
def u2 (F : G2) : Un := ⟨61, [5, 9], k2, [], i2, [29], o2, [0, 5, 6, 8, 9, 14, 15, 16], [(.normal, [true])], F⟩
@[reducible] def k3 : Sh := .sc (.int .u32) .nil
@[reducible] def i3 : Sh := .sl true 23 (.sc (.int .u32) .nil) .nil
@[reducible] def o3 : Sh := .sl true 23 (.sc (.int .u32) .nil) .nil
abbrev G3 := Int → List (Int) → Option (List (Int) × Unit)
def u3 (F : G3) : Un := ⟨61, [9], k3, [6], i3, [6], o3, [0, 5, 8, 9, 14, 15, 16], [(.normal, [true])], F⟩
@[reducible] def k4 : Sh := .sc (.int .i64) (.sc (.int .u32) .nil)
@[reducible] def i4 : Sh := .mp .map (.sc (.int .u32) .nil) (.sl true 3 (.sc (.int .i64) .nil) .nil) .nil
@[reducible] def o4 : Sh := .mp .map (.sc (.int .u32) .nil) (.sl true 3 (.sc (.int .i64) .nil) .nil) .nil
abbrev G4 := (Int × Int) → ((List (Int × List (Int)))) → Option (((List (Int × List (Int)))) × Unit)
def u4 (F : G4) : Un := ⟨61, [8, 9], k4, [5], i4, [5], o4, [0, 6, 14, 15, 16], [(.normal, [true])], F⟩
@[reducible] def k5 : Sh := .sl false 26 (.sc (.int .u32) (.sc (.int .i64) (.sc (.int .u8) (.sc (.int .u32) (.sc (.int .u32) (.sc (.int .i64) (.sc (.int .i64) (.sc (.int .u32) (.sc (.int .i64) .nil))))))))) (.sl false 3 (.sc (.int .i64) .nil) (.sc (.int .i64) .nil))
@[reducible] def i5 : Sh := .mp .map (.sc (.int .u32) .nil) (.sl true 3 (.sc (.int .i64) .nil) .nil) (.sl true 23 (.sc (.int .u32) .nil) (.sc (.int .i64) .nil))
@[reducible] def o5 : Sh := .mp .map (.sc (.int .u32) .nil) (.sl true 3 (.sc (.int .i64) .nil) .nil) (.sl true 23 (.sc (.int .u32) .nil) .nil)
abbrev G5 := ((List (Int × Int × Int × Int × Int × Int × Int × Int × Int)) × List (Int) × Int) → ((List (Int × List (Int))) × List (Int) × Int) → Option (((List (Int × List (Int))) × List (Int)) × Unit)
def u5 (F : G5) : Un := ⟨61, [0, 14, 15], k5, [5, 6, 16], i5, [5, 6], o5, [0, 14, 15], [(.exit 0, [true, true])], F⟩
@[reducible] def k6 : Sh := .sl false 26 (.sc (.int .u32) (.sc (.int .i64) (.sc (.int .u8) (.sc (.int .u32) (.sc (.int .u32) (.sc (.int .i64) (.sc (.int .i64) (.sc (.int .u32) (.sc (.int .i64) .nil))))))))) (.mp .map (.sc (.int .u32) .nil) (.sl true 3 (.sc (.int .i64) .nil) .nil) (.sc (.int .u32) .nil))
@[reducible] def i6 : Sh := .sl true 3 (.sc (.int .i64) .nil) .nil
@[reducible] def o6 : Sh := .sl true 3 (.sc (.int .i64) .nil) .nil
abbrev G6 := ((List (Int × Int × Int × Int × Int × Int × Int × Int × Int)) × (List (Int × List (Int))) × Int) → List (Int) → Option (List (Int) × Unit)
def u6 (F : G6) : Un := ⟨61, [0, 5, 12], k6, [10], i6, [10], o6, [0, 5, 43, 44, 45], [(.normal, [true])], F⟩
@[reducible] def k7 : Sh := .sl false 26 (.sc (.int .u32) (.sc (.int .i64) (.sc (.int .u8) (.sc (.int .u32) (.sc (.int .u32) (.sc (.int .i64) (.sc (.int .i64) (.sc (.int .u32) (.sc (.int .i64) .nil))))))))) (.mp .map (.sc (.int .u32) .nil) (.sl true 3 (.sc (.int .i64) .nil) .nil) (.sl true 23 (.sc (.int .u32) .nil) (.sc (.int .i64) .nil)))
@[reducible] def i7 : Sh := .sl true 3 (.sc (.int .i64) .nil) (.sc (.int .i64) .nil)
@[reducible] def o7 : Sh := .sl true 3 (.sc (.int .i64) .nil) .nil
abbrev G7 := ((List (Int × Int × Int × Int × Int × Int × Int × Int × Int)) × (List (Int × List (Int))) × List (Int) × Int) → (List (Int) × Int) → Option (List (Int) × Unit)
def u7 (F : G7) : Un := ⟨61, [0, 5, 43, 44], k7, [10, 45], i7, [10], o7, [0, 5, 43, 44], [(.exit 2, [true])], F⟩
@[reducible] def i : Sh := .sl false 26 (.sc (.int .u32) (.sc (.int .i64) (.sc (.int .u8) (.sc (.int .u32) (.sc (.int .u32) (.sc (.int .i64) (.sc (.int .i64) (.sc (.int .u32) (.sc (.int .i64) .nil))))))))) (.sl false 3 (.sc (.int .i64) .nil) .nil)
@[reducible] def o : Sh := .sc (.int .i64) .nil
abbrev FT := ((List (Int × Int × Int × Int × Int × Int × Int × Int × Int)) × List (Int)) → Option (Int × Unit)
theorem tabS : AllS Tryd.prog (tab F37.f) := ⟨F37.spec, trivial⟩
theorem plsP : AllP Tryd.prog (pls F37.f) := trivial
theorem mixed : Tryd.prog.follows .mixedOrders = true := by kernel_rfl
def r1P (x37 : F37.FT) : G1 := fun (l, k) () =>
    bif decide ((0 : Int) ≤ k ∧ k < (↑l.length : Int) ∧ (0 : Nat) < l.length) then
      bif decide ((0 : Nat) + k.toNat < l.length) then
       some
       ((l.getD ((0 : Nat) + k.toNat)
       ((0 : Int), (0 : Int), (0 : Int), (0 : Int), (0 : Int), (0 : Int), (0 : Int), (0 : Int),
       (0 : Int))).snd.snd.snd.snd.fst,
       PUnit.unit)
      else none
    else none
theorem r1e (x37 : F37.FT) (kd : (List (Int × Int × Int × Int × Int × Int × Int × Int × Int)) × Int) (d : Unit) : unitF (tabC Tryd.prog (tab x37) (pls x37) 100 10) 100 .none (u1 fun _ _ => none) (codeAt [1, 1, 1, 0, 1, 0, 0, 1, 1, 0, 0, 1, 0] (bodyOf Tryd.prog 27)) kd d = r1P x37 kd d := by kernel_rfl
noncomputable def r1 : G1 := r1P F37.f
noncomputable def l1 : G1 := r1
theorem ok1 : UnOk Tryd.prog (u1 l1) (codeAt [1, 1, 1, 0, 1, 0, 0, 1, 1, 0, 0, 1, 0] (bodyOf Tryd.prog 27)) :=
  blockT (p := .none) (fuel := 100) (depth := 10) mixed tabS plsP trivial (fun kd d =>  r1e F37.f kd d)
def r2P (x37 : F37.FT) : G2 := fun (groups, n) () =>
    bif hasK (keyB (Sh.sc (Ck.int IntKind.u32) Sh.nil)) groups n then
      some ((↑(List.length (getK (keyB (Sh.sc (Ck.int IntKind.u32) Sh.nil)) groups n [])) : Int) == (0 : Int), PUnit.unit)
    else some (true, PUnit.unit)
theorem r2e (x37 : F37.FT) (kd : (List (Int × List (Int))) × Int) (d : Unit) : unitF (tabC Tryd.prog (tab x37) (pls x37) 100 10) 100 .none (u2 fun _ _ => none) (codeAt [1, 1, 1, 0, 1, 0, 0, 1, 1, 0, 0, 1, 1, 0, 0] (bodyOf Tryd.prog 27)) kd d = r2P x37 kd d := by kernel_rfl
noncomputable def r2 : G2 := r2P F37.f
noncomputable def l2 : G2 := r2
theorem ok2 : UnOk Tryd.prog (u2 l2) (codeAt [1, 1, 1, 0, 1, 0, 0, 1, 1, 0, 0, 1, 1, 0, 0] (bodyOf Tryd.prog 27)) :=
  blockT (p := .none) (fuel := 100) (depth := 10) mixed tabS plsP trivial (fun kd d =>  r2e F37.f kd d)
def r3P (x37 : F37.FT) : G3 := fun n names =>
    bif decide (names.length + (1 : Nat) / OfNat.ofNat (1 : Nat) ≤ (1073741824 : Nat)) then
      bif decide ((0 : Nat) + names.length ≤ names.length) then
       bif
       decide
       ((0 : Nat) + (names.length + (1 : Nat) / OfNat.ofNat (1 : Nat)) ≤
       (List.take names.length names ++ [n]).length) &&
       true then
       some
       (List.take (names.length + (1 : Nat) / OfNat.ofNat (1 : Nat))
       (List.drop (0 : Nat) (List.take names.length names ++ [n])),
       PUnit.unit)
       else none
      else none
    else none
theorem r3e (x37 : F37.FT) (kd : Int) (d : List (Int)) : unitF (tabC Tryd.prog (tab x37) (pls x37) 100 10) 100 .none (u3 fun _ _ => none) (codeAt [1, 1, 1, 0, 1, 0, 0, 1, 1, 0, 0, 1, 1, 0, 1, 0] (bodyOf Tryd.prog 27)) kd d = r3P x37 kd d := by kernel_rfl
noncomputable def r3 : G3 := r3P F37.f
noncomputable def l3 : G3 := r3
theorem ok3 : UnOk Tryd.prog (u3 l3) (codeAt [1, 1, 1, 0, 1, 0, 0, 1, 1, 0, 0, 1, 1, 0, 1, 0] (bodyOf Tryd.prog 27)) :=
  blockT (p := .none) (fuel := 100) (depth := 10) mixed tabS plsP trivial (fun kd d =>  r3e F37.f kd d)
def r4P (x37 : F37.FT) : G4 := fun (k, n) groups =>
    bif hasK (keyB (Sh.sc (Ck.int IntKind.u32) Sh.nil)) groups n then
      bif
       decide
       (List.length (getK (keyB (Sh.sc (Ck.int IntKind.u32) Sh.nil)) groups n []) +
       (1 : Nat) / OfNat.ofNat (1 : Nat) ≤
       (1073741824 : Nat)) then
       bif
       decide
       ((0 : Nat) + List.length (getK (keyB (Sh.sc (Ck.int IntKind.u32) Sh.nil)) groups n []) ≤
       List.length (getK (keyB (Sh.sc (Ck.int IntKind.u32) Sh.nil)) groups n [])) then
       bif
       hasK (keyB (Sh.sc (Ck.int IntKind.u32) Sh.nil)) groups n &&
       (posK (keyB (Sh.sc (Ck.int IntKind.u32) Sh.nil)) groups n).beq
       (posK (keyB (Sh.sc (Ck.int IntKind.u32) Sh.nil)) groups n) then
       bif
       decide
       ((0 : Nat) +
       (List.length (getK (keyB (Sh.sc (Ck.int IntKind.u32) Sh.nil)) groups n []) +
       (1 : Nat) / OfNat.ofNat (1 : Nat)) ≤
       (List.take (List.length (getK (keyB (Sh.sc (Ck.int IntKind.u32) Sh.nil)) groups n []))
       (List.drop (0 : Nat) (getK (keyB (Sh.sc (Ck.int IntKind.u32) Sh.nil)) groups n [])) ++
       [k]).length) &&
       true then
       some
       (groups.set (posK (keyB (Sh.sc (Ck.int IntKind.u32) Sh.nil)) groups n)
       ((groups.getD (posK (keyB (Sh.sc (Ck.int IntKind.u32) Sh.nil)) groups n) ((0 : Int), [])).fst,
       List.take
       (List.length (getK (keyB (Sh.sc (Ck.int IntKind.u32) Sh.nil)) groups n []) +
       (1 : Nat) / OfNat.ofNat (1 : Nat))
       (List.drop (0 : Nat)
       (List.take (List.length (getK (keyB (Sh.sc (Ck.int IntKind.u32) Sh.nil)) groups n []))
       (List.drop (0 : Nat) (getK (keyB (Sh.sc (Ck.int IntKind.u32) Sh.nil)) groups n [])) ++
       [k]))),
       PUnit.unit)
       else none
       else none
       else none
      else none
    else some (putK (keyB (Sh.sc (Ck.int IntKind.u32) Sh.nil)) groups n [k], PUnit.unit)
theorem r4e (x37 : F37.FT) (kd : Int × Int) (d : (List (Int × List (Int)))) : unitF (tabC Tryd.prog (tab x37) (pls x37) 100 10) 100 .none (u4 fun _ _ => none) (codeAt [1, 1, 1, 0, 1, 0, 0, 1, 1, 0, 0, 1, 1, 1] (bodyOf Tryd.prog 27)) kd d = r4P x37 kd d := by kernel_rfl
noncomputable def r4 : G4 := r4P F37.f
noncomputable def l4 : G4 := r4
theorem ok4 : UnOk Tryd.prog (u4 l4) (codeAt [1, 1, 1, 0, 1, 0, 0, 1, 1, 0, 0, 1, 1, 1] (bodyOf Tryd.prog 27)) :=
  blockT (p := .none) (fuel := 100) (depth := 10) mixed tabS plsP trivial (fun kd d =>  r4e F37.f kd d)
def r5P (x37 : F37.FT) (l1 : G1) (l2 : G2) (l3 : G3) (l4 : G4) : ((List (Int × Int × Int × Int × Int × Int × Int × Int × Int)) × List (Int) × Int) → ((List (Int × List (Int))) × List (Int) × Int) → Option (((List (Int × List (Int))) × List (Int) × Int) ⊕ (((List (Int × List (Int))) × List (Int)) × Unit)) := fun (l, t14, t15) (groups, names, t16) =>
    bif decide (t16 < t15) then
      bif decide ((0 : Int) ≤ t16 ∧ t16 < (↑t14.length : Int) ∧ (0 : Nat) < t14.length) then
       bif decide ((0 : Nat) + t16.toNat < t14.length) then
       bif decide ((0 : Nat) + l.length ≤ l.length) && true then
       (l1 (List.take l.length l, t14.getD ((0 : Nat) + t16.toNat) (0 : Int)) PUnit.unit).bind fun r0 =>
       (l2 (groups, r0.fst) PUnit.unit).bind fun r1 =>
       bif r1.fst then
       bif decide ((0 : Nat) + names.length ≤ names.length) && true then
       (l3 r0.fst (List.take names.length names)).bind fun r2 =>
       (l4 (t14.getD ((0 : Nat) + t16.toNat) (0 : Int), r0.fst) groups).bind fun r3 =>
       bif decide ((0 : Nat) + List.length r2.fst ≤ List.length r2.fst) && true then
       some
       (Sum.inl
       (r3.fst, List.take (List.length r2.fst) (List.drop (0 : Nat) r2.fst),
       IntKind.i64.wrap (t16 + (1 : Int))))
       else none
       else none
       else
       (l4 (t14.getD ((0 : Nat) + t16.toNat) (0 : Int), r0.fst) groups).bind fun r2 =>
       bif decide ((0 : Nat) + names.length ≤ names.length) && true then
       some (Sum.inl (r2.fst, List.take names.length names, IntKind.i64.wrap (t16 + (1 : Int))))
       else none
       else none
       else none
      else none
    else
      bif decide ((0 : Nat) + names.length ≤ names.length) && true then
       some (Sum.inr ((groups, List.take names.length names), PUnit.unit))
      else none
theorem r5e (x37 : F37.FT) (l1 : G1) (l2 : G2) (l3 : G3) (l4 : G4) (kd : (List (Int × Int × Int × Int × Int × Int × Int × Int × Int)) × List (Int) × Int) (d : (List (Int × List (Int))) × List (Int) × Int) : roundF (tabC Tryd.prog (tab x37) (pls x37) 100 10) 100 (.node .none (.node .none (.node (.node (.node .none (.node (.unit (u1 l1)) (.node (.node (.unit (u2 l2)) (.node (.unit (u3 l3)) .none)) (.unit (u4 l4))))) .none) .none))) (u5 fun _ _ => none) (codeAt [1, 1, 1, 0, 1, 0, 0] (bodyOf Tryd.prog 27)) kd d = r5P x37 l1 l2 l3 l4 kd d := by kernel_rfl
noncomputable def r5 : ((List (Int × Int × Int × Int × Int × Int × Int × Int × Int)) × List (Int) × Int) → ((List (Int × List (Int))) × List (Int) × Int) → Option (((List (Int × List (Int))) × List (Int) × Int) ⊕ (((List (Int × List (Int))) × List (Int)) × Unit)) := r5P F37.f l1 l2 l3 l4
noncomputable def l5 : G5 := fun kd d => iterO (r5 kd) d
theorem ok5 : UnOk Tryd.prog (u5 l5) (codeAt [1, 1, 1, 0, 1, 0] (bodyOf Tryd.prog 27)) :=
  loopT (p := (.node .none (.node .none (.node (.node (.node .none (.node (.unit (u1 l1)) (.node (.node (.unit (u2 l2)) (.node (.unit (u3 l3)) .none)) (.unit (u4 l4))))) .none) .none)))) (c := codeAt [1, 1, 1, 0, 1, 0, 0] (bodyOf Tryd.prog 27)) (fuel := 100) (depth := 10) mixed tabS plsP (by kernel_rfl) (planOk_of (.node .none (.node .none (.node (.node (.node .none (.node (.unit (u1 l1)) (.node (.node (.unit (u2 l2)) (.node (.unit (u3 l3)) .none)) (.unit (u4 l4))))) .none) .none))) _ [([1, 1, 0, 0, 1, 0], u1 l1), ([1, 1, 0, 0, 1, 1, 0, 0], u2 l2), ([1, 1, 0, 0, 1, 1, 0, 1, 0], u3 l3), ([1, 1, 0, 0, 1, 1, 1], u4 l4)] rfl ⟨ok1, ok2, ok3, ok4, trivial⟩) (by kernel_rfl) (fun kd d => r5e F37.f l1 l2 l3 l4 kd d) rfl
def r6P (x37 : F37.FT) : G6 := fun (l, groups, n) winners =>
    bif hasK (keyB (Sh.sc (Ck.int IntKind.u32) Sh.nil)) groups n then
      bif decide ((0 : Nat) + l.length ≤ l.length) && true then
       bif
       decide
       ((0 : Nat) + List.length (getK (keyB (Sh.sc (Ck.int IntKind.u32) Sh.nil)) groups n []) ≤
       List.length (getK (keyB (Sh.sc (Ck.int IntKind.u32) Sh.nil)) groups n [])) &&
       true then
       (x37
       (List.take l.length l,
       List.take (List.length (getK (keyB (Sh.sc (Ck.int IntKind.u32) Sh.nil)) groups n []))
       (List.drop (0 : Nat) (getK (keyB (Sh.sc (Ck.int IntKind.u32) Sh.nil)) groups n [])),
       true)).bind
       fun r0 =>
       bif decide (winners.length + (1 : Nat) / OfNat.ofNat (1 : Nat) ≤ (1073741824 : Nat)) then
       bif decide ((0 : Nat) + winners.length ≤ winners.length) then
       bif
       decide
       ((0 : Nat) + (winners.length + (1 : Nat) / OfNat.ofNat (1 : Nat)) ≤
       (List.take winners.length winners ++ [r0.fst]).length) &&
       true then
       some
       (List.take (winners.length + (1 : Nat) / OfNat.ofNat (1 : Nat))
       (List.drop (0 : Nat) (List.take winners.length winners ++ [r0.fst])),
       PUnit.unit)
       else none
       else none
       else none
       else none
      else none
    else
      bif decide ((0 : Nat) + l.length ≤ l.length) && true then
       (x37 (List.take l.length l, [], true)).bind fun r0 =>
       bif decide (winners.length + (1 : Nat) / OfNat.ofNat (1 : Nat) ≤ (1073741824 : Nat)) then
       bif decide ((0 : Nat) + winners.length ≤ winners.length) then
       bif
       decide
       ((0 : Nat) + (winners.length + (1 : Nat) / OfNat.ofNat (1 : Nat)) ≤
       (List.take winners.length winners ++ [r0.fst]).length) &&
       true then
       some
       (List.take (winners.length + (1 : Nat) / OfNat.ofNat (1 : Nat))
       (List.drop (0 : Nat) (List.take winners.length winners ++ [r0.fst])),
       PUnit.unit)
       else none
       else none
       else none
      else none
theorem r6e (x37 : F37.FT) (kd : (List (Int × Int × Int × Int × Int × Int × Int × Int × Int)) × (List (Int × List (Int))) × Int) (d : List (Int)) : unitF (tabC Tryd.prog (tab x37) (pls x37) 100 10) 100 .none (u6 fun _ _ => none) (codeAt [1, 1, 1, 1, 1, 0, 1, 0, 0, 1, 1, 0, 0, 1] (bodyOf Tryd.prog 27)) kd d = r6P x37 kd d := by kernel_rfl
noncomputable def r6 : G6 := r6P F37.f
noncomputable def l6 : G6 := r6
theorem ok6 : UnOk Tryd.prog (u6 l6) (codeAt [1, 1, 1, 1, 1, 0, 1, 0, 0, 1, 1, 0, 0, 1] (bodyOf Tryd.prog 27)) :=
  blockT (p := .none) (fuel := 100) (depth := 10) mixed tabS plsP trivial (fun kd d =>  r6e F37.f kd d)
def r7P (x37 : F37.FT) (l6 : G6) : ((List (Int × Int × Int × Int × Int × Int × Int × Int × Int)) × (List (Int × List (Int))) × List (Int) × Int) → (List (Int) × Int) → Option ((List (Int) × Int) ⊕ (List (Int) × Unit)) := fun (l, groups, t43, t44) (winners, t45) =>
    bif decide (t45 < t44) then
      bif decide ((0 : Int) ≤ t45 ∧ t45 < (↑t43.length : Int) ∧ (0 : Nat) < t43.length) then
       bif decide ((0 : Nat) + t45.toNat < t43.length) then
       bif decide ((0 : Nat) + l.length ≤ l.length) && true then
       bif decide ((0 : Nat) + winners.length ≤ winners.length) && true then
       (l6 (List.take l.length l, groups, t43.getD ((0 : Nat) + t45.toNat) (0 : Int))
       (List.take winners.length winners)).bind
       fun r0 =>
       bif decide ((0 : Nat) + List.length r0.fst ≤ List.length r0.fst) && true then
       some
       (Sum.inl
       (List.take (List.length r0.fst) (List.drop (0 : Nat) r0.fst), IntKind.i64.wrap (t45 + (1 : Int))))
       else none
       else none
       else none
       else none
      else none
    else
      bif decide ((0 : Nat) + winners.length ≤ winners.length) && true then
       some (Sum.inr (List.take winners.length winners, PUnit.unit))
      else none
theorem r7e (x37 : F37.FT) (l6 : G6) (kd : (List (Int × Int × Int × Int × Int × Int × Int × Int × Int)) × (List (Int × List (Int))) × List (Int) × Int) (d : List (Int) × Int) : roundF (tabC Tryd.prog (tab x37) (pls x37) 100 10) 100 (.node .none (.node .none (.node (.node (.node .none (.unit (u6 l6))) .none) .none))) (u7 fun _ _ => none) (codeAt [1, 1, 1, 1, 1, 0, 1, 0, 0] (bodyOf Tryd.prog 27)) kd d = r7P x37 l6 kd d := by kernel_rfl
noncomputable def r7 : ((List (Int × Int × Int × Int × Int × Int × Int × Int × Int)) × (List (Int × List (Int))) × List (Int) × Int) → (List (Int) × Int) → Option ((List (Int) × Int) ⊕ (List (Int) × Unit)) := r7P F37.f l6
noncomputable def l7 : G7 := fun kd d => iterO (r7 kd) d
theorem ok7 : UnOk Tryd.prog (u7 l7) (codeAt [1, 1, 1, 1, 1, 0, 1, 0] (bodyOf Tryd.prog 27)) :=
  loopT (p := (.node .none (.node .none (.node (.node (.node .none (.unit (u6 l6))) .none) .none)))) (c := codeAt [1, 1, 1, 1, 1, 0, 1, 0, 0] (bodyOf Tryd.prog 27)) (fuel := 100) (depth := 10) mixed tabS plsP (by kernel_rfl) (planOk_of (.node .none (.node .none (.node (.node (.node .none (.unit (u6 l6))) .none) .none))) _ [([1, 1, 0, 0, 1], u6 l6)] rfl ⟨ok6, trivial⟩) (by kernel_rfl) (fun kd d => r7e F37.f l6 kd d) rfl
def fP (x37 : F37.FT) (l5 : G5) (l7 : G7) : FT := fun (l, places) =>
    bif decide ((0 : Nat) + l.length ≤ l.length) && true then
      bif decide ((0 : Nat) + places.length ≤ places.length) && true then
       (l5 (List.take l.length l, List.take places.length places, (↑places.length : Int)) ([], [], (0 : Int))).bind
       fun r0 =>
       bif decide ((0 : Nat) + l.length ≤ l.length) && true then
       bif decide ((0 : Nat) + List.length r0.fst.snd ≤ List.length r0.fst.snd) && true then
       (l7
       (List.take l.length l, r0.fst.fst,
       List.take (List.length r0.fst.snd) (List.drop (0 : Nat) r0.fst.snd),
       (↑(List.length r0.fst.snd) : Int))
       ([], (0 : Int))).bind
       fun r1 =>
       bif decide ((0 : Nat) + l.length ≤ l.length) && true then
       bif decide ((0 : Nat) + List.length r1.fst ≤ List.length r1.fst) && true then
       (x37 (List.take l.length l, List.take (List.length r1.fst) (List.drop (0 : Nat) r1.fst), false)).bind
       fun r2 => some (r2.fst, PUnit.unit)
       else none
       else none
       else none
       else none
      else none
    else none
theorem fe (x37 : F37.FT) (l5 : G5) (l7 : G7) (d : (List (Int × Int × Int × Int × Int × Int × Int × Int × Int)) × List (Int)) : bodyF (tabC Tryd.prog (tab x37) ((27, (.node .none (.node .none (.node .none (.node (.node .none (.node (.unit (u5 l5)) .none)) (.node .none (.node (.node .none (.node (.unit (u7 l7)) .none)) .none))))))) :: pls x37) 100 10) 100 27 i o d = fP x37 l5 l7 d := by kernel_rfl
noncomputable def f : FT := fP F37.f l5 l7
def plan (l5 : G5) (l7 : G7) : Plan := (.node .none (.node .none (.node .none (.node (.node .none (.node (.unit (u5 l5)) .none)) (.node .none (.node (.node .none (.node (.unit (u7 l7)) .none)) .none))))))
theorem planOk : PlanOk Tryd.prog (plan l5 l7) (bodyOf Tryd.prog 27) := (planOk_of (plan l5 l7) _ [([1, 1, 1, 0, 1, 0], u5 l5), ([1, 1, 1, 1, 1, 0, 1, 0], u7 l7)] rfl ⟨ok5, ok7, trivial⟩)
theorem meets : MeetsF Tryd.prog 27 ⟨i, o, f⟩ :=
  funcT (fuel := 100) (depth := 10) (pl := (27, plan l5 l7) :: pls F37.f) mixed tabS ⟨planOk, plsP⟩ (fun d =>  fe F37.f l5 l7 d)
theorem spec : SpecOk Tryd.prog (fun _ => none) 27 (specF ⟨i, o, f⟩) := specF_ok (by kernel_rfl) meets
end Go.Proofs.YtaniibilgdhdiaaDoor.F27

/- What comes of function 38 of this program, slices.IndexFunc[[]int,int], as the engine gives it. -/
namespace Go.Proofs.YtaniibilgdhdiaaDoor.F38
open Go Go.Proofs Go.Proofs.YtaniibilgdhdiaaDoor Go.RowKit Go.Proofs.YtaniibilgdhdiaaDoor.Sx
set_option linter.unusedVariables false
set_option maxRecDepth 100000
def tab : List (FuncId × Sx.Spec) := []
def pls : List (FuncId × Plan) := []
@[reducible] def k1 : Sh := .sl false 3 (.sc (.int .i64) .nil) (.ag (some 29) (.pt false 3 (.sc (.int .i64) .nil) .nil) (.sc (.int .i64) .nil))
@[reducible] def i1 : Sh := .sc (.int .i64) .nil
@[reducible] def o1 : Sh := .sc (.int .i64) (.sc (.int .i64) .nil)
abbrev G1 := (List (Int) × Int × Int) → Int → Option ((Int × Int) × Unit)
def u1 (F : G1) : Un := ⟨19, [0, 1, 7], k1, [8], i1, [4], o1, [0, 1, 7], [(.exit 0, [false]), (.ret, [true])], F⟩
@[reducible] def i : Sh := .sl false 3 (.sc (.int .i64) .nil) (.ag (some 29) (.pt false 3 (.sc (.int .i64) .nil) .nil) .nil)
@[reducible] def o : Sh := .sc (.int .i64) .nil
abbrev FT := (List (Int) × Int) → Option (Int × Unit)
theorem tabS : AllS Tryd.prog (tab) := trivial
theorem plsP : AllP Tryd.prog (pls) := trivial
theorem mixed : Tryd.prog.follows .mixedOrders = true := by kernel_rfl
def r1P : (List (Int) × Int × Int) → Int → Option (Int ⊕ ((Int × Int) × Unit)) := fun (s, f_2, t7) t8 =>
    bif decide (t8 < t7) then
      bif decide ((0 : Int) ≤ t8 ∧ t8 < (↑s.length : Int) ∧ (0 : Nat) < s.length) then
       bif decide ((0 : Nat) + t8.toNat < s.length) then
       bif s.getD ((0 : Nat) + t8.toNat) (0 : Int) == f_2 then some (Sum.inr (((1 : Int), t8), PUnit.unit))
       else some (Sum.inl (IntKind.i64.wrap (t8 + (1 : Int))))
       else none
      else none
    else some (Sum.inr (((0 : Int), (0 : Int)), PUnit.unit))
theorem r1e (kd : List (Int) × Int × Int) (d : Int) : roundF (tabC Tryd.prog (tab) (pls) 100 10) 100 .none (u1 fun _ _ => none) (codeAt [1, 0, 1, 0, 0] (bodyOf Tryd.prog 38)) kd d = r1P kd d := by kernel_rfl
noncomputable def r1 : (List (Int) × Int × Int) → Int → Option (Int ⊕ ((Int × Int) × Unit)) := r1P
noncomputable def l1 : G1 := fun kd d => iterO (r1 kd) d
theorem ok1 : UnOk Tryd.prog (u1 l1) (codeAt [1, 0, 1, 0] (bodyOf Tryd.prog 38)) :=
  loopT (p := .none) (c := codeAt [1, 0, 1, 0, 0] (bodyOf Tryd.prog 38)) (fuel := 100) (depth := 10) mixed tabS plsP (by kernel_rfl) trivial (by kernel_rfl) (fun kd d => r1e  kd d) rfl
def fP (l1 : G1) : FT := fun (s, f_2) =>
    bif decide ((0 : Nat) + s.length ≤ s.length) && true then
      (l1 (List.take s.length s, f_2, (↑s.length : Int)) (OfNat.ofNat (0 : Nat))).bind fun r0 =>
       bif decide (r0.fst.fst = (0 : Int)) then some ((-1 : Int), PUnit.unit)
       else bif decide (r0.fst.fst = (1 : Int)) then some (r0.fst.snd, PUnit.unit) else none
    else none
theorem fe (l1 : G1) (d : List (Int) × Int) : bodyF (tabC Tryd.prog (tab) ((38, (.node .none (.node (.node .none (.node (.unit (u1 l1)) .none)) .none))) :: pls) 100 10) 100 38 i o d = fP l1 d := by kernel_rfl
noncomputable def f : FT := fP l1
def plan (l1 : G1) : Plan := (.node .none (.node (.node .none (.node (.unit (u1 l1)) .none)) .none))
theorem planOk : PlanOk Tryd.prog (plan l1) (bodyOf Tryd.prog 38) := (planOk_of (plan l1) _ [([1, 0, 1, 0], u1 l1)] rfl ⟨ok1, trivial⟩)
theorem meets : MeetsF Tryd.prog 38 ⟨i, o, f⟩ :=
  funcT (fuel := 100) (depth := 10) (pl := (38, plan l1) :: pls) mixed tabS ⟨planOk, plsP⟩ (fun d =>  fe l1 d)
theorem spec : SpecOk Tryd.prog (fun _ => none) 38 (specF ⟨i, o, f⟩) := specF_ok (by kernel_rfl) meets
end Go.Proofs.YtaniibilgdhdiaaDoor.F38

/- What comes of function 28 of this program, slices.DeleteFunc[[]int,int], as the engine gives it. -/
namespace Go.Proofs.YtaniibilgdhdiaaDoor.F28
open Go Go.Proofs Go.Proofs.YtaniibilgdhdiaaDoor Go.RowKit Go.Proofs.YtaniibilgdhdiaaDoor.Sx
set_option linter.unusedVariables false
set_option maxRecDepth 100000
def tab (x38 : F38.FT) : List (FuncId × Sx.Spec) := [(38, specF ⟨F38.i, F38.o, x38⟩)]
def pls (x38 : F38.FT) : List (FuncId × Plan) := []
@[reducible] def k1 : Sh := .ag (some 29) (.pt false 3 (.sc (.int .i64) .nil) .nil) .nil
@[reducible] def i1 : Sh := .sl true 3 (.sc (.int .i64) .nil) (.sc (.int .i64) (.sc (.int .i64) .nil))
@[reducible] def o1 : Sh := .sl true 3 (.sc (.int .i64) .nil) (.sc (.int .i64) .nil)
abbrev G1 := Int → (List (Int) × Int × Int) → Option ((List (Int) × Int) × Unit)
def u1 (F : G1) : Un := ⟨42, [1], k1, [0, 5, 6], i1, [0, 5], o1, [1], [(.exit 0, [true, true])], F⟩
@[reducible] def i : Sh := .sl true 3 (.sc (.int .i64) .nil) (.ag (some 29) (.pt false 3 (.sc (.int .i64) .nil) .nil) .nil)
@[reducible] def o : Sh := .sl true 3 (.sc (.int .i64) .nil) .nil
abbrev FT := (List (Int) × Int) → Option (List (Int) × Unit)
theorem tabS : AllS Tryd.prog (tab F38.f) := ⟨F38.spec, trivial⟩
theorem plsP : AllP Tryd.prog (pls F38.f) := trivial
theorem mixed : Tryd.prog.follows .mixedOrders = true := by kernel_rfl
def r1P (x38 : F38.FT) : Int → (List (Int) × Int × Int) → Option ((List (Int) × Int × Int) ⊕ ((List (Int) × Int) × Unit)) := fun del (s, i_2, j) =>
    bif decide (j < (↑s.length : Int)) then
      bif decide ((0 : Int) ≤ j ∧ j < (↑s.length : Int) ∧ (0 : Nat) < s.length) then
       bif decide ((0 : Nat) + j.toNat < s.length) then
       bif !s.getD ((0 : Nat) + j.toNat) (0 : Int) == del then
       bif decide ((0 : Int) ≤ i_2 ∧ i_2 < (↑s.length : Int) ∧ (0 : Nat) < s.length) then
       bif decide ((0 : Nat) + i_2.toNat < s.length) then
       bif
       decide
       ((0 : Nat) + s.length ≤
       (s.set ((0 : Nat) + i_2.toNat) (s.getD ((0 : Nat) + j.toNat) (0 : Int))).length) &&
       true then
       some
       (Sum.inl
       (List.take s.length
       (List.drop (0 : Nat) (s.set ((0 : Nat) + i_2.toNat) (s.getD ((0 : Nat) + j.toNat) (0 : Int)))),
       IntKind.i64.wrap (i_2 + (1 : Int)), IntKind.i64.wrap (j + (1 : Int))))
       else none
       else none
       else none
       else
       bif decide ((0 : Nat) + s.length ≤ s.length) && true then
       some (Sum.inl (List.take s.length s, i_2, IntKind.i64.wrap (j + (1 : Int))))
       else none
       else none
      else none
    else
      bif decide ((0 : Nat) + s.length ≤ s.length) && true then some (Sum.inr ((List.take s.length s, i_2), PUnit.unit))
      else none
theorem r1e (x38 : F38.FT) (kd : Int) (d : List (Int) × Int × Int) : roundF (tabC Tryd.prog (tab x38) (pls x38) 100 10) 100 .none (u1 fun _ _ => none) (codeAt [1, 1, 1, 0, 1, 0, 0] (bodyOf Tryd.prog 28)) kd d = r1P x38 kd d := by kernel_rfl
noncomputable def r1 : Int → (List (Int) × Int × Int) → Option ((List (Int) × Int × Int) ⊕ ((List (Int) × Int) × Unit)) := r1P F38.f
noncomputable def l1 : G1 := fun kd d => iterO (r1 kd) d
theorem ok1 : UnOk Tryd.prog (u1 l1) (codeAt [1, 1, 1, 0, 1, 0] (bodyOf Tryd.prog 28)) :=
  loopT (p := .none) (c := codeAt [1, 1, 1, 0, 1, 0, 0] (bodyOf Tryd.prog 28)) (fuel := 100) (depth := 10) mixed tabS plsP (by kernel_rfl) trivial (by kernel_rfl) (fun kd d => r1e F38.f kd d) rfl
def fP (x38 : F38.FT) (l1 : G1) : FT := fun (s, del) =>
    bif decide ((0 : Nat) + s.length ≤ s.length) && true then
      (x38 (List.take s.length s, del)).bind fun r0 =>
       bif r0.fst == (-1 : Int) then
       bif decide ((0 : Nat) + s.length ≤ s.length) && true then some (List.take s.length s, PUnit.unit) else none
       else
       bif decide ((0 : Nat) + s.length ≤ s.length) && true then
       (l1 del (List.take s.length s, r0.fst, IntKind.i64.wrap (r0.fst + (1 : Int)))).bind fun r1 =>
       bif
       decide
       ((0 : Int) ≤ r1.fst.snd ∧
       r1.fst.snd ≤ none.getD (↑r1.fst.fst.length : Int) ∧
       none.getD (↑r1.fst.fst.length : Int) ≤ (↑r1.fst.fst.length : Int) ∧
       (0 : Nat) + r1.fst.fst.length ≤ r1.fst.fst.length) then
       bif decide (r1.fst.snd = (↑r1.fst.fst.length : Int)) then
       bif
       decide
       ((0 : Int) ≤ (some r1.fst.snd).getD (↑r1.fst.fst.length : Int) ∧
       (some r1.fst.snd).getD (↑r1.fst.fst.length : Int) ≤ (↑r1.fst.fst.length : Int) ∧
       (0 : Nat) + r1.fst.fst.length ≤ r1.fst.fst.length) then
       bif
       decide
       ((0 : Nat) + ((some r1.fst.snd).getD (↑r1.fst.fst.length : Int)).toNat ≤ r1.fst.fst.length) &&
       true then
       some
       (List.take ((some r1.fst.snd).getD (↑r1.fst.fst.length : Int)).toNat
       (List.drop (0 : Nat) r1.fst.fst),
       PUnit.unit)
       else none
       else none
       else
       bif
       decide
       ((0 : Nat) + Int.toNat r1.fst.snd +
       (List.replicate (none.getD (↑r1.fst.fst.length : Int) - r1.fst.snd).toNat (0 : Int)).length ≤
       r1.fst.fst.length) then
       bif
       decide
       ((0 : Int) ≤ (some r1.fst.snd).getD (↑r1.fst.fst.length : Int) ∧
       (some r1.fst.snd).getD (↑r1.fst.fst.length : Int) ≤ (↑r1.fst.fst.length : Int) ∧
       (0 : Nat) + r1.fst.fst.length ≤
       (List.take ((0 : Nat) + Int.toNat r1.fst.snd) r1.fst.fst ++
       List.replicate (none.getD (↑r1.fst.fst.length : Int) - r1.fst.snd).toNat
       (0 : Int) ++
       List.drop
       ((0 : Nat) + Int.toNat r1.fst.snd +
       (List.replicate (none.getD (↑r1.fst.fst.length : Int) - r1.fst.snd).toNat
       (0 : Int)).length)
       r1.fst.fst).length) then
       bif
       decide
       ((0 : Nat) + ((some r1.fst.snd).getD (↑r1.fst.fst.length : Int)).toNat ≤
       (List.take ((0 : Nat) + Int.toNat r1.fst.snd) r1.fst.fst ++
       List.replicate (none.getD (↑r1.fst.fst.length : Int) - r1.fst.snd).toNat
       (0 : Int) ++
       List.drop
       ((0 : Nat) + Int.toNat r1.fst.snd +
       (List.replicate (none.getD (↑r1.fst.fst.length : Int) - r1.fst.snd).toNat
       (0 : Int)).length)
       r1.fst.fst).length) &&
       true then
       some
       (List.take ((some r1.fst.snd).getD (↑r1.fst.fst.length : Int)).toNat
       (List.drop (0 : Nat)
       (List.take ((0 : Nat) + Int.toNat r1.fst.snd) r1.fst.fst ++
       List.replicate (none.getD (↑r1.fst.fst.length : Int) - r1.fst.snd).toNat (0 : Int) ++
       List.drop
       ((0 : Nat) + Int.toNat r1.fst.snd +
       (List.replicate (none.getD (↑r1.fst.fst.length : Int) - r1.fst.snd).toNat
       (0 : Int)).length)
       r1.fst.fst)),
       PUnit.unit)
       else none
       else none
       else none
       else none
       else none
    else none
theorem fe (x38 : F38.FT) (l1 : G1) (d : List (Int) × Int) : bodyF (tabC Tryd.prog (tab x38) ((28, (.node .none (.node .none (.node .none (.node (.node .none (.node (.unit (u1 l1)) .none)) .none))))) :: pls x38) 100 10) 100 28 i o d = fP x38 l1 d := by kernel_rfl
noncomputable def f : FT := fP F38.f l1
def plan (l1 : G1) : Plan := (.node .none (.node .none (.node .none (.node (.node .none (.node (.unit (u1 l1)) .none)) .none))))
theorem planOk : PlanOk Tryd.prog (plan l1) (bodyOf Tryd.prog 28) := (planOk_of (plan l1) _ [([1, 1, 1, 0, 1, 0], u1 l1)] rfl ⟨ok1, trivial⟩)
theorem meets : MeetsF Tryd.prog 28 ⟨i, o, f⟩ :=
  funcT (fuel := 100) (depth := 10) (pl := (28, plan l1) :: pls F38.f) mixed tabS ⟨planOk, plsP⟩ (fun d =>  fe F38.f l1 d)
theorem spec : SpecOk Tryd.prog (fun _ => none) 28 (specF ⟨i, o, f⟩) := specF_ok (by kernel_rfl) meets
end Go.Proofs.YtaniibilgdhdiaaDoor.F28

/- What comes of function 10 of this program, consulate.choose.Ranked, as the engine gives it. -/
namespace Go.Proofs.YtaniibilgdhdiaaDoor.F10
open Go Go.Proofs Go.Proofs.YtaniibilgdhdiaaDoor Go.RowKit Go.Proofs.YtaniibilgdhdiaaDoor.Sx
set_option linter.unusedVariables false
set_option maxRecDepth 100000
def tab (x26 : F26.FT) (x27 : F27.FT) (x28 : F28.FT) : List (FuncId × Sx.Spec) := [(26, specF ⟨F26.i, F26.o, x26⟩), (27, specF ⟨F27.i, F27.o, x27⟩), (28, specF ⟨F28.i, F28.o, x28⟩)]
def pls (x26 : F26.FT) (x27 : F27.FT) (x28 : F28.FT) : List (FuncId × Plan) := []
@[reducible] def k1 : Sh := .sl false 26 (.sc (.int .u32) (.sc (.int .i64) (.sc (.int .u8) (.sc (.int .u32) (.sc (.int .u32) (.sc (.int .i64) (.sc (.int .i64) (.sc (.int .u32) (.sc (.int .i64) .nil))))))))) .nil
@[reducible] def i1 : Sh := .sl true 3 (.sc (.int .i64) .nil) .nil
@[reducible] def o1 : Sh := .sl true 3 (.sc (.int .i64) .nil) (.pt true 3 (.sc (.int .i64) .nil) .nil)
abbrev G1 := ((List (Int × Int × Int × Int × Int × Int × Int × Int × Int))) → List (Int) → Option ((List (Int) × Int) × Unit)
def u1 (F : G1) : Un := ⟨22, [0], k1, [4], i1, [4, 5], o1, [0, 3], [(.normal, [true, true])], F⟩
@[reducible] def k2 : Sh := .pt true 3 (.sc (.int .i64) .nil) .nil
@[reducible] def i2 : Sh := .sl true 3 (.sc (.int .i64) .nil) .nil
@[reducible] def o2 : Sh := .sl true 3 (.sc (.int .i64) .nil) .nil
abbrev G2 := Int → List (Int) → Option (List (Int) × Unit)
def u2 (F : G2) : Un := ⟨22, [5], k2, [3], i2, [3], o2, [0, 4, 5], [(.normal, [true])], F⟩
@[reducible] def k3 : Sh := .nil
@[reducible] def i3 : Sh := .sl true 3 (.sc (.int .i64) .nil) (.pt true 3 (.sc (.int .i64) .nil) .nil)
@[reducible] def o3 : Sh := .sl true 3 (.sc (.int .i64) .nil) .nil
abbrev G3 := Unit → (List (Int) × Int) → Option (List (Int) × Int)
def u3 (F : G3) : Un := ⟨22, [], k3, [4, 5], i3, [4], o3, [0, 3], [(.normal, [true])], F⟩
@[reducible] def k4 : Sh := .sl false 26 (.sc (.int .u32) (.sc (.int .i64) (.sc (.int .u8) (.sc (.int .u32) (.sc (.int .u32) (.sc (.int .i64) (.sc (.int .i64) (.sc (.int .u32) (.sc (.int .i64) .nil))))))))) .nil
@[reducible] def i4 : Sh := .sl true 3 (.sc (.int .i64) .nil) (.sl true 3 (.sc (.int .i64) .nil) .nil)
@[reducible] def o4 : Sh := .sl true 3 (.sc (.int .i64) .nil) .nil
abbrev G4 := ((List (Int × Int × Int × Int × Int × Int × Int × Int × Int))) → (List (Int) × List (Int)) → Option (List (Int) × Unit)
def u4 (F : G4) : Un := ⟨22, [0], k4, [3, 4], i4, [3], o4, [0], [(.exit 0, [true])], F⟩
@[reducible] def i : Sh := .sl false 26 (.sc (.int .u32) (.sc (.int .i64) (.sc (.int .u8) (.sc (.int .u32) (.sc (.int .u32) (.sc (.int .i64) (.sc (.int .i64) (.sc (.int .u32) (.sc (.int .i64) .nil))))))))) .nil
@[reducible] def o : Sh := .sl true 3 (.sc (.int .i64) .nil) .nil
abbrev FT := ((List (Int × Int × Int × Int × Int × Int × Int × Int × Int))) → Option (List (Int) × Unit)
theorem tabS : AllS Tryd.prog (tab F26.f F27.f F28.f) := ⟨F26.spec, F27.spec, F28.spec, trivial⟩
theorem plsP : AllP Tryd.prog (pls F26.f F27.f F28.f) := trivial
theorem mixed : Tryd.prog.follows .mixedOrders = true := by kernel_rfl
def r1P (x26 : F26.FT) (x27 : F27.FT) (x28 : F28.FT) : G1 := fun l rest =>
    bif decide ((0 : Nat) + l.length ≤ l.length) && true then
      bif decide ((0 : Nat) + rest.length ≤ rest.length) && true then
       (x27 (List.take l.length l, List.take rest.length rest)).bind fun r0 =>
       bif decide ((0 : Nat) + rest.length ≤ rest.length) && true then
       some ((List.take rest.length rest, r0.fst), PUnit.unit)
       else none
      else none
    else none
theorem r1e (x26 : F26.FT) (x27 : F27.FT) (x28 : F28.FT) (kd : (List (Int × Int × Int × Int × Int × Int × Int × Int × Int))) (d : List (Int)) : unitF (tabC Tryd.prog (tab x26 x27 x28) (pls x26 x27 x28) 100 10) 100 .none (u1 fun _ _ => none) (codeAt [1, 1, 0, 1, 0, 0, 1, 0, 0] (bodyOf Tryd.prog 10)) kd d = r1P x26 x27 x28 kd d := by kernel_rfl
noncomputable def r1 : G1 := r1P F26.f F27.f F28.f
noncomputable def l1 : G1 := r1
theorem ok1 : UnOk Tryd.prog (u1 l1) (codeAt [1, 1, 0, 1, 0, 0, 1, 0, 0] (bodyOf Tryd.prog 10)) :=
  blockT (p := .none) (fuel := 100) (depth := 10) mixed tabS plsP trivial (fun kd d =>  r1e F26.f F27.f F28.f kd d)
def r2P (x26 : F26.FT) (x27 : F27.FT) (x28 : F28.FT) : G2 := fun k out =>
    bif decide (out.length + (1 : Nat) / OfNat.ofNat (1 : Nat) ≤ (1073741824 : Nat)) then
      bif decide ((0 : Nat) + out.length ≤ out.length) then
       bif
       decide
       ((0 : Nat) + (out.length + (1 : Nat) / OfNat.ofNat (1 : Nat)) ≤
       (List.take out.length out ++ [k]).length) &&
       true then
       some
       (List.take (out.length + (1 : Nat) / OfNat.ofNat (1 : Nat))
       (List.drop (0 : Nat) (List.take out.length out ++ [k])),
       PUnit.unit)
       else none
      else none
    else none
theorem r2e (x26 : F26.FT) (x27 : F27.FT) (x28 : F28.FT) (kd : Int) (d : List (Int)) : unitF (tabC Tryd.prog (tab x26 x27 x28) (pls x26 x27 x28) 100 10) 100 .none (u2 fun _ _ => none) (codeAt [1, 1, 0, 1, 0, 0, 1, 0, 1, 0] (bodyOf Tryd.prog 10)) kd d = r2P x26 x27 x28 kd d := by kernel_rfl
noncomputable def r2 : G2 := r2P F26.f F27.f F28.f
noncomputable def l2 : G2 := r2
theorem ok2 : UnOk Tryd.prog (u2 l2) (codeAt [1, 1, 0, 1, 0, 0, 1, 0, 1, 0] (bodyOf Tryd.prog 10)) :=
  blockT (p := .none) (fuel := 100) (depth := 10) mixed tabS plsP trivial (fun kd d =>  r2e F26.f F27.f F28.f kd d)
def r3P (x26 : F26.FT) (x27 : F27.FT) (x28 : F28.FT) : G3 := fun () (rest, k) =>
    bif decide ((0 : Nat) + rest.length ≤ rest.length) && true then
      (x28 (List.take rest.length rest, k)).bind fun r0 =>
       bif decide ((0 : Nat) + List.length r0.fst ≤ List.length r0.fst) && true then
       some (List.take (List.length r0.fst) (List.drop (0 : Nat) r0.fst), k)
       else none
    else none
theorem r3e (x26 : F26.FT) (x27 : F27.FT) (x28 : F28.FT) (kd : Unit) (d : List (Int) × Int) : unitF (tabC Tryd.prog (tab x26 x27 x28) (pls x26 x27 x28) 100 10) 100 .none (u3 fun _ _ => none) (codeAt [1, 1, 0, 1, 0, 0, 1, 0, 1, 1] (bodyOf Tryd.prog 10)) kd d = r3P x26 x27 x28 kd d := by kernel_rfl
noncomputable def r3 : G3 := r3P F26.f F27.f F28.f
noncomputable def l3 : G3 := r3
theorem ok3 : UnOk Tryd.prog (u3 l3) (codeAt [1, 1, 0, 1, 0, 0, 1, 0, 1, 1] (bodyOf Tryd.prog 10)) :=
  blockT (p := .none) (fuel := 100) (depth := 10) mixed tabS plsP trivial (fun kd d =>  r3e F26.f F27.f F28.f kd d)
def r4P (x26 : F26.FT) (x27 : F27.FT) (x28 : F28.FT) (l1 : G1) (l2 : G2) (l3 : G3) : ((List (Int × Int × Int × Int × Int × Int × Int × Int × Int))) → (List (Int) × List (Int)) → Option ((List (Int) × List (Int)) ⊕ (List (Int) × Unit)) := fun l (out, rest) =>
    bif decide ((↑rest.length : Int) > (0 : Int)) then
      bif decide ((0 : Nat) + l.length ≤ l.length) && true then
       bif decide ((0 : Nat) + rest.length ≤ rest.length) && true then
       (l1 (List.take l.length l) (List.take rest.length rest)).bind fun r0 =>
       bif decide ((0 : Nat) + out.length ≤ out.length) && true then
       (l2 r0.fst.snd (List.take out.length out)).bind fun r1 =>
       bif decide ((0 : Nat) + r0.fst.fst.length ≤ r0.fst.fst.length) && true then
       (l3 PUnit.unit (List.take r0.fst.fst.length (List.drop (0 : Nat) r0.fst.fst), r0.fst.snd)).bind
       fun r2 =>
       bif decide ((0 : Nat) + List.length r1.fst ≤ List.length r1.fst) && true then
       bif decide ((0 : Nat) + List.length r2.fst ≤ List.length r2.fst) && true then
       some
       (Sum.inl
       (List.take (List.length r1.fst) (List.drop (0 : Nat) r1.fst),
       List.take (List.length r2.fst) (List.drop (0 : Nat) r2.fst)))
       else none
       else none
       else none
       else none
       else none
      else none
    else
      bif decide ((0 : Nat) + out.length ≤ out.length) && true then some (Sum.inr (List.take out.length out, PUnit.unit))
      else none
theorem r4e (x26 : F26.FT) (x27 : F27.FT) (x28 : F28.FT) (l1 : G1) (l2 : G2) (l3 : G3) (kd : (List (Int × Int × Int × Int × Int × Int × Int × Int × Int))) (d : List (Int) × List (Int)) : roundF (tabC Tryd.prog (tab x26 x27 x28) (pls x26 x27 x28) 100 10) 100 (.node .none (.node (.node (.unit (u1 l1)) (.node (.unit (u2 l2)) (.unit (u3 l3)))) .none)) (u4 fun _ _ => none) (codeAt [1, 1, 0, 1, 0, 0] (bodyOf Tryd.prog 10)) kd d = r4P x26 x27 x28 l1 l2 l3 kd d := by kernel_rfl
noncomputable def r4 : ((List (Int × Int × Int × Int × Int × Int × Int × Int × Int))) → (List (Int) × List (Int)) → Option ((List (Int) × List (Int)) ⊕ (List (Int) × Unit)) := r4P F26.f F27.f F28.f l1 l2 l3
noncomputable def l4 : G4 := fun kd d => iterO (r4 kd) d
theorem ok4 : UnOk Tryd.prog (u4 l4) (codeAt [1, 1, 0, 1, 0] (bodyOf Tryd.prog 10)) :=
  loopT (p := (.node .none (.node (.node (.unit (u1 l1)) (.node (.unit (u2 l2)) (.unit (u3 l3)))) .none))) (c := codeAt [1, 1, 0, 1, 0, 0] (bodyOf Tryd.prog 10)) (fuel := 100) (depth := 10) mixed tabS plsP (by kernel_rfl) (planOk_of (.node .none (.node (.node (.unit (u1 l1)) (.node (.unit (u2 l2)) (.unit (u3 l3)))) .none)) _ [([1, 0, 0], u1 l1), ([1, 0, 1, 0], u2 l2), ([1, 0, 1, 1], u3 l3)] rfl ⟨ok1, ok2, ok3, trivial⟩) (by kernel_rfl) (fun kd d => r4e F26.f F27.f F28.f l1 l2 l3 kd d) rfl
def fP (x26 : F26.FT) (x27 : F27.FT) (x28 : F28.FT) (l4 : G4) : FT := fun l =>
    bif decide ((0 : Nat) + l.length ≤ l.length) && true then
      (x26 (List.take l.length l)).bind fun r0 =>
       bif decide ((0 : Nat) + l.length ≤ l.length) && true then
       bif decide ((0 : Nat) + List.length r0.fst ≤ List.length r0.fst) && true then
       (l4 (List.take l.length l) ([], List.take (List.length r0.fst) (List.drop (0 : Nat) r0.fst))).bind fun r1 =>
       bif decide ((0 : Nat) + List.length r1.fst ≤ List.length r1.fst) && true then
       some (List.take (List.length r1.fst) (List.drop (0 : Nat) r1.fst), PUnit.unit)
       else none
       else none
       else none
    else none
theorem fe (x26 : F26.FT) (x27 : F27.FT) (x28 : F28.FT) (l4 : G4) (d : (List (Int × Int × Int × Int × Int × Int × Int × Int × Int))) : bodyF (tabC Tryd.prog (tab x26 x27 x28) ((10, (.node .none (.node .none (.node (.node .none (.node (.unit (u4 l4)) .none)) .none)))) :: pls x26 x27 x28) 100 10) 100 10 i o d = fP x26 x27 x28 l4 d := by kernel_rfl
noncomputable def f : FT := fP F26.f F27.f F28.f l4
def plan (l4 : G4) : Plan := (.node .none (.node .none (.node (.node .none (.node (.unit (u4 l4)) .none)) .none)))
theorem planOk : PlanOk Tryd.prog (plan l4) (bodyOf Tryd.prog 10) := (planOk_of (plan l4) _ [([1, 1, 0, 1, 0], u4 l4)] rfl ⟨ok4, trivial⟩)
theorem meets : MeetsF Tryd.prog 10 ⟨i, o, f⟩ :=
  funcT (fuel := 100) (depth := 10) (pl := (10, plan l4) :: pls F26.f F27.f F28.f) mixed tabS ⟨planOk, plsP⟩ (fun d =>  fe F26.f F27.f F28.f l4 d)
theorem spec : SpecOk Tryd.prog (fun _ => none) 10 (specF ⟨i, o, f⟩) := specF_ok (by kernel_rfl) meets
end Go.Proofs.YtaniibilgdhdiaaDoor.F10

/- What comes of function 16 of this program, consulate.choose.Best, as the engine gives it. -/
namespace Go.Proofs.YtaniibilgdhdiaaDoor.F16
open Go Go.Proofs Go.Proofs.YtaniibilgdhdiaaDoor Go.RowKit Go.Proofs.YtaniibilgdhdiaaDoor.Sx
set_option linter.unusedVariables false
set_option maxRecDepth 100000
def tab (x26 : F26.FT) (x27 : F27.FT) : List (FuncId × Sx.Spec) := [(26, specF ⟨F26.i, F26.o, x26⟩), (27, specF ⟨F27.i, F27.o, x27⟩)]
def pls (x26 : F26.FT) (x27 : F27.FT) : List (FuncId × Plan) := []
@[reducible] def i : Sh := .sl false 26 (.sc (.int .u32) (.sc (.int .i64) (.sc (.int .u8) (.sc (.int .u32) (.sc (.int .u32) (.sc (.int .i64) (.sc (.int .i64) (.sc (.int .u32) (.sc (.int .i64) .nil))))))))) .nil
@[reducible] def o : Sh := .sc (.int .i64) .nil
abbrev FT := ((List (Int × Int × Int × Int × Int × Int × Int × Int × Int))) → Option (Int × Unit)
theorem tabS : AllS Tryd.prog (tab F26.f F27.f) := ⟨F26.spec, F27.spec, trivial⟩
theorem plsP : AllP Tryd.prog (pls F26.f F27.f) := trivial
theorem mixed : Tryd.prog.follows .mixedOrders = true := by kernel_rfl
def fP (x26 : F26.FT) (x27 : F27.FT) : FT := fun l =>
    bif decide ((0 : Nat) + l.length ≤ l.length) && true then
      (x26 (List.take l.length l)).bind fun r0 =>
       bif decide ((0 : Nat) + l.length ≤ l.length) && true then
       bif decide ((0 : Nat) + List.length r0.fst ≤ List.length r0.fst) && true then
       (x27 (List.take l.length l, List.take (List.length r0.fst) (List.drop (0 : Nat) r0.fst))).bind fun r1 =>
       some (r1.fst, PUnit.unit)
       else none
       else none
    else none
theorem fe (x26 : F26.FT) (x27 : F27.FT) (d : (List (Int × Int × Int × Int × Int × Int × Int × Int × Int))) : bodyF (tabC Tryd.prog (tab x26 x27) ((16, .none) :: pls x26 x27) 100 10) 100 16 i o d = fP x26 x27 d := by kernel_rfl
noncomputable def f : FT := fP F26.f F27.f
def plan : Plan := .none
theorem planOk : PlanOk Tryd.prog (plan) (bodyOf Tryd.prog 16) := (planOk_of (plan) _ [] (by kernel_rfl) trivial)
theorem meets : MeetsF Tryd.prog 16 ⟨i, o, f⟩ :=
  funcT (fuel := 100) (depth := 10) (pl := (16, plan) :: pls F26.f F27.f) mixed tabS ⟨planOk, plsP⟩ (fun d =>  fe F26.f F27.f d)
theorem spec : SpecOk Tryd.prog (fun _ => none) 16 (specF ⟨i, o, f⟩) := specF_ok (by kernel_rfl) meets
end Go.Proofs.YtaniibilgdhdiaaDoor.F16

/- What comes of function 30 of this program, consulate.consulateref21.class, as the engine gives it. -/
namespace Go.Proofs.YtaniibilgdhdiaaDoor.F30
open Go Go.Proofs Go.Proofs.YtaniibilgdhdiaaDoor Go.RowKit Go.Proofs.YtaniibilgdhdiaaDoor.Sx
set_option linter.unusedVariables false
set_option maxRecDepth 100000
def tab : List (FuncId × Sx.Spec) := []
def pls : List (FuncId × Plan) := []
@[reducible] def i : Sh := .sc (.int .i64) .nil
@[reducible] def o : Sh := .sc (.int .i64) .nil
abbrev FT := Int → Option (Int × Unit)
theorem tabS : AllS Tryd.prog (tab) := trivial
theorem plsP : AllP Tryd.prog (pls) := trivial
theorem mixed : Tryd.prog.follows .mixedOrders = true := by kernel_rfl
def fP : FT := fun n =>
    bif n == 0 then some (0, PUnit.unit)
    else
      bif n == 3 then some (1, PUnit.unit)
      else bif n == 1 then some (2, PUnit.unit) else bif n == 2 then some (2, PUnit.unit) else some (3, PUnit.unit)
theorem fe (d : Int) : bodyF (tabC Tryd.prog (tab) ((30, .none) :: pls) 100 10) 100 30 i o d = fP d := by kernel_rfl
noncomputable def f : FT := fP
def plan : Plan := .none
theorem planOk : PlanOk Tryd.prog (plan) (bodyOf Tryd.prog 30) := (planOk_of (plan) _ [] (by kernel_rfl) trivial)
theorem meets : MeetsF Tryd.prog 30 ⟨i, o, f⟩ :=
  funcT (fuel := 100) (depth := 10) (pl := (30, plan) :: pls) mixed tabS ⟨planOk, plsP⟩ (fun d =>  fe  d)
theorem spec : SpecOk Tryd.prog (fun _ => none) 30 (specF ⟨i, o, f⟩) := specF_ok (by kernel_rfl) meets
end Go.Proofs.YtaniibilgdhdiaaDoor.F30

/- What comes of function 12 of this program, consulate.consulateref21.Compare, as the engine gives it. -/
namespace Go.Proofs.YtaniibilgdhdiaaDoor.F12
open Go Go.Proofs Go.Proofs.YtaniibilgdhdiaaDoor Go.RowKit Go.Proofs.YtaniibilgdhdiaaDoor.Sx
set_option linter.unusedVariables false
set_option maxRecDepth 100000
def tab (x30 : F30.FT) : List (FuncId × Sx.Spec) := [(30, specF ⟨F30.i, F30.o, x30⟩)]
def pls (x30 : F30.FT) : List (FuncId × Plan) := []
@[reducible] def i : Sh := .ag none (.sc (.int .u32) (.sc (.int .i64) (.sc (.int .i64) (.sc (.int .u32) (.sc (.int .u32) (.sc (.int .i64) (.sc (.int .i64) (.sc (.int .u32) (.sc (.int .i64) .nil))))))))) (.ag none (.sc (.int .u32) (.sc (.int .i64) (.sc (.int .i64) (.sc (.int .u32) (.sc (.int .u32) (.sc (.int .i64) (.sc (.int .i64) (.sc (.int .u32) (.sc (.int .i64) .nil))))))))) (.sc .bool .nil))
@[reducible] def o : Sh := .sc (.int .i64) (.sc (.int .i64) .nil)
abbrev FT := ((Int × Int × Int × Int × Int × Int × Int × Int × Int) × (Int × Int × Int × Int × Int × Int × Int × Int × Int) × Bool) → Option ((Int × Int) × Unit)
theorem tabS : AllS Tryd.prog (tab F30.f) := ⟨F30.spec, trivial⟩
theorem plsP : AllP Tryd.prog (pls F30.f) := trivial
theorem mixed : Tryd.prog.follows .mixedOrders = true := by kernel_rfl
def fP (x30 : F30.FT) : FT := fun ((a0, a1, a2, a3, a4, a5, a6, a7, a8), (b0, b1, b2, b3, b4, b5, b6, b7, b8), med) =>
    bif a0 != b0 then bif decide (a0 > b0) then some ((-1, 1), PUnit.unit) else some ((1, 1), PUnit.unit)
    else
      bif a1 != b1 then bif decide (a1 < b1) then some ((-1, 2), PUnit.unit) else some ((1, 2), PUnit.unit)
      else
       bif a2 != b2 then bif decide (a2 < b2) then some ((-1, 3), PUnit.unit) else some ((1, 3), PUnit.unit)
       else
       bif med then
       bif a4 == b4 then
       bif a3 != b3 then bif decide (a3 < b3) then some ((-1, 4), PUnit.unit) else some ((1, 4), PUnit.unit)
       else
       (x30 a5).bind fun r0 =>
       (x30 b5).bind fun r1 =>
       bif r0.fst != r1.fst then
       (x30 a5).bind fun r2 =>
       (x30 b5).bind fun r3 =>
       bif decide (r2.fst < r3.fst) then some ((-1, 5), PUnit.unit) else some ((1, 5), PUnit.unit)
       else
       bif a6 != b6 then
       bif decide (a6 < b6) then some ((-1, 6), PUnit.unit) else some ((1, 6), PUnit.unit)
       else
       bif a7 != b7 then
       bif decide (a7 < b7) then some ((-1, 7), PUnit.unit) else some ((1, 7), PUnit.unit)
       else
       bif a8 != b8 then
       bif decide (a8 < b8) then some ((-1, 8), PUnit.unit) else some ((1, 8), PUnit.unit)
       else some ((0, 0), PUnit.unit)
       else
       (x30 a5).bind fun r0 =>
       (x30 b5).bind fun r1 =>
       bif r0.fst != r1.fst then
       (x30 a5).bind fun r2 =>
       (x30 b5).bind fun r3 =>
       bif decide (r2.fst < r3.fst) then some ((-1, 5), PUnit.unit) else some ((1, 5), PUnit.unit)
       else
       bif a6 != b6 then bif decide (a6 < b6) then some ((-1, 6), PUnit.unit) else some ((1, 6), PUnit.unit)
       else
       bif a7 != b7 then
       bif decide (a7 < b7) then some ((-1, 7), PUnit.unit) else some ((1, 7), PUnit.unit)
       else
       bif a8 != b8 then
       bif decide (a8 < b8) then some ((-1, 8), PUnit.unit) else some ((1, 8), PUnit.unit)
       else some ((0, 0), PUnit.unit)
       else
       (x30 a5).bind fun r0 =>
       (x30 b5).bind fun r1 =>
       bif r0.fst != r1.fst then
       (x30 a5).bind fun r2 =>
       (x30 b5).bind fun r3 =>
       bif decide (r2.fst < r3.fst) then some ((-1, 5), PUnit.unit) else some ((1, 5), PUnit.unit)
       else
       bif a6 != b6 then bif decide (a6 < b6) then some ((-1, 6), PUnit.unit) else some ((1, 6), PUnit.unit)
       else
       bif a7 != b7 then bif decide (a7 < b7) then some ((-1, 7), PUnit.unit) else some ((1, 7), PUnit.unit)
       else
       bif a8 != b8 then
       bif decide (a8 < b8) then some ((-1, 8), PUnit.unit) else some ((1, 8), PUnit.unit)
       else some ((0, 0), PUnit.unit)
theorem fe (x30 : F30.FT) (d : (Int × Int × Int × Int × Int × Int × Int × Int × Int) × (Int × Int × Int × Int × Int × Int × Int × Int × Int) × Bool) : bodyF (tabC Tryd.prog (tab x30) ((12, .none) :: pls x30) 100 10) 100 12 i o d = fP x30 d := by kernel_rfl
noncomputable def f : FT := fP F30.f
def plan : Plan := .none
theorem planOk : PlanOk Tryd.prog (plan) (bodyOf Tryd.prog 12) := (planOk_of (plan) _ [] (by kernel_rfl) trivial)
theorem meets : MeetsF Tryd.prog 12 ⟨i, o, f⟩ :=
  funcT (fuel := 100) (depth := 10) (pl := (12, plan) :: pls F30.f) mixed tabS ⟨planOk, plsP⟩ (fun d =>  fe F30.f d)
theorem spec : SpecOk Tryd.prog (fun _ => none) 12 (specF ⟨i, o, f⟩) := specF_ok (by kernel_rfl) meets
end Go.Proofs.YtaniibilgdhdiaaDoor.F12

/- What comes of function 31 of this program, consulate.consulateref21.First, as the engine gives it. -/
namespace Go.Proofs.YtaniibilgdhdiaaDoor.F31
open Go Go.Proofs Go.Proofs.YtaniibilgdhdiaaDoor Go.RowKit Go.Proofs.YtaniibilgdhdiaaDoor.Sx
set_option linter.unusedVariables false
set_option maxRecDepth 100000
def tab : List (FuncId × Sx.Spec) := []
def pls : List (FuncId × Plan) := []
@[reducible] def k1 : Sh := .sl false 41 (.sc (.int .u32) (.sc (.int .i64) (.sc (.int .i64) (.sc (.int .u32) (.sc (.int .u32) (.sc (.int .i64) (.sc (.int .i64) (.sc (.int .u32) (.sc (.int .i64) .nil))))))))) (.sl false 4 (.sc .bool .nil) (.sc (.int .i64) .nil))
@[reducible] def i1 : Sh := .sc (.int .i64) .nil
@[reducible] def o1 : Sh := .sc (.int .i64) (.sc (.int .i64) .nil)
abbrev G1 := ((List (Int × Int × Int × Int × Int × Int × Int × Int × Int)) × List (Bool) × Int) → Int → Option ((Int × Int) × Unit)
def u1 (F : G1) : Un := ⟨34, [0, 1, 2], k1, [7], i1, [6], o1, [0, 1, 2], [(.exit 0, [false]), (.ret, [true])], F⟩
@[reducible] def i : Sh := .sl false 41 (.sc (.int .u32) (.sc (.int .i64) (.sc (.int .i64) (.sc (.int .u32) (.sc (.int .u32) (.sc (.int .i64) (.sc (.int .i64) (.sc (.int .u32) (.sc (.int .i64) .nil))))))))) (.sl false 4 (.sc .bool .nil) (.sc (.int .i64) .nil))
@[reducible] def o : Sh := .sc (.int .i64) .nil
abbrev FT := ((List (Int × Int × Int × Int × Int × Int × Int × Int × Int)) × List (Bool) × Int) → Option (Int × Unit)
theorem tabS : AllS Tryd.prog (tab) := trivial
theorem plsP : AllP Tryd.prog (pls) := trivial
theorem mixed : Tryd.prog.follows .mixedOrders = true := by kernel_rfl
def r1P : ((List (Int × Int × Int × Int × Int × Int × Int × Int × Int)) × List (Bool) × Int) → Int → Option (Int ⊕ ((Int × Int) × Unit)) := fun (l, gone, k) i_2 =>
    bif decide (i_2 < (↑l.length : Int)) then
      bif decide ((0 : Int) ≤ i_2 ∧ i_2 < (↑gone.length : Int) ∧ (0 : Nat) < gone.length) then
       bif decide ((0 : Nat) + i_2.toNat < gone.length) then
       bif !gone.getD ((0 : Nat) + i_2.toNat) false then
       bif decide ((0 : Int) ≤ i_2 ∧ i_2 < (↑l.length : Int) ∧ (0 : Nat) < l.length) then
       bif decide ((0 : Nat) + i_2.toNat < l.length) then
       bif decide ((0 : Int) ≤ k ∧ k < (↑l.length : Int) ∧ (0 : Nat) < l.length) then
       bif decide ((0 : Nat) + k.toNat < l.length) then
       bif
       (l.getD ((0 : Nat) + i_2.toNat)
       ((0 : Int), (0 : Int), (0 : Int), (0 : Int), (0 : Int), (0 : Int), (0 : Int),
       (0 : Int), (0 : Int))).snd.snd.snd.snd.fst ==
       (l.getD ((0 : Nat) + k.toNat)
       ((0 : Int), (0 : Int), (0 : Int), (0 : Int), (0 : Int), (0 : Int), (0 : Int),
       (0 : Int), (0 : Int))).snd.snd.snd.snd.fst then
       some (Sum.inr (((1 : Int), i_2), PUnit.unit))
       else some (Sum.inl (IntKind.i64.wrap (i_2 + (1 : Int))))
       else none
       else none
       else none
       else none
       else some (Sum.inl (IntKind.i64.wrap (i_2 + (1 : Int))))
       else none
      else none
    else some (Sum.inr (((0 : Int), (0 : Int)), PUnit.unit))
theorem r1e (kd : (List (Int × Int × Int × Int × Int × Int × Int × Int × Int)) × List (Bool) × Int) (d : Int) : roundF (tabC Tryd.prog (tab) (pls) 100 10) 100 .none (u1 fun _ _ => none) (codeAt [1, 0, 1, 0, 0] (bodyOf Tryd.prog 31)) kd d = r1P kd d := by kernel_rfl
noncomputable def r1 : ((List (Int × Int × Int × Int × Int × Int × Int × Int × Int)) × List (Bool) × Int) → Int → Option (Int ⊕ ((Int × Int) × Unit)) := r1P
noncomputable def l1 : G1 := fun kd d => iterO (r1 kd) d
theorem ok1 : UnOk Tryd.prog (u1 l1) (codeAt [1, 0, 1, 0] (bodyOf Tryd.prog 31)) :=
  loopT (p := .none) (c := codeAt [1, 0, 1, 0, 0] (bodyOf Tryd.prog 31)) (fuel := 100) (depth := 10) mixed tabS plsP (by kernel_rfl) trivial (by kernel_rfl) (fun kd d => r1e  kd d) rfl
def fP (l1 : G1) : FT := fun (l, gone, k) =>
    bif decide ((0 : Nat) + l.length ≤ l.length) && true then
      bif decide ((0 : Nat) + gone.length ≤ gone.length) && true then
       (l1 (List.take l.length l, List.take gone.length gone, k) (OfNat.ofNat (0 : Nat))).bind fun r0 =>
       bif decide (r0.fst.fst = (0 : Int)) then some (k, PUnit.unit)
       else bif decide (r0.fst.fst = (1 : Int)) then some (r0.fst.snd, PUnit.unit) else none
      else none
    else none
theorem fe (l1 : G1) (d : (List (Int × Int × Int × Int × Int × Int × Int × Int × Int)) × List (Bool) × Int) : bodyF (tabC Tryd.prog (tab) ((31, (.node .none (.node (.node .none (.node (.unit (u1 l1)) .none)) .none))) :: pls) 100 10) 100 31 i o d = fP l1 d := by kernel_rfl
noncomputable def f : FT := fP l1
def plan (l1 : G1) : Plan := (.node .none (.node (.node .none (.node (.unit (u1 l1)) .none)) .none))
theorem planOk : PlanOk Tryd.prog (plan l1) (bodyOf Tryd.prog 31) := (planOk_of (plan l1) _ [([1, 0, 1, 0], u1 l1)] rfl ⟨ok1, trivial⟩)
theorem meets : MeetsF Tryd.prog 31 ⟨i, o, f⟩ :=
  funcT (fuel := 100) (depth := 10) (pl := (31, plan l1) :: pls) mixed tabS ⟨planOk, plsP⟩ (fun d =>  fe l1 d)
theorem spec : SpecOk Tryd.prog (fun _ => none) 31 (specF ⟨i, o, f⟩) := specF_ok (by kernel_rfl) meets
end Go.Proofs.YtaniibilgdhdiaaDoor.F31

/- What comes of function 17 of this program, consulate.consulateref21.Best, as the engine gives it. -/
namespace Go.Proofs.YtaniibilgdhdiaaDoor.F17
open Go Go.Proofs Go.Proofs.YtaniibilgdhdiaaDoor Go.RowKit Go.Proofs.YtaniibilgdhdiaaDoor.Sx
set_option linter.unusedVariables false
set_option maxRecDepth 100000
def tab (x12 : F12.FT) (x31 : F31.FT) : List (FuncId × Sx.Spec) := [(12, specF ⟨F12.i, F12.o, x12⟩), (31, specF ⟨F31.i, F31.o, x31⟩)]
def pls (x12 : F12.FT) (x31 : F31.FT) : List (FuncId × Plan) := []
@[reducible] def k1 : Sh := .sl false 41 (.sc (.int .u32) (.sc (.int .i64) (.sc (.int .i64) (.sc (.int .u32) (.sc (.int .u32) (.sc (.int .i64) (.sc (.int .i64) (.sc (.int .u32) (.sc (.int .i64) .nil))))))))) (.sl false 4 (.sc .bool .nil) (.sc (.int .i64) (.sc (.int .i64) .nil)))
@[reducible] def i1 : Sh := .nil
@[reducible] def o1 : Sh := .sc .bool .nil
abbrev G1 := ((List (Int × Int × Int × Int × Int × Int × Int × Int × Int)) × List (Bool) × Int × Int) → Unit → Option (Bool × Unit)
def u1 (F : G1) : Un := ⟨110, [0, 1, 6, 8], k1, [], i1, [50], o1, [0, 1, 5, 6, 7, 8], [(.normal, [true])], F⟩
@[reducible] def k2 : Sh := .sl false 41 (.sc (.int .u32) (.sc (.int .i64) (.sc (.int .i64) (.sc (.int .u32) (.sc (.int .u32) (.sc (.int .i64) (.sc (.int .i64) (.sc (.int .u32) (.sc (.int .i64) .nil))))))))) (.sc (.int .i64) (.sc (.int .i64) .nil))
@[reducible] def i2 : Sh := .nil
@[reducible] def o2 : Sh := .sc (.int .i64) .nil
abbrev G2 := ((List (Int × Int × Int × Int × Int × Int × Int × Int × Int)) × Int × Int) → Unit → Option (Int × Unit)
def u2 (F : G2) : Un := ⟨110, [0, 6, 8], k2, [], i2, [9], o2, [0, 1, 5, 6, 7, 8], [(.normal, [true])], F⟩
@[reducible] def k3 : Sh := .sc (.int .i64) (.sc (.int .i64) (.sc (.int .i64) .nil))
@[reducible] def i3 : Sh := .nil
@[reducible] def o3 : Sh := .sc .bool .nil
abbrev G3 := (Int × Int × Int) → Unit → Option (Bool × Unit)
def u3 (F : G3) : Un := ⟨110, [6, 8, 9], k3, [], i3, [73], o3, [0, 1, 5, 6, 7, 8], [(.normal, [true])], F⟩
@[reducible] def k4 : Sh := .sl false 41 (.sc (.int .u32) (.sc (.int .i64) (.sc (.int .i64) (.sc (.int .u32) (.sc (.int .u32) (.sc (.int .i64) (.sc (.int .i64) (.sc (.int .u32) (.sc (.int .i64) .nil))))))))) (.sl false 4 (.sc .bool .nil) (.sc (.int .i64) .nil))
@[reducible] def i4 : Sh := .sc .bool (.sc (.int .i64) .nil)
@[reducible] def o4 : Sh := .sc .bool .nil
abbrev G4 := ((List (Int × Int × Int × Int × Int × Int × Int × Int × Int)) × List (Bool) × Int) → (Bool × Int) → Option (Bool × Unit)
def u4 (F : G4) : Un := ⟨110, [0, 1, 6], k4, [7, 8], i4, [7], o4, [0, 1, 5, 6], [(.exit 2, [true])], F⟩
@[reducible] def k5 : Sh := .sl false 41 (.sc (.int .u32) (.sc (.int .i64) (.sc (.int .i64) (.sc (.int .u32) (.sc (.int .u32) (.sc (.int .i64) (.sc (.int .i64) (.sc (.int .u32) (.sc (.int .i64) .nil))))))))) (.sl false 4 (.sc .bool .nil) .nil)
@[reducible] def i5 : Sh := .sc (.int .i64) (.sc (.int .i64) .nil)
@[reducible] def o5 : Sh := .sc (.int .i64) .nil
abbrev G5 := ((List (Int × Int × Int × Int × Int × Int × Int × Int × Int)) × List (Bool)) → (Int × Int) → Option (Int × Unit)
def u5 (F : G5) : Un := ⟨110, [0, 1], k5, [5, 6], i5, [5], o5, [0, 1], [(.exit 0, [true])], F⟩
@[reducible] def i : Sh := .sl false 41 (.sc (.int .u32) (.sc (.int .i64) (.sc (.int .i64) (.sc (.int .u32) (.sc (.int .u32) (.sc (.int .i64) (.sc (.int .i64) (.sc (.int .u32) (.sc (.int .i64) .nil))))))))) (.sl false 4 (.sc .bool .nil) .nil)
@[reducible] def o : Sh := .sc (.int .i64) .nil
abbrev FT := ((List (Int × Int × Int × Int × Int × Int × Int × Int × Int)) × List (Bool)) → Option (Int × Unit)
theorem tabS : AllS Tryd.prog (tab F12.f F31.f) := ⟨F12.spec, F31.spec, trivial⟩
theorem plsP : AllP Tryd.prog (pls F12.f F31.f) := trivial
theorem mixed : Tryd.prog.follows .mixedOrders = true := by kernel_rfl
def r1P (x12 : F12.FT) (x31 : F31.FT) : G1 := fun (l, gone, i_2, k) () =>
    bif decide ((0 : Int) ≤ k ∧ k < (↑gone.length : Int) ∧ (0 : Nat) < gone.length) then
      bif decide ((0 : Nat) + k.toNat < gone.length) then
       bif gone.getD ((0 : Nat) + k.toNat) false then some (true, PUnit.unit)
       else
       bif decide ((0 : Int) ≤ k ∧ k < (↑l.length : Int) ∧ (0 : Nat) < l.length) then
       bif decide ((0 : Nat) + k.toNat < l.length) then
       bif decide ((0 : Int) ≤ i_2 ∧ i_2 < (↑l.length : Int) ∧ (0 : Nat) < l.length) then
       bif decide ((0 : Nat) + i_2.toNat < l.length) then
       bif
       (l.getD ((0 : Nat) + k.toNat)
       ((0 : Int), (0 : Int), (0 : Int), (0 : Int), (0 : Int), (0 : Int), (0 : Int),
       (0 : Int), (0 : Int))).snd.snd.snd.snd.fst !=
       (l.getD ((0 : Nat) + i_2.toNat)
       ((0 : Int), (0 : Int), (0 : Int), (0 : Int), (0 : Int), (0 : Int), (0 : Int),
       (0 : Int), (0 : Int))).snd.snd.snd.snd.fst then
       some (true, PUnit.unit)
       else some (k == i_2, PUnit.unit)
       else none
       else none
       else none
       else none
      else none
    else none
theorem r1e (x12 : F12.FT) (x31 : F31.FT) (kd : (List (Int × Int × Int × Int × Int × Int × Int × Int × Int)) × List (Bool) × Int × Int) (d : Unit) : unitF (tabC Tryd.prog (tab x12 x31) (pls x12 x31) 100 10) 100 .none (u1 fun _ _ => none) (codeAt [1, 1, 0, 1, 0, 0, 1, 0, 0, 1, 1, 0, 1, 0, 0, 1, 0, 0, 0, 0] (bodyOf Tryd.prog 17)) kd d = r1P x12 x31 kd d := by kernel_rfl
noncomputable def r1 : G1 := r1P F12.f F31.f
noncomputable def l1 : G1 := r1
theorem ok1 : UnOk Tryd.prog (u1 l1) (codeAt [1, 1, 0, 1, 0, 0, 1, 0, 0, 1, 1, 0, 1, 0, 0, 1, 0, 0, 0, 0] (bodyOf Tryd.prog 17)) :=
  blockT (p := .none) (fuel := 100) (depth := 10) mixed tabS plsP trivial (fun kd d =>  r1e F12.f F31.f kd d)
def r2P (x12 : F12.FT) (x31 : F31.FT) : G2 := fun (l, i_2, k) () =>
    bif decide ((0 : Int) ≤ k ∧ k < (↑l.length : Int) ∧ (0 : Nat) < l.length) then
      bif decide ((0 : Nat) + k.toNat < l.length) then
       bif decide ((0 : Int) ≤ i_2 ∧ i_2 < (↑l.length : Int) ∧ (0 : Nat) < l.length) then
       bif decide ((0 : Nat) + i_2.toNat < l.length) then
       (x12
       (((l.getD ((0 : Nat) + k.toNat)
       ((0 : Int), (0 : Int), (0 : Int), (0 : Int), (0 : Int), (0 : Int), (0 : Int), (0 : Int),
       (0 : Int))).fst,
       (l.getD ((0 : Nat) + k.toNat)
       ((0 : Int), (0 : Int), (0 : Int), (0 : Int), (0 : Int), (0 : Int), (0 : Int), (0 : Int),
       (0 : Int))).snd.fst,
       (l.getD ((0 : Nat) + k.toNat)
       ((0 : Int), (0 : Int), (0 : Int), (0 : Int), (0 : Int), (0 : Int), (0 : Int), (0 : Int),
       (0 : Int))).snd.snd.fst,
       (l.getD ((0 : Nat) + k.toNat)
       ((0 : Int), (0 : Int), (0 : Int), (0 : Int), (0 : Int), (0 : Int), (0 : Int), (0 : Int),
       (0 : Int))).snd.snd.snd.fst,
       (l.getD ((0 : Nat) + k.toNat)
       ((0 : Int), (0 : Int), (0 : Int), (0 : Int), (0 : Int), (0 : Int), (0 : Int), (0 : Int),
       (0 : Int))).snd.snd.snd.snd.fst,
       (l.getD ((0 : Nat) + k.toNat)
       ((0 : Int), (0 : Int), (0 : Int), (0 : Int), (0 : Int), (0 : Int), (0 : Int),
       (0 : Int), (0 : Int))).snd.snd.snd.snd.snd.fst,
       (l.getD ((0 : Nat) + k.toNat)
       ((0 : Int), (0 : Int), (0 : Int), (0 : Int), (0 : Int), (0 : Int), (0 : Int),
       (0 : Int), (0 : Int))).snd.snd.snd.snd.snd.snd.fst,
       (l.getD ((0 : Nat) + k.toNat)
       ((0 : Int), (0 : Int), (0 : Int), (0 : Int), (0 : Int), (0 : Int), (0 : Int),
       (0 : Int), (0 : Int))).snd.snd.snd.snd.snd.snd.snd.fst,
       (l.getD ((0 : Nat) + k.toNat)
       ((0 : Int), (0 : Int), (0 : Int), (0 : Int), (0 : Int), (0 : Int), (0 : Int),
       (0 : Int), (0 : Int))).snd.snd.snd.snd.snd.snd.snd.snd),
       ((l.getD ((0 : Nat) + i_2.toNat)
       ((0 : Int), (0 : Int), (0 : Int), (0 : Int), (0 : Int), (0 : Int), (0 : Int), (0 : Int),
       (0 : Int))).fst,
       (l.getD ((0 : Nat) + i_2.toNat)
       ((0 : Int), (0 : Int), (0 : Int), (0 : Int), (0 : Int), (0 : Int), (0 : Int), (0 : Int),
       (0 : Int))).snd.fst,
       (l.getD ((0 : Nat) + i_2.toNat)
       ((0 : Int), (0 : Int), (0 : Int), (0 : Int), (0 : Int), (0 : Int), (0 : Int), (0 : Int),
       (0 : Int))).snd.snd.fst,
       (l.getD ((0 : Nat) + i_2.toNat)
       ((0 : Int), (0 : Int), (0 : Int), (0 : Int), (0 : Int), (0 : Int), (0 : Int), (0 : Int),
       (0 : Int))).snd.snd.snd.fst,
       (l.getD ((0 : Nat) + i_2.toNat)
       ((0 : Int), (0 : Int), (0 : Int), (0 : Int), (0 : Int), (0 : Int), (0 : Int), (0 : Int),
       (0 : Int))).snd.snd.snd.snd.fst,
       (l.getD ((0 : Nat) + i_2.toNat)
       ((0 : Int), (0 : Int), (0 : Int), (0 : Int), (0 : Int), (0 : Int), (0 : Int),
       (0 : Int), (0 : Int))).snd.snd.snd.snd.snd.fst,
       (l.getD ((0 : Nat) + i_2.toNat)
       ((0 : Int), (0 : Int), (0 : Int), (0 : Int), (0 : Int), (0 : Int), (0 : Int),
       (0 : Int), (0 : Int))).snd.snd.snd.snd.snd.snd.fst,
       (l.getD ((0 : Nat) + i_2.toNat)
       ((0 : Int), (0 : Int), (0 : Int), (0 : Int), (0 : Int), (0 : Int), (0 : Int),
       (0 : Int), (0 : Int))).snd.snd.snd.snd.snd.snd.snd.fst,
       (l.getD ((0 : Nat) + i_2.toNat)
       ((0 : Int), (0 : Int), (0 : Int), (0 : Int), (0 : Int), (0 : Int), (0 : Int),
       (0 : Int), (0 : Int))).snd.snd.snd.snd.snd.snd.snd.snd),
       true)).bind
       fun r0 => some (r0.fst.fst, PUnit.unit)
       else none
       else none
      else none
    else none
theorem r2e (x12 : F12.FT) (x31 : F31.FT) (kd : (List (Int × Int × Int × Int × Int × Int × Int × Int × Int)) × Int × Int) (d : Unit) : unitF (tabC Tryd.prog (tab x12 x31) (pls x12 x31) 100 10) 100 .none (u2 fun _ _ => none) (codeAt [1, 1, 0, 1, 0, 0, 1, 0, 0, 1, 1, 0, 1, 0, 0, 1, 0, 0, 1, 0] (bodyOf Tryd.prog 17)) kd d = r2P x12 x31 kd d := by kernel_rfl
noncomputable def r2 : G2 := r2P F12.f F31.f
noncomputable def l2 : G2 := r2
theorem ok2 : UnOk Tryd.prog (u2 l2) (codeAt [1, 1, 0, 1, 0, 0, 1, 0, 0, 1, 1, 0, 1, 0, 0, 1, 0, 0, 1, 0] (bodyOf Tryd.prog 17)) :=
  blockT (p := .none) (fuel := 100) (depth := 10) mixed tabS plsP trivial (fun kd d =>  r2e F12.f F31.f kd d)
def r3P (x12 : F12.FT) (x31 : F31.FT) : G3 := fun (i_2, k, order) () =>
    bif decide (order < (0 : Int)) then some (true, PUnit.unit)
    else bif order == (0 : Int) then some (decide (k < i_2), PUnit.unit) else some (false, PUnit.unit)
theorem r3e (x12 : F12.FT) (x31 : F31.FT) (kd : Int × Int × Int) (d : Unit) : unitF (tabC Tryd.prog (tab x12 x31) (pls x12 x31) 100 10) 100 .none (u3 fun _ _ => none) (codeAt [1, 1, 0, 1, 0, 0, 1, 0, 0, 1, 1, 0, 1, 0, 0, 1, 0, 0, 1, 1, 0] (bodyOf Tryd.prog 17)) kd d = r3P x12 x31 kd d := by kernel_rfl
noncomputable def r3 : G3 := r3P F12.f F31.f
noncomputable def l3 : G3 := r3
theorem ok3 : UnOk Tryd.prog (u3 l3) (codeAt [1, 1, 0, 1, 0, 0, 1, 0, 0, 1, 1, 0, 1, 0, 0, 1, 0, 0, 1, 1, 0] (bodyOf Tryd.prog 17)) :=
  blockT (p := .none) (fuel := 100) (depth := 10) mixed tabS plsP trivial (fun kd d =>  r3e F12.f F31.f kd d)
def r4P (x12 : F12.FT) (x31 : F31.FT) (l1 : G1) (l2 : G2) (l3 : G3) : ((List (Int × Int × Int × Int × Int × Int × Int × Int × Int)) × List (Bool) × Int) → (Bool × Int) → Option ((Bool × Int) ⊕ (Bool × Unit)) := fun (l, gone, i_2) (wins, k) =>
    bif decide (k < (↑l.length : Int)) then
      bif decide ((0 : Nat) + l.length ≤ l.length) && true then
       bif decide ((0 : Nat) + gone.length ≤ gone.length) && true then
       (l1 (List.take l.length l, List.take gone.length gone, i_2, k) PUnit.unit).bind fun r0 =>
       bif r0.fst then some (Sum.inl (wins, IntKind.i64.wrap (k + (1 : Int))))
       else
       bif decide ((0 : Nat) + l.length ≤ l.length) && true then
       (l2 (List.take l.length l, i_2, k) PUnit.unit).bind fun r1 =>
       (l3 (i_2, k, r1.fst) PUnit.unit).bind fun r2 =>
       bif r2.fst then some (Sum.inl (false, IntKind.i64.wrap (k + (1 : Int))))
       else some (Sum.inl (wins, IntKind.i64.wrap (k + (1 : Int))))
       else none
       else none
      else none
    else some (Sum.inr (wins, PUnit.unit))
theorem r4e (x12 : F12.FT) (x31 : F31.FT) (l1 : G1) (l2 : G2) (l3 : G3) (kd : (List (Int × Int × Int × Int × Int × Int × Int × Int × Int)) × List (Bool) × Int) (d : Bool × Int) : roundF (tabC Tryd.prog (tab x12 x31) (pls x12 x31) 100 10) 100 (.node .none (.node (.node (.node (.node (.unit (u1 l1)) .none) (.node (.unit (u2 l2)) (.node (.unit (u3 l3)) .none))) .none) .none)) (u4 fun _ _ => none) (codeAt [1, 1, 0, 1, 0, 0, 1, 0, 0, 1, 1, 0, 1, 0, 0] (bodyOf Tryd.prog 17)) kd d = r4P x12 x31 l1 l2 l3 kd d := by kernel_rfl
noncomputable def r4 : ((List (Int × Int × Int × Int × Int × Int × Int × Int × Int)) × List (Bool) × Int) → (Bool × Int) → Option ((Bool × Int) ⊕ (Bool × Unit)) := r4P F12.f F31.f l1 l2 l3
noncomputable def l4 : G4 := fun kd d => iterO (r4 kd) d
theorem ok4 : UnOk Tryd.prog (u4 l4) (codeAt [1, 1, 0, 1, 0, 0, 1, 0, 0, 1, 1, 0, 1, 0] (bodyOf Tryd.prog 17)) :=
  loopT (p := (.node .none (.node (.node (.node (.node (.unit (u1 l1)) .none) (.node (.unit (u2 l2)) (.node (.unit (u3 l3)) .none))) .none) .none))) (c := codeAt [1, 1, 0, 1, 0, 0, 1, 0, 0, 1, 1, 0, 1, 0, 0] (bodyOf Tryd.prog 17)) (fuel := 100) (depth := 10) mixed tabS plsP (by kernel_rfl) (planOk_of (.node .none (.node (.node (.node (.node (.unit (u1 l1)) .none) (.node (.unit (u2 l2)) (.node (.unit (u3 l3)) .none))) .none) .none)) _ [([1, 0, 0, 0, 0], u1 l1), ([1, 0, 0, 1, 0], u2 l2), ([1, 0, 0, 1, 1, 0], u3 l3)] rfl ⟨ok1, ok2, ok3, trivial⟩) (by kernel_rfl) (fun kd d => r4e F12.f F31.f l1 l2 l3 kd d) rfl
def r5P (x12 : F12.FT) (x31 : F31.FT) (l4 : G4) : ((List (Int × Int × Int × Int × Int × Int × Int × Int × Int)) × List (Bool)) → (Int × Int) → Option ((Int × Int) ⊕ (Int × Unit)) := fun (l, gone) (at0, i_2) =>
    bif decide (i_2 < (↑l.length : Int)) then
      bif decide ((0 : Int) ≤ i_2 ∧ i_2 < (↑gone.length : Int) ∧ (0 : Nat) < gone.length) then
       bif decide ((0 : Nat) + i_2.toNat < gone.length) then
       bif gone.getD ((0 : Nat) + i_2.toNat) false then some (Sum.inl (at0, IntKind.i64.wrap (i_2 + (1 : Int))))
       else
       bif decide ((0 : Nat) + l.length ≤ l.length) && true then
       bif decide ((0 : Nat) + gone.length ≤ gone.length) && true then
       (l4 (List.take l.length l, List.take gone.length gone, i_2) (true, (0 : Int))).bind fun r0 =>
       bif !r0.fst then some (Sum.inl (at0, IntKind.i64.wrap (i_2 + (1 : Int))))
       else
       bif decide (at0 < (0 : Int)) then some (Sum.inl (i_2, IntKind.i64.wrap (i_2 + (1 : Int))))
       else
       bif decide ((0 : Int) ≤ i_2 ∧ i_2 < (↑l.length : Int) ∧ (0 : Nat) < l.length) then
       bif decide ((0 : Nat) + i_2.toNat < l.length) then
       bif decide ((0 : Int) ≤ at0 ∧ at0 < (↑l.length : Int) ∧ (0 : Nat) < l.length) then
       bif decide ((0 : Nat) + at0.toNat < l.length) then
       (x12
       (((l.getD ((0 : Nat) + i_2.toNat)
       ((0 : Int), (0 : Int), (0 : Int), (0 : Int), (0 : Int), (0 : Int), (0 : Int),
       (0 : Int), (0 : Int))).fst,
       (l.getD ((0 : Nat) + i_2.toNat)
       ((0 : Int), (0 : Int), (0 : Int), (0 : Int), (0 : Int), (0 : Int),
       (0 : Int), (0 : Int), (0 : Int))).snd.fst,
       (l.getD ((0 : Nat) + i_2.toNat)
       ((0 : Int), (0 : Int), (0 : Int), (0 : Int), (0 : Int), (0 : Int),
       (0 : Int), (0 : Int), (0 : Int))).snd.snd.fst,
       (l.getD ((0 : Nat) + i_2.toNat)
       ((0 : Int), (0 : Int), (0 : Int), (0 : Int), (0 : Int), (0 : Int),
       (0 : Int), (0 : Int), (0 : Int))).snd.snd.snd.fst,
       (l.getD ((0 : Nat) + i_2.toNat)
       ((0 : Int), (0 : Int), (0 : Int), (0 : Int), (0 : Int), (0 : Int),
       (0 : Int), (0 : Int), (0 : Int))).snd.snd.snd.snd.fst,
       (l.getD ((0 : Nat) + i_2.toNat)
       ((0 : Int), (0 : Int), (0 : Int), (0 : Int), (0 : Int), (0 : Int),
       (0 : Int), (0 : Int), (0 : Int))).snd.snd.snd.snd.snd.fst,
       (l.getD ((0 : Nat) + i_2.toNat)
       ((0 : Int), (0 : Int), (0 : Int), (0 : Int), (0 : Int), (0 : Int),
       (0 : Int), (0 : Int), (0 : Int))).snd.snd.snd.snd.snd.snd.fst,
       (l.getD ((0 : Nat) + i_2.toNat)
       ((0 : Int), (0 : Int), (0 : Int), (0 : Int), (0 : Int),
       (0 : Int), (0 : Int), (0 : Int),
       (0 : Int))).snd.snd.snd.snd.snd.snd.snd.fst,
       (l.getD ((0 : Nat) + i_2.toNat)
       ((0 : Int), (0 : Int), (0 : Int), (0 : Int), (0 : Int),
       (0 : Int), (0 : Int), (0 : Int),
       (0 : Int))).snd.snd.snd.snd.snd.snd.snd.snd),
       ((l.getD ((0 : Nat) + at0.toNat)
       ((0 : Int), (0 : Int), (0 : Int), (0 : Int), (0 : Int), (0 : Int), (0 : Int),
       (0 : Int), (0 : Int))).fst,
       (l.getD ((0 : Nat) + at0.toNat)
       ((0 : Int), (0 : Int), (0 : Int), (0 : Int), (0 : Int), (0 : Int),
       (0 : Int), (0 : Int), (0 : Int))).snd.fst,
       (l.getD ((0 : Nat) + at0.toNat)
       ((0 : Int), (0 : Int), (0 : Int), (0 : Int), (0 : Int), (0 : Int),
       (0 : Int), (0 : Int), (0 : Int))).snd.snd.fst,
       (l.getD ((0 : Nat) + at0.toNat)
       ((0 : Int), (0 : Int), (0 : Int), (0 : Int), (0 : Int), (0 : Int),
       (0 : Int), (0 : Int), (0 : Int))).snd.snd.snd.fst,
       (l.getD ((0 : Nat) + at0.toNat)
       ((0 : Int), (0 : Int), (0 : Int), (0 : Int), (0 : Int), (0 : Int),
       (0 : Int), (0 : Int), (0 : Int))).snd.snd.snd.snd.fst,
       (l.getD ((0 : Nat) + at0.toNat)
       ((0 : Int), (0 : Int), (0 : Int), (0 : Int), (0 : Int), (0 : Int),
       (0 : Int), (0 : Int), (0 : Int))).snd.snd.snd.snd.snd.fst,
       (l.getD ((0 : Nat) + at0.toNat)
       ((0 : Int), (0 : Int), (0 : Int), (0 : Int), (0 : Int), (0 : Int),
       (0 : Int), (0 : Int), (0 : Int))).snd.snd.snd.snd.snd.snd.fst,
       (l.getD ((0 : Nat) + at0.toNat)
       ((0 : Int), (0 : Int), (0 : Int), (0 : Int), (0 : Int),
       (0 : Int), (0 : Int), (0 : Int),
       (0 : Int))).snd.snd.snd.snd.snd.snd.snd.fst,
       (l.getD ((0 : Nat) + at0.toNat)
       ((0 : Int), (0 : Int), (0 : Int), (0 : Int), (0 : Int),
       (0 : Int), (0 : Int), (0 : Int),
       (0 : Int))).snd.snd.snd.snd.snd.snd.snd.snd),
       false)).bind
       fun r1 =>
       bif decide (r1.fst.fst < (0 : Int)) then
       some (Sum.inl (i_2, IntKind.i64.wrap (i_2 + (1 : Int))))
       else
       bif r1.fst.fst == (0 : Int) then
       bif decide ((0 : Nat) + l.length ≤ l.length) && true then
       bif decide ((0 : Nat) + gone.length ≤ gone.length) && true then
       (x31 (List.take l.length l, List.take gone.length gone, i_2)).bind fun r2 =>
       bif decide ((0 : Nat) + l.length ≤ l.length) && true then
       bif decide ((0 : Nat) + gone.length ≤ gone.length) && true then
       (x31 (List.take l.length l, List.take gone.length gone, at0)).bind fun r3 =>
       bif decide (r2.fst < r3.fst) then
       some (Sum.inl (i_2, IntKind.i64.wrap (i_2 + (1 : Int))))
       else some (Sum.inl (at0, IntKind.i64.wrap (i_2 + (1 : Int))))
       else none
       else none
       else none
       else none
       else some (Sum.inl (at0, IntKind.i64.wrap (i_2 + (1 : Int))))
       else none
       else none
       else none
       else none
       else none
       else none
       else none
      else none
    else some (Sum.inr (at0, PUnit.unit))
theorem r5e (x12 : F12.FT) (x31 : F31.FT) (l4 : G4) (kd : (List (Int × Int × Int × Int × Int × Int × Int × Int × Int)) × List (Bool)) (d : Int × Int) : roundF (tabC Tryd.prog (tab x12 x31) (pls x12 x31) 100 10) 100 (.node .none (.node (.node (.node .none (.node .none (.node (.node .none (.node (.unit (u4 l4)) .none)) .none))) .none) .none)) (u5 fun _ _ => none) (codeAt [1, 1, 0, 1, 0, 0] (bodyOf Tryd.prog 17)) kd d = r5P x12 x31 l4 kd d := by kernel_rfl
noncomputable def r5 : ((List (Int × Int × Int × Int × Int × Int × Int × Int × Int)) × List (Bool)) → (Int × Int) → Option ((Int × Int) ⊕ (Int × Unit)) := r5P F12.f F31.f l4
noncomputable def l5 : G5 := fun kd d => iterO (r5 kd) d
theorem ok5 : UnOk Tryd.prog (u5 l5) (codeAt [1, 1, 0, 1, 0] (bodyOf Tryd.prog 17)) :=
  loopT (p := (.node .none (.node (.node (.node .none (.node .none (.node (.node .none (.node (.unit (u4 l4)) .none)) .none))) .none) .none))) (c := codeAt [1, 1, 0, 1, 0, 0] (bodyOf Tryd.prog 17)) (fuel := 100) (depth := 10) mixed tabS plsP (by kernel_rfl) (planOk_of (.node .none (.node (.node (.node .none (.node .none (.node (.node .none (.node (.unit (u4 l4)) .none)) .none))) .none) .none)) _ [([1, 0, 0, 1, 1, 0, 1, 0], u4 l4)] rfl ⟨ok4, trivial⟩) (by kernel_rfl) (fun kd d => r5e F12.f F31.f l4 kd d) rfl
def fP (x12 : F12.FT) (x31 : F31.FT) (l5 : G5) : FT := fun (l, gone) =>
    bif decide ((0 : Nat) + l.length ≤ l.length) && true then
      bif decide ((0 : Nat) + gone.length ≤ gone.length) && true then
       (l5 (List.take l.length l, List.take gone.length gone) ((-1 : Int), (0 : Int))).bind fun r0 =>
       some (r0.fst, PUnit.unit)
      else none
    else none
theorem fe (x12 : F12.FT) (x31 : F31.FT) (l5 : G5) (d : (List (Int × Int × Int × Int × Int × Int × Int × Int × Int)) × List (Bool)) : bodyF (tabC Tryd.prog (tab x12 x31) ((17, (.node .none (.node .none (.node (.node .none (.node (.unit (u5 l5)) .none)) .none)))) :: pls x12 x31) 100 10) 100 17 i o d = fP x12 x31 l5 d := by kernel_rfl
noncomputable def f : FT := fP F12.f F31.f l5
def plan (l5 : G5) : Plan := (.node .none (.node .none (.node (.node .none (.node (.unit (u5 l5)) .none)) .none)))
theorem planOk : PlanOk Tryd.prog (plan l5) (bodyOf Tryd.prog 17) := (planOk_of (plan l5) _ [([1, 1, 0, 1, 0], u5 l5)] rfl ⟨ok5, trivial⟩)
theorem meets : MeetsF Tryd.prog 17 ⟨i, o, f⟩ :=
  funcT (fuel := 100) (depth := 10) (pl := (17, plan l5) :: pls F12.f F31.f) mixed tabS ⟨planOk, plsP⟩ (fun d =>  fe F12.f F31.f l5 d)
theorem spec : SpecOk Tryd.prog (fun _ => none) 17 (specF ⟨i, o, f⟩) := specF_ok (by kernel_rfl) meets
end Go.Proofs.YtaniibilgdhdiaaDoor.F17

/- What comes of function 18 of this program, consulate.consulateref21.Ranked, as the engine gives it. -/
namespace Go.Proofs.YtaniibilgdhdiaaDoor.F18
open Go Go.Proofs Go.Proofs.YtaniibilgdhdiaaDoor Go.RowKit Go.Proofs.YtaniibilgdhdiaaDoor.Sx
set_option linter.unusedVariables false
set_option maxRecDepth 100000
def tab (x17 : F17.FT) : List (FuncId × Sx.Spec) := [(17, specF ⟨F17.i, F17.o, x17⟩)]
def pls (x17 : F17.FT) : List (FuncId × Plan) := []
@[reducible] def k1 : Sh := .sl false 41 (.sc (.int .u32) (.sc (.int .i64) (.sc (.int .i64) (.sc (.int .u32) (.sc (.int .u32) (.sc (.int .i64) (.sc (.int .i64) (.sc (.int .u32) (.sc (.int .i64) .nil))))))))) .nil
@[reducible] def i1 : Sh := .sl true 3 (.sc (.int .i64) .nil) (.sl true 4 (.sc .bool .nil) .nil)
@[reducible] def o1 : Sh := .sl true 3 (.sc (.int .i64) .nil) .nil
abbrev G1 := ((List (Int × Int × Int × Int × Int × Int × Int × Int × Int))) → (List (Int) × List (Bool)) → Option (List (Int) × Unit)
def u1 (F : G1) : Un := ⟨25, [0], k1, [3, 4], i1, [3], o1, [0], [(.exit 0, [true])], F⟩
@[reducible] def i : Sh := .sl false 41 (.sc (.int .u32) (.sc (.int .i64) (.sc (.int .i64) (.sc (.int .u32) (.sc (.int .u32) (.sc (.int .i64) (.sc (.int .i64) (.sc (.int .u32) (.sc (.int .i64) .nil))))))))) .nil
@[reducible] def o : Sh := .sl true 3 (.sc (.int .i64) .nil) .nil
abbrev FT := ((List (Int × Int × Int × Int × Int × Int × Int × Int × Int))) → Option (List (Int) × Unit)
theorem tabS : AllS Tryd.prog (tab F17.f) := ⟨F17.spec, trivial⟩
theorem plsP : AllP Tryd.prog (pls F17.f) := trivial
theorem mixed : Tryd.prog.follows .mixedOrders = true := by kernel_rfl
def r1P (x17 : F17.FT) : ((List (Int × Int × Int × Int × Int × Int × Int × Int × Int))) → (List (Int) × List (Bool)) → Option ((List (Int) × List (Bool)) ⊕ (List (Int) × Unit)) := fun l (out, gone) =>
    bif decide ((↑out.length : Int) < (↑l.length : Int)) then
      bif decide ((0 : Nat) + l.length ≤ l.length) && true then
       bif decide ((0 : Nat) + gone.length ≤ gone.length) && true then
       (x17 (List.take l.length l, List.take gone.length gone)).bind fun r0 =>
       bif decide (out.length + (1 : Nat) / OfNat.ofNat (1 : Nat) ≤ (1073741824 : Nat)) then
       bif decide ((0 : Nat) + out.length ≤ out.length) then
       bif decide ((0 : Int) ≤ r0.fst ∧ r0.fst < (↑gone.length : Int) ∧ (0 : Nat) < gone.length) then
       bif decide ((0 : Nat) + Int.toNat r0.fst < gone.length) then
       bif
       decide
       ((0 : Nat) + (out.length + (1 : Nat) / OfNat.ofNat (1 : Nat)) ≤
       (List.take out.length out ++ [r0.fst]).length) &&
       true then
       bif
       decide ((0 : Nat) + gone.length ≤ (gone.set ((0 : Nat) + Int.toNat r0.fst) true).length) &&
       true then
       some
       (Sum.inl
       (List.take (out.length + (1 : Nat) / OfNat.ofNat (1 : Nat))
       (List.drop (0 : Nat) (List.take out.length out ++ [r0.fst])),
       List.take gone.length (List.drop (0 : Nat) (gone.set ((0 : Nat) + Int.toNat r0.fst) true))))
       else none
       else none
       else none
       else none
       else none
       else none
       else none
      else none
    else
      bif decide ((0 : Nat) + out.length ≤ out.length) && true then some (Sum.inr (List.take out.length out, PUnit.unit))
      else none
theorem r1e (x17 : F17.FT) (kd : (List (Int × Int × Int × Int × Int × Int × Int × Int × Int))) (d : List (Int) × List (Bool)) : roundF (tabC Tryd.prog (tab x17) (pls x17) 100 10) 100 .none (u1 fun _ _ => none) (codeAt [1, 1, 1, 0, 0, 0] (bodyOf Tryd.prog 18)) kd d = r1P x17 kd d := by kernel_rfl
noncomputable def r1 : ((List (Int × Int × Int × Int × Int × Int × Int × Int × Int))) → (List (Int) × List (Bool)) → Option ((List (Int) × List (Bool)) ⊕ (List (Int) × Unit)) := r1P F17.f
noncomputable def l1 : G1 := fun kd d => iterO (r1 kd) d
theorem ok1 : UnOk Tryd.prog (u1 l1) (codeAt [1, 1, 1, 0, 0] (bodyOf Tryd.prog 18)) :=
  loopT (p := .none) (c := codeAt [1, 1, 1, 0, 0, 0] (bodyOf Tryd.prog 18)) (fuel := 100) (depth := 10) mixed tabS plsP (by kernel_rfl) trivial (by kernel_rfl) (fun kd d => r1e F17.f kd d) rfl
def fP (x17 : F17.FT) (l1 : G1) : FT := fun l =>
    bif
       decide
       ((0 : Int) ≤ (↑l.length : Int) ∧
       (↑l.length : Int) ≤ (↑l.length : Int) ∧
       (↑l.length : Int) ≤ (1073741824 : Int) ∧
       (↑(OfNat.ofNat (1 : Nat)) : Int) * (↑l.length : Int) ≤ (281474976710656 : Int)) then
      bif decide ((0 : Nat) + l.length ≤ l.length) && true then
       bif
       decide ((0 : Nat) + (↑l.length : Int).toNat ≤ (List.replicate (↑l.length : Int).toNat false).length) &&
       true then
       (l1 (List.take l.length l)
       ([],
       List.take (↑l.length : Int).toNat
       (List.drop (0 : Nat) (List.replicate (↑l.length : Int).toNat false)))).bind
       fun r0 =>
       bif decide ((0 : Nat) + List.length r0.fst ≤ List.length r0.fst) && true then
       some (List.take (List.length r0.fst) (List.drop (0 : Nat) r0.fst), PUnit.unit)
       else none
       else none
      else none
    else none
theorem fe (x17 : F17.FT) (l1 : G1) (d : (List (Int × Int × Int × Int × Int × Int × Int × Int × Int))) : bodyF (tabC Tryd.prog (tab x17) ((18, (.node .none (.node .none (.node .none (.node (.node (.unit (u1 l1)) .none) .none))))) :: pls x17) 100 10) 100 18 i o d = fP x17 l1 d := by kernel_rfl
noncomputable def f : FT := fP F17.f l1
def plan (l1 : G1) : Plan := (.node .none (.node .none (.node .none (.node (.node (.unit (u1 l1)) .none) .none))))
theorem planOk : PlanOk Tryd.prog (plan l1) (bodyOf Tryd.prog 18) := (planOk_of (plan l1) _ [([1, 1, 1, 0, 0], u1 l1)] rfl ⟨ok1, trivial⟩)
theorem meets : MeetsF Tryd.prog 18 ⟨i, o, f⟩ :=
  funcT (fuel := 100) (depth := 10) (pl := (18, plan l1) :: pls F17.f) mixed tabS ⟨planOk, plsP⟩ (fun d =>  fe F17.f l1 d)
theorem spec : SpecOk Tryd.prog (fun _ => none) 18 (specF ⟨i, o, f⟩) := specF_ok (by kernel_rfl) meets
end Go.Proofs.YtaniibilgdhdiaaDoor.F18

/- What comes of function 13 of this program, consulate.consulatelaw21.of, as the engine gives it. -/
namespace Go.Proofs.YtaniibilgdhdiaaDoor.F13
open Go Go.Proofs Go.Proofs.YtaniibilgdhdiaaDoor Go.RowKit Go.Proofs.YtaniibilgdhdiaaDoor.Sx
set_option linter.unusedVariables false
set_option maxRecDepth 100000
def tab : List (FuncId × Sx.Spec) := []
def pls : List (FuncId × Plan) := []
@[reducible] def i : Sh := .ag none (.sc (.int .u32) (.sc (.int .i64) (.sc (.int .u8) (.sc (.int .u32) (.sc (.int .u32) (.sc (.int .i64) (.sc (.int .i64) (.sc (.int .u32) (.sc (.int .i64) .nil))))))))) .nil
@[reducible] def o : Sh := .ag none (.sc (.int .u32) (.sc (.int .i64) (.sc (.int .i64) (.sc (.int .u32) (.sc (.int .u32) (.sc (.int .i64) (.sc (.int .i64) (.sc (.int .u32) (.sc (.int .i64) .nil))))))))) .nil
abbrev FT := ((Int × Int × Int × Int × Int × Int × Int × Int × Int)) → Option (((Int × Int × Int × Int × Int × Int × Int × Int × Int)) × Unit)
theorem tabS : AllS Tryd.prog (tab) := trivial
theorem plsP : AllP Tryd.prog (pls) := trivial
theorem mixed : Tryd.prog.follows .mixedOrders = true := by kernel_rfl
def fP : FT := fun (c0, c1, c2, c3, c4, c5, c6, c7, c8) =>
   some ((c0, c1, IntKind.i64.wrap c2, c3, c4, c5, c6, c7, c8), PUnit.unit)
theorem fe (d : (Int × Int × Int × Int × Int × Int × Int × Int × Int)) : bodyF (tabC Tryd.prog (tab) ((13, .none) :: pls) 100 10) 100 13 i o d = fP d := by kernel_rfl
noncomputable def f : FT := fP
def plan : Plan := .none
theorem planOk : PlanOk Tryd.prog (plan) (bodyOf Tryd.prog 13) := (planOk_of (plan) _ [] (by kernel_rfl) trivial)
theorem meets : MeetsF Tryd.prog 13 ⟨i, o, f⟩ :=
  funcT (fuel := 100) (depth := 10) (pl := (13, plan) :: pls) mixed tabS ⟨planOk, plsP⟩ (fun d =>  fe  d)
theorem spec : SpecOk Tryd.prog (fun _ => none) 13 (specF ⟨i, o, f⟩) := specF_ok (by kernel_rfl) meets
end Go.Proofs.YtaniibilgdhdiaaDoor.F13
