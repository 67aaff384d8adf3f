/- What comes of function 16 of this program, cmp.Compare[uint32], as the engine gives it. -/
import Derived.Test.YtaniibilgdhdiaaChecked
import Derived.Test.YtaniibilgdhdiaaZN
import Derived.Test.YtaniibilgdhdiaaZO
namespace Go.Proofs.Ytaniibilgdhdiaa.F16
open Go Go.Proofs Go.Proofs.Ytaniibilgdhdiaa Go.RowKit Go.Proofs.Ytaniibilgdhdiaa.Sx
set_option linter.unusedVariables false
set_option maxRecDepth 100000
def tab : List (FuncId × Sx.Spec) := []
def pls : List (FuncId × Plan) := []
@[reducible] def i : Sh := .sc (.int .u32) (.sc (.int .u32) .nil)
@[reducible] def o : Sh := .sc (.int .i64) .nil
abbrev FT := (Int × Int) → Option (Int × Unit)
theorem tabS : AllS Try.prog (tab) := trivial
theorem plsP : AllP Try.prog (pls) := trivial
theorem mixed : Try.prog.follows .mixedOrders = true := by kernel_rfl
def fP : FT := fun (x, y) =>
    bif x != x then bif y != y then some (0, PUnit.unit) else some (-1, PUnit.unit)
    else
      bif y != y then some (1, PUnit.unit)
      else
       bif decide (x < y) then some (-1, PUnit.unit)
       else bif decide (x > y) then some (1, PUnit.unit) else some (0, PUnit.unit)
theorem fe (d : Int × Int) : bodyF (tabC Try.prog (tab) ((16, .none) :: pls) 100 10) 100 16 i o d = fP d := by kernel_rfl
noncomputable def f : FT := fP
def plan : Plan := .none
theorem planOk : PlanOk Try.prog (plan) (bodyOf Try.prog 16) := (planOk_of (plan) _ [] (by kernel_rfl) trivial)
theorem meets : MeetsF Try.prog 16 ⟨i, o, f⟩ :=
  funcT (fuel := 100) (depth := 10) (pl := (16, plan) :: pls) mixed tabS ⟨planOk, plsP⟩ (fun d => fe  d)
theorem spec : SpecOk Try.prog (fun _ => none) 16 (specF ⟨i, o, f⟩) := specF_ok (by kernel_rfl) meets
end Go.Proofs.Ytaniibilgdhdiaa.F16

/- What comes of function 17 of this program, cmp.Compare[int], as the engine gives it. -/
namespace Go.Proofs.Ytaniibilgdhdiaa.F17
open Go Go.Proofs Go.Proofs.Ytaniibilgdhdiaa Go.RowKit Go.Proofs.Ytaniibilgdhdiaa.Sx
set_option linter.unusedVariables false
set_option maxRecDepth 100000
def tab : List (FuncId × Sx.Spec) := []
def pls : List (FuncId × Plan) := []
@[reducible] def i : Sh := .sc (.int .i64) (.sc (.int .i64) .nil)
@[reducible] def o : Sh := .sc (.int .i64) .nil
abbrev FT := (Int × Int) → Option (Int × Unit)
theorem tabS : AllS Try.prog (tab) := trivial
theorem plsP : AllP Try.prog (pls) := trivial
theorem mixed : Try.prog.follows .mixedOrders = true := by kernel_rfl
def fP : FT := fun (x, y) =>
    bif x != x then bif y != y then some (0, PUnit.unit) else some (-1, PUnit.unit)
    else
      bif y != y then some (1, PUnit.unit)
      else
       bif decide (x < y) then some (-1, PUnit.unit)
       else bif decide (x > y) then some (1, PUnit.unit) else some (0, PUnit.unit)
theorem fe (d : Int × Int) : bodyF (tabC Try.prog (tab) ((17, .none) :: pls) 100 10) 100 17 i o d = fP d := by kernel_rfl
noncomputable def f : FT := fP
def plan : Plan := .none
theorem planOk : PlanOk Try.prog (plan) (bodyOf Try.prog 17) := (planOk_of (plan) _ [] (by kernel_rfl) trivial)
theorem meets : MeetsF Try.prog 17 ⟨i, o, f⟩ :=
  funcT (fuel := 100) (depth := 10) (pl := (17, plan) :: pls) mixed tabS ⟨planOk, plsP⟩ (fun d => fe  d)
theorem spec : SpecOk Try.prog (fun _ => none) 17 (specF ⟨i, o, f⟩) := specF_ok (by kernel_rfl) meets
end Go.Proofs.Ytaniibilgdhdiaa.F17

/- What comes of function 18 of this program, cmp.Compare[byte], as the engine gives it. -/
namespace Go.Proofs.Ytaniibilgdhdiaa.F18
open Go Go.Proofs Go.Proofs.Ytaniibilgdhdiaa Go.RowKit Go.Proofs.Ytaniibilgdhdiaa.Sx
set_option linter.unusedVariables false
set_option maxRecDepth 100000
def tab : List (FuncId × Sx.Spec) := []
def pls : List (FuncId × Plan) := []
@[reducible] def i : Sh := .sc (.int .u8) (.sc (.int .u8) .nil)
@[reducible] def o : Sh := .sc (.int .i64) .nil
abbrev FT := (Int × Int) → Option (Int × Unit)
theorem tabS : AllS Try.prog (tab) := trivial
theorem plsP : AllP Try.prog (pls) := trivial
theorem mixed : Try.prog.follows .mixedOrders = true := by kernel_rfl
def fP : FT := fun (x, y) =>
    bif x != x then bif y != y then some (0, PUnit.unit) else some (-1, PUnit.unit)
    else
      bif y != y then some (1, PUnit.unit)
      else
       bif decide (x < y) then some (-1, PUnit.unit)
       else bif decide (x > y) then some (1, PUnit.unit) else some (0, PUnit.unit)
theorem fe (d : Int × Int) : bodyF (tabC Try.prog (tab) ((18, .none) :: pls) 100 10) 100 18 i o d = fP d := by kernel_rfl
noncomputable def f : FT := fP
def plan : Plan := .none
theorem planOk : PlanOk Try.prog (plan) (bodyOf Try.prog 18) := (planOk_of (plan) _ [] (by kernel_rfl) trivial)
theorem meets : MeetsF Try.prog 18 ⟨i, o, f⟩ :=
  funcT (fuel := 100) (depth := 10) (pl := (18, plan) :: pls) mixed tabS ⟨planOk, plsP⟩ (fun d => fe  d)
theorem spec : SpecOk Try.prog (fun _ => none) 18 (specF ⟨i, o, f⟩) := specF_ok (by kernel_rfl) meets
end Go.Proofs.Ytaniibilgdhdiaa.F18

/- What comes of function 19 of this program, consulate.choose.class, as the engine gives it. -/
namespace Go.Proofs.Ytaniibilgdhdiaa.F19
open Go Go.Proofs Go.Proofs.Ytaniibilgdhdiaa Go.RowKit Go.Proofs.Ytaniibilgdhdiaa.Sx
set_option linter.unusedVariables false
set_option maxRecDepth 100000
def tab : List (FuncId × Sx.Spec) := []
def pls : List (FuncId × Plan) := []
@[reducible] def i : Sh := .sc (.int .i64) .nil
@[reducible] def o : Sh := .sc (.int .i64) .nil
abbrev FT := Int → Option (Int × Unit)
theorem tabS : AllS Try.prog (tab) := trivial
theorem plsP : AllP Try.prog (pls) := trivial
theorem mixed : Try.prog.follows .mixedOrders = true := by kernel_rfl
def fP : FT := fun n =>
    bif n == 0 then some (0, PUnit.unit)
    else
      bif n == 3 then some (1, PUnit.unit)
      else bif n == 2 then some (2, PUnit.unit) else bif n == 1 then some (2, PUnit.unit) else some (3, PUnit.unit)
theorem fe (d : Int) : bodyF (tabC Try.prog (tab) ((19, .none) :: pls) 100 10) 100 19 i o d = fP d := by kernel_rfl
noncomputable def f : FT := fP
def plan : Plan := .none
theorem planOk : PlanOk Try.prog (plan) (bodyOf Try.prog 19) := (planOk_of (plan) _ [] (by kernel_rfl) trivial)
theorem meets : MeetsF Try.prog 19 ⟨i, o, f⟩ :=
  funcT (fuel := 100) (depth := 10) (pl := (19, plan) :: pls) mixed tabS ⟨planOk, plsP⟩ (fun d => fe  d)
theorem spec : SpecOk Try.prog (fun _ => none) 19 (specF ⟨i, o, f⟩) := specF_ok (by kernel_rfl) meets
end Go.Proofs.Ytaniibilgdhdiaa.F19

/- What comes of function 20 of this program, cmp.Compare[int64], as the engine gives it. -/
namespace Go.Proofs.Ytaniibilgdhdiaa.F20
open Go Go.Proofs Go.Proofs.Ytaniibilgdhdiaa Go.RowKit Go.Proofs.Ytaniibilgdhdiaa.Sx
set_option linter.unusedVariables false
set_option maxRecDepth 100000
def tab : List (FuncId × Sx.Spec) := []
def pls : List (FuncId × Plan) := []
@[reducible] def i : Sh := .sc (.int .i64) (.sc (.int .i64) .nil)
@[reducible] def o : Sh := .sc (.int .i64) .nil
abbrev FT := (Int × Int) → Option (Int × Unit)
theorem tabS : AllS Try.prog (tab) := trivial
theorem plsP : AllP Try.prog (pls) := trivial
theorem mixed : Try.prog.follows .mixedOrders = true := by kernel_rfl
def fP : FT := fun (x, y) =>
    bif x != x then bif y != y then some (0, PUnit.unit) else some (-1, PUnit.unit)
    else
      bif y != y then some (1, PUnit.unit)
      else
       bif decide (x < y) then some (-1, PUnit.unit)
       else bif decide (x > y) then some (1, PUnit.unit) else some (0, PUnit.unit)
theorem fe (d : Int × Int) : bodyF (tabC Try.prog (tab) ((20, .none) :: pls) 100 10) 100 20 i o d = fP d := by kernel_rfl
noncomputable def f : FT := fP
def plan : Plan := .none
theorem planOk : PlanOk Try.prog (plan) (bodyOf Try.prog 20) := (planOk_of (plan) _ [] (by kernel_rfl) trivial)
theorem meets : MeetsF Try.prog 20 ⟨i, o, f⟩ :=
  funcT (fuel := 100) (depth := 10) (pl := (20, plan) :: pls) mixed tabS ⟨planOk, plsP⟩ (fun d => fe  d)
theorem spec : SpecOk Try.prog (fun _ => none) 20 (specF ⟨i, o, f⟩) := specF_ok (by kernel_rfl) meets
end Go.Proofs.Ytaniibilgdhdiaa.F20

/- What comes of function 21 of this program, cmp.Compare[consulate.api.IP], as the engine gives it. -/
namespace Go.Proofs.Ytaniibilgdhdiaa.F21
open Go Go.Proofs Go.Proofs.Ytaniibilgdhdiaa Go.RowKit Go.Proofs.Ytaniibilgdhdiaa.Sx
set_option linter.unusedVariables false
set_option maxRecDepth 100000
def tab : List (FuncId × Sx.Spec) := []
def pls : List (FuncId × Plan) := []
@[reducible] def i : Sh := .sc (.int .u32) (.sc (.int .u32) .nil)
@[reducible] def o : Sh := .sc (.int .i64) .nil
abbrev FT := (Int × Int) → Option (Int × Unit)
theorem tabS : AllS Try.prog (tab) := trivial
theorem plsP : AllP Try.prog (pls) := trivial
theorem mixed : Try.prog.follows .mixedOrders = true := by kernel_rfl
def fP : FT := fun (x, y) =>
    bif x != x then bif y != y then some (0, PUnit.unit) else some (-1, PUnit.unit)
    else
      bif y != y then some (1, PUnit.unit)
      else
       bif decide (x < y) then some (-1, PUnit.unit)
       else bif decide (x > y) then some (1, PUnit.unit) else some (0, PUnit.unit)
theorem fe (d : Int × Int) : bodyF (tabC Try.prog (tab) ((21, .none) :: pls) 100 10) 100 21 i o d = fP d := by kernel_rfl
noncomputable def f : FT := fP
def plan : Plan := .none
theorem planOk : PlanOk Try.prog (plan) (bodyOf Try.prog 21) := (planOk_of (plan) _ [] (by kernel_rfl) trivial)
theorem meets : MeetsF Try.prog 21 ⟨i, o, f⟩ :=
  funcT (fuel := 100) (depth := 10) (pl := (21, plan) :: pls) mixed tabS ⟨planOk, plsP⟩ (fun d => fe  d)
theorem spec : SpecOk Try.prog (fun _ => none) 21 (specF ⟨i, o, f⟩) := specF_ok (by kernel_rfl) meets
end Go.Proofs.Ytaniibilgdhdiaa.F21

/- What comes of function 10 of this program, consulate.choose.Compare, as the engine gives it. -/
namespace Go.Proofs.Ytaniibilgdhdiaa.F10
open Go Go.Proofs Go.Proofs.Ytaniibilgdhdiaa Go.RowKit Go.Proofs.Ytaniibilgdhdiaa.Sx
set_option linter.unusedVariables false
set_option maxRecDepth 100000
def tab (x16 : F16.FT) (x17 : F17.FT) (x18 : F18.FT) (x19 : F19.FT) (x20 : F20.FT) (x21 : F21.FT) : List (FuncId × Sx.Spec) := [(16, specF ⟨F16.i, F16.o, x16⟩), (17, specF ⟨F17.i, F17.o, x17⟩), (18, specF ⟨F18.i, F18.o, x18⟩), (19, specF ⟨F19.i, F19.o, x19⟩), (20, specF ⟨F20.i, F20.o, x20⟩), (21, specF ⟨F21.i, F21.o, x21⟩)]
def pls (x16 : F16.FT) (x17 : F17.FT) (x18 : F18.FT) (x19 : F19.FT) (x20 : F20.FT) (x21 : F21.FT) : List (FuncId × Plan) := []
@[reducible] def i : Sh := .ag none (.sc (.int .u32) (.sc (.int .i64) (.sc (.int .u8) (.sc (.int .u32) (.sc (.int .u32) (.sc (.int .i64) (.sc (.int .i64) (.sc (.int .u32) (.sc (.int .i64) .nil))))))))) (.ag none (.sc (.int .u32) (.sc (.int .i64) (.sc (.int .u8) (.sc (.int .u32) (.sc (.int .u32) (.sc (.int .i64) (.sc (.int .i64) (.sc (.int .u32) (.sc (.int .i64) .nil))))))))) (.sc .bool .nil))
@[reducible] def o : Sh := .sc (.int .i64) (.sc (.int .i64) .nil)
abbrev FT := ((Int × Int × Int × Int × Int × Int × Int × Int × Int) × (Int × Int × Int × Int × Int × Int × Int × Int × Int) × Bool) → Option ((Int × Int) × Unit)
theorem tabS : AllS Try.prog (tab F16.f F17.f F18.f F19.f F20.f F21.f) := ⟨F16.spec, F17.spec, F18.spec, F19.spec, F20.spec, F21.spec, trivial⟩
theorem plsP : AllP Try.prog (pls F16.f F17.f F18.f F19.f F20.f F21.f) := trivial
theorem mixed : Try.prog.follows .mixedOrders = true := by kernel_rfl
def fP (x16 : F16.FT) (x17 : F17.FT) (x18 : F18.FT) (x19 : F19.FT) (x20 : F20.FT) (x21 : F21.FT) : FT := fun ((a0, a1, a2, a3, a4, a5, a6, a7, a8), (b0, b1, b2, b3, b4, b5, b6, b7, b8), med) =>
    (x16 (b0, a0)).bind fun r0 =>
      (x17 (a1, b1)).bind fun r1 =>
       (x18 (a2, b2)).bind fun r2 =>
       (x16 (a3, b3)).bind fun r3 =>
       (x19 a5).bind fun r4 =>
       (x19 b5).bind fun r5 =>
       (x17 (r4.fst, r5.fst)).bind fun r6 =>
       (x20 (a6, b6)).bind fun r7 =>
       (x21 (a7, b7)).bind fun r8 =>
       (x17 (a8, b8)).bind fun r9 =>
       bif !med then
       bif r0.fst != 0 then some ((r0.fst, 1), PUnit.unit)
       else
       bif r1.fst != 0 then some ((r1.fst, 2), PUnit.unit)
       else
       bif r2.fst != 0 then some ((r2.fst, 3), PUnit.unit)
       else
       bif r6.fst != 0 then some ((r6.fst, 5), PUnit.unit)
       else
       bif r7.fst != 0 then some ((r7.fst, 6), PUnit.unit)
       else
       bif r8.fst != 0 then some ((r8.fst, 7), PUnit.unit)
       else
       bif r9.fst != 0 then some ((r9.fst, 8), PUnit.unit) else some ((0, 0), PUnit.unit)
       else
       bif a4 != b4 then
       bif r0.fst != 0 then some ((r0.fst, 1), PUnit.unit)
       else
       bif r1.fst != 0 then some ((r1.fst, 2), PUnit.unit)
       else
       bif r2.fst != 0 then some ((r2.fst, 3), PUnit.unit)
       else
       bif r6.fst != 0 then some ((r6.fst, 5), PUnit.unit)
       else
       bif r7.fst != 0 then some ((r7.fst, 6), PUnit.unit)
       else
       bif r8.fst != 0 then some ((r8.fst, 7), PUnit.unit)
       else
       bif r9.fst != 0 then some ((r9.fst, 8), PUnit.unit) else some ((0, 0), PUnit.unit)
       else
       bif r0.fst != 0 then some ((r0.fst, 1), PUnit.unit)
       else
       bif r1.fst != 0 then some ((r1.fst, 2), PUnit.unit)
       else
       bif r2.fst != 0 then some ((r2.fst, 3), PUnit.unit)
       else
       bif r3.fst != 0 then some ((r3.fst, 4), PUnit.unit)
       else
       bif r6.fst != 0 then some ((r6.fst, 5), PUnit.unit)
       else
       bif r7.fst != 0 then some ((r7.fst, 6), PUnit.unit)
       else
       bif r8.fst != 0 then some ((r8.fst, 7), PUnit.unit)
       else
       bif r9.fst != 0 then some ((r9.fst, 8), PUnit.unit)
       else some ((0, 0), PUnit.unit)
theorem fe (x16 : F16.FT) (x17 : F17.FT) (x18 : F18.FT) (x19 : F19.FT) (x20 : F20.FT) (x21 : F21.FT) (d : (Int × Int × Int × Int × Int × Int × Int × Int × Int) × (Int × Int × Int × Int × Int × Int × Int × Int × Int) × Bool) : bodyF (tabC Try.prog (tab x16 x17 x18 x19 x20 x21) ((10, .none) :: pls x16 x17 x18 x19 x20 x21) 100 10) 100 10 i o d = fP x16 x17 x18 x19 x20 x21 d := by kernel_rfl
noncomputable def f : FT := fP F16.f F17.f F18.f F19.f F20.f F21.f
def plan : Plan := .none
theorem planOk : PlanOk Try.prog (plan) (bodyOf Try.prog 10) := (planOk_of (plan) _ [] (by kernel_rfl) trivial)
theorem meets : MeetsF Try.prog 10 ⟨i, o, f⟩ :=
  funcT (fuel := 100) (depth := 10) (pl := (10, plan) :: pls F16.f F17.f F18.f F19.f F20.f F21.f) mixed tabS ⟨planOk, plsP⟩ (fun d =>  fe F16.f F17.f F18.f F19.f F20.f F21.f d)
theorem spec : SpecOk Try.prog (fun _ => none) 10 (specF ⟨i, o, f⟩) := specF_ok (by kernel_rfl) meets
end Go.Proofs.Ytaniibilgdhdiaa.F10

/- What comes of function 15 of this program, consulate.choose.places, as the engine gives it. -/
namespace Go.Proofs.Ytaniibilgdhdiaa.F15
open Go Go.Proofs Go.Proofs.Ytaniibilgdhdiaa Go.RowKit Go.Proofs.Ytaniibilgdhdiaa.Sx
set_option linter.unusedVariables false
set_option maxRecDepth 100000
def tab : List (FuncId × Sx.Spec) := []
def pls : List (FuncId × Plan) := []
@[reducible] def k1 : Sh := .sc (.int .i64) .nil
@[reducible] def i1 : Sh := .sl true 3 (.sc (.int .i64) .nil) (.sc (.int .i64) .nil)
@[reducible] def o1 : Sh := .sl true 3 (.sc (.int .i64) .nil) .nil
abbrev G1 := Int → (List (Int) × Int) → Option (List (Int) × Unit)
def u1 (F : G1) : Un := ⟨16, [6], k1, [3, 7], i1, [3], o1, [6], [(.exit 0, [true])], F⟩
@[reducible] def i : Sh := .sl false 26 (.sc (.int .u32) (.sc (.int .i64) (.sc (.int .u8) (.sc (.int .u32) (.sc (.int .u32) (.sc (.int .i64) (.sc (.int .i64) (.sc (.int .u32) (.sc (.int .i64) .nil))))))))) .nil
@[reducible] def o : Sh := .sl true 3 (.sc (.int .i64) .nil) .nil
abbrev FT := ((List (Int × Int × Int × Int × Int × Int × Int × Int × Int))) → Option (List (Int) × Unit)
theorem tabS : AllS Try.prog (tab) := trivial
theorem plsP : AllP Try.prog (pls) := trivial
theorem mixed : Try.prog.follows .mixedOrders = true := by kernel_rfl
def r1P : Int → (List (Int) × Int) → Option ((List (Int) × Int) ⊕ (List (Int) × Unit)) := fun t6 (out, t7) =>
    bif decide (t7 < t6) then
      bif decide (out.length + (1 : Nat) ≤ (1073741824 : Nat)) then
       bif decide ((0 : Nat) + out.length ≤ out.length) then
       bif decide ((0 : Nat) + (out.length + (1 : Nat)) ≤ (List.take out.length out ++ [t7]).length) && true then
       some
       (Sum.inl
       (List.take (out.length + (1 : Nat)) (List.drop (0 : Nat) (List.take out.length out ++ [t7])),
       IntKind.i64.wrap (t7 + (1 : Int))))
       else none
       else none
      else none
    else
      bif decide ((0 : Nat) + out.length ≤ out.length) && true then some (Sum.inr (List.take out.length out, PUnit.unit))
      else none
theorem r1e (kd : Int) (d : List (Int) × Int) : roundF (tabC Try.prog (tab) (pls) 100 10) 100 .none (u1 fun _ _ => none) (codeAt [1, 1, 0, 1, 0, 0] (bodyOf Try.prog 15)) kd d = r1P kd d := by kernel_rfl
noncomputable def r1 : Int → (List (Int) × Int) → Option ((List (Int) × Int) ⊕ (List (Int) × Unit)) := r1P
noncomputable def l1 : G1 := fun kd d => iterO (r1 kd) d
theorem ok1 : UnOk Try.prog (u1 l1) (codeAt [1, 1, 0, 1, 0] (bodyOf Try.prog 15)) :=
  loopT (p := .none) (c := codeAt [1, 1, 0, 1, 0, 0] (bodyOf Try.prog 15)) (fuel := 100) (depth := 10) mixed tabS plsP (by kernel_rfl) trivial (by kernel_rfl) (fun kd d => r1e  kd d) rfl
def fP (l1 : G1) : FT := fun l =>
    (l1 (↑l.length : Int) ([], (0 : Int))).bind fun r0 =>
      bif decide ((0 : Nat) + List.length r0.fst ≤ List.length r0.fst) && true then
       some (List.take (List.length r0.fst) (List.drop (0 : Nat) r0.fst), PUnit.unit)
      else none
theorem fe (l1 : G1) (d : (List (Int × Int × Int × Int × Int × Int × Int × Int × Int))) : bodyF (tabC Try.prog (tab) ((15, (.node .none (.node .none (.node (.node .none (.node (.unit (u1 l1)) .none)) .none)))) :: pls) 100 10) 100 15 i o d = fP l1 d := by kernel_rfl
noncomputable def f : FT := fP l1
def plan (l1 : G1) : Plan := (.node .none (.node .none (.node (.node .none (.node (.unit (u1 l1)) .none)) .none)))
theorem planOk : PlanOk Try.prog (plan l1) (bodyOf Try.prog 15) := (planOk_of (plan l1) _ [([1, 1, 0, 1, 0], u1 l1)] rfl ⟨ok1, trivial⟩)
theorem meets : MeetsF Try.prog 15 ⟨i, o, f⟩ :=
  funcT (fuel := 100) (depth := 10) (pl := (15, plan l1) :: pls) mixed tabS ⟨planOk, plsP⟩ (fun d =>  fe l1 d)
theorem spec : SpecOk Try.prog (fun _ => none) 15 (specF ⟨i, o, f⟩) := specF_ok (by kernel_rfl) meets
end Go.Proofs.Ytaniibilgdhdiaa.F15

/- What comes of function 24 of this program, consulate.choose.best, as the engine gives it. -/
namespace Go.Proofs.Ytaniibilgdhdiaa.F24
open Go Go.Proofs Go.Proofs.Ytaniibilgdhdiaa Go.RowKit Go.Proofs.Ytaniibilgdhdiaa.Sx
set_option linter.unusedVariables false
set_option maxRecDepth 100000
def tab (x10 : F10.FT) : List (FuncId × Sx.Spec) := [(10, specF ⟨F10.i, F10.o, x10⟩)]
def pls (x10 : F10.FT) : List (FuncId × Plan) := []
@[reducible] def k1 : Sh := .sl false 26 (.sc (.int .u32) (.sc (.int .i64) (.sc (.int .u8) (.sc (.int .u32) (.sc (.int .u32) (.sc (.int .i64) (.sc (.int .i64) (.sc (.int .u32) (.sc (.int .i64) .nil))))))))) (.sc .bool (.sc (.int .i64) (.sc (.int .i64) .nil)))
@[reducible] def i1 : Sh := .nil
@[reducible] def o1 : Sh := .sc (.int .i64) .nil
abbrev G1 := ((List (Int × Int × Int × Int × Int × Int × Int × Int × Int)) × Bool × Int × Int) → Unit → Option (Int × Unit)
def u1 (F : G1) : Un := ⟨39, [0, 2, 7, 9], k1, [], i1, [10], o1, [0, 2, 7, 9, 12, 13, 14], [(.normal, [true])], F⟩
@[reducible] def k2 : Sh := .sl false 26 (.sc (.int .u32) (.sc (.int .i64) (.sc (.int .u8) (.sc (.int .u32) (.sc (.int .u32) (.sc (.int .i64) (.sc (.int .i64) (.sc (.int .u32) (.sc (.int .i64) .nil))))))))) (.sc .bool (.sl false 3 (.sc (.int .i64) .nil) (.sc (.int .i64) .nil)))
@[reducible] def i2 : Sh := .sc (.int .i64) (.sc (.int .i64) .nil)
@[reducible] def o2 : Sh := .sc (.int .i64) .nil
abbrev G2 := ((List (Int × Int × Int × Int × Int × Int × Int × Int × Int)) × Bool × List (Int) × Int) → (Int × Int) → Option (Int × Unit)
def u2 (F : G2) : Un := ⟨39, [0, 2, 12, 13], k2, [7, 14], i2, [7], o2, [0, 2, 12, 13], [(.exit 0, [true])], F⟩
@[reducible] def i : Sh := .sl false 26 (.sc (.int .u32) (.sc (.int .i64) (.sc (.int .u8) (.sc (.int .u32) (.sc (.int .u32) (.sc (.int .i64) (.sc (.int .i64) (.sc (.int .u32) (.sc (.int .i64) .nil))))))))) (.sl false 3 (.sc (.int .i64) .nil) (.sc .bool .nil))
@[reducible] def o : Sh := .sc (.int .i64) .nil
abbrev FT := ((List (Int × Int × Int × Int × Int × Int × Int × Int × Int)) × List (Int) × Bool) → Option (Int × Unit)
theorem tabS : AllS Try.prog (tab F10.f) := ⟨F10.spec, trivial⟩
theorem plsP : AllP Try.prog (pls F10.f) := trivial
theorem mixed : Try.prog.follows .mixedOrders = true := by kernel_rfl
def r1P (x10 : F10.FT) : G1 := fun (l, med, at0, k) () =>
    bif decide ((0 : Int) ≤ k ∧ k < (↑l.length : Int) ∧ (0 : Nat) < l.length) then
      bif decide ((0 : Nat) + k.toNat < l.length) then
       bif decide ((0 : Int) ≤ at0 ∧ at0 < (↑l.length : Int) ∧ (0 : Nat) < l.length) then
       bif decide ((0 : Nat) + at0.toNat < l.length) then
       (x10
       (((l.getD ((0 : Nat) + k.toNat)
       ((0 : Int), (0 : Int), (0 : Int), (0 : Int), (0 : Int), (0 : Int), (0 : Int), (0 : Int),
       (0 : Int))).fst,
       (l.getD ((0 : Nat) + k.toNat)
       ((0 : Int), (0 : Int), (0 : Int), (0 : Int), (0 : Int), (0 : Int), (0 : Int), (0 : Int),
       (0 : Int))).snd.fst,
       (l.getD ((0 : Nat) + k.toNat)
       ((0 : Int), (0 : Int), (0 : Int), (0 : Int), (0 : Int), (0 : Int), (0 : Int), (0 : Int),
       (0 : Int))).snd.snd.fst,
       (l.getD ((0 : Nat) + k.toNat)
       ((0 : Int), (0 : Int), (0 : Int), (0 : Int), (0 : Int), (0 : Int), (0 : Int), (0 : Int),
       (0 : Int))).snd.snd.snd.fst,
       (l.getD ((0 : Nat) + k.toNat)
       ((0 : Int), (0 : Int), (0 : Int), (0 : Int), (0 : Int), (0 : Int), (0 : Int), (0 : Int),
       (0 : Int))).snd.snd.snd.snd.fst,
       (l.getD ((0 : Nat) + k.toNat)
       ((0 : Int), (0 : Int), (0 : Int), (0 : Int), (0 : Int), (0 : Int), (0 : Int),
       (0 : Int), (0 : Int))).snd.snd.snd.snd.snd.fst,
       (l.getD ((0 : Nat) + k.toNat)
       ((0 : Int), (0 : Int), (0 : Int), (0 : Int), (0 : Int), (0 : Int), (0 : Int),
       (0 : Int), (0 : Int))).snd.snd.snd.snd.snd.snd.fst,
       (l.getD ((0 : Nat) + k.toNat)
       ((0 : Int), (0 : Int), (0 : Int), (0 : Int), (0 : Int), (0 : Int), (0 : Int),
       (0 : Int), (0 : Int))).snd.snd.snd.snd.snd.snd.snd.fst,
       (l.getD ((0 : Nat) + k.toNat)
       ((0 : Int), (0 : Int), (0 : Int), (0 : Int), (0 : Int), (0 : Int), (0 : Int),
       (0 : Int), (0 : Int))).snd.snd.snd.snd.snd.snd.snd.snd),
       ((l.getD ((0 : Nat) + at0.toNat)
       ((0 : Int), (0 : Int), (0 : Int), (0 : Int), (0 : Int), (0 : Int), (0 : Int), (0 : Int),
       (0 : Int))).fst,
       (l.getD ((0 : Nat) + at0.toNat)
       ((0 : Int), (0 : Int), (0 : Int), (0 : Int), (0 : Int), (0 : Int), (0 : Int), (0 : Int),
       (0 : Int))).snd.fst,
       (l.getD ((0 : Nat) + at0.toNat)
       ((0 : Int), (0 : Int), (0 : Int), (0 : Int), (0 : Int), (0 : Int), (0 : Int), (0 : Int),
       (0 : Int))).snd.snd.fst,
       (l.getD ((0 : Nat) + at0.toNat)
       ((0 : Int), (0 : Int), (0 : Int), (0 : Int), (0 : Int), (0 : Int), (0 : Int), (0 : Int),
       (0 : Int))).snd.snd.snd.fst,
       (l.getD ((0 : Nat) + at0.toNat)
       ((0 : Int), (0 : Int), (0 : Int), (0 : Int), (0 : Int), (0 : Int), (0 : Int), (0 : Int),
       (0 : Int))).snd.snd.snd.snd.fst,
       (l.getD ((0 : Nat) + at0.toNat)
       ((0 : Int), (0 : Int), (0 : Int), (0 : Int), (0 : Int), (0 : Int), (0 : Int),
       (0 : Int), (0 : Int))).snd.snd.snd.snd.snd.fst,
       (l.getD ((0 : Nat) + at0.toNat)
       ((0 : Int), (0 : Int), (0 : Int), (0 : Int), (0 : Int), (0 : Int), (0 : Int),
       (0 : Int), (0 : Int))).snd.snd.snd.snd.snd.snd.fst,
       (l.getD ((0 : Nat) + at0.toNat)
       ((0 : Int), (0 : Int), (0 : Int), (0 : Int), (0 : Int), (0 : Int), (0 : Int),
       (0 : Int), (0 : Int))).snd.snd.snd.snd.snd.snd.snd.fst,
       (l.getD ((0 : Nat) + at0.toNat)
       ((0 : Int), (0 : Int), (0 : Int), (0 : Int), (0 : Int), (0 : Int), (0 : Int),
       (0 : Int), (0 : Int))).snd.snd.snd.snd.snd.snd.snd.snd),
       med)).bind
       fun r0 => some (r0.fst.fst, PUnit.unit)
       else none
       else none
      else none
    else none
theorem r1e (x10 : F10.FT) (kd : (List (Int × Int × Int × Int × Int × Int × Int × Int × Int)) × Bool × Int × Int) (d : Unit) : unitF (tabC Try.prog (tab x10) (pls x10) 100 10) 100 .none (u1 fun _ _ => none) (codeAt [1, 1, 0, 1, 0, 0, 1, 1, 0, 0, 1, 1, 1, 0] (bodyOf Try.prog 24)) kd d = r1P x10 kd d := by kernel_rfl
noncomputable def r1 : G1 := r1P F10.f
noncomputable def l1 : G1 := r1
theorem ok1 : UnOk Try.prog (u1 l1) (codeAt [1, 1, 0, 1, 0, 0, 1, 1, 0, 0, 1, 1, 1, 0] (bodyOf Try.prog 24)) :=
  blockT (p := .none) (fuel := 100) (depth := 10) mixed tabS plsP trivial (fun kd d =>  r1e F10.f kd d)
def r2P (x10 : F10.FT) (l1 : G1) : ((List (Int × Int × Int × Int × Int × Int × Int × Int × Int)) × Bool × List (Int) × Int) → (Int × Int) → Option ((Int × Int) ⊕ (Int × Unit)) := fun (l, med, t12, t13) (at0, t14) =>
    bif decide (t14 < t13) then
      bif decide ((0 : Int) ≤ t14 ∧ t14 < (↑t12.length : Int) ∧ (0 : Nat) < t12.length) then
       bif decide ((0 : Nat) + t14.toNat < t12.length) then
       bif decide (at0 < (0 : Int)) then
       some (Sum.inl (t12.getD ((0 : Nat) + t14.toNat) (0 : Int), IntKind.i64.wrap (t14 + (1 : Int))))
       else
       bif decide ((0 : Nat) + l.length ≤ l.length) && true then
       (l1 (List.take l.length l, med, at0, t12.getD ((0 : Nat) + t14.toNat) (0 : Int)) PUnit.unit).bind fun r0 =>
       bif decide (r0.fst < (0 : Int)) then
       some (Sum.inl (t12.getD ((0 : Nat) + t14.toNat) (0 : Int), IntKind.i64.wrap (t14 + (1 : Int))))
       else some (Sum.inl (at0, IntKind.i64.wrap (t14 + (1 : Int))))
       else none
       else none
      else none
    else some (Sum.inr (at0, PUnit.unit))
theorem r2e (x10 : F10.FT) (l1 : G1) (kd : (List (Int × Int × Int × Int × Int × Int × Int × Int × Int)) × Bool × List (Int) × Int) (d : Int × Int) : roundF (tabC Try.prog (tab x10) (pls x10) 100 10) 100 (.node .none (.node .none (.node (.node (.node .none (.node .none (.node .none (.node (.unit (u1 l1)) .none)))) .none) .none))) (u2 fun _ _ => none) (codeAt [1, 1, 0, 1, 0, 0] (bodyOf Try.prog 24)) kd d = r2P x10 l1 kd d := by kernel_rfl
noncomputable def r2 : ((List (Int × Int × Int × Int × Int × Int × Int × Int × Int)) × Bool × List (Int) × Int) → (Int × Int) → Option ((Int × Int) ⊕ (Int × Unit)) := r2P F10.f l1
noncomputable def l2 : G2 := fun kd d => iterO (r2 kd) d
theorem ok2 : UnOk Try.prog (u2 l2) (codeAt [1, 1, 0, 1, 0] (bodyOf Try.prog 24)) :=
  loopT (p := (.node .none (.node .none (.node (.node (.node .none (.node .none (.node .none (.node (.unit (u1 l1)) .none)))) .none) .none)))) (c := codeAt [1, 1, 0, 1, 0, 0] (bodyOf Try.prog 24)) (fuel := 100) (depth := 10) mixed tabS plsP (by kernel_rfl) (planOk_of (.node .none (.node .none (.node (.node (.node .none (.node .none (.node .none (.node (.unit (u1 l1)) .none)))) .none) .none))) _ [([1, 1, 0, 0, 1, 1, 1, 0], u1 l1)] rfl ⟨ok1, trivial⟩) (by kernel_rfl) (fun kd d => r2e F10.f l1 kd d) rfl
def fP (x10 : F10.FT) (l2 : G2) : FT := fun (l, places, med) =>
    bif decide ((0 : Nat) + l.length ≤ l.length) && true then
      bif decide ((0 : Nat) + places.length ≤ places.length) && true then
       (l2 (List.take l.length l, med, List.take places.length places, (↑places.length : Int))
       ((-1 : Int), (0 : Int))).bind
       fun r0 => some (r0.fst, PUnit.unit)
      else none
    else none
theorem fe (x10 : F10.FT) (l2 : G2) (d : (List (Int × Int × Int × Int × Int × Int × Int × Int × Int)) × List (Int) × Bool) : bodyF (tabC Try.prog (tab x10) ((24, (.node .none (.node .none (.node (.node .none (.node (.unit (u2 l2)) .none)) .none)))) :: pls x10) 100 10) 100 24 i o d = fP x10 l2 d := by kernel_rfl
noncomputable def f : FT := fP F10.f l2
def plan (l2 : G2) : Plan := (.node .none (.node .none (.node (.node .none (.node (.unit (u2 l2)) .none)) .none)))
theorem planOk : PlanOk Try.prog (plan l2) (bodyOf Try.prog 24) := (planOk_of (plan l2) _ [([1, 1, 0, 1, 0], u2 l2)] rfl ⟨ok2, trivial⟩)
theorem meets : MeetsF Try.prog 24 ⟨i, o, f⟩ :=
  funcT (fuel := 100) (depth := 10) (pl := (24, plan l2) :: pls F10.f) mixed tabS ⟨planOk, plsP⟩ (fun d =>  fe F10.f l2 d)
theorem spec : SpecOk Try.prog (fun _ => none) 24 (specF ⟨i, o, f⟩) := specF_ok (by kernel_rfl) meets
end Go.Proofs.Ytaniibilgdhdiaa.F24

/- What comes of function 14 of this program, consulate.choose.among, as the engine gives it. -/
namespace Go.Proofs.Ytaniibilgdhdiaa.F14
open Go Go.Proofs Go.Proofs.Ytaniibilgdhdiaa Go.RowKit Go.Proofs.Ytaniibilgdhdiaa.Sx
set_option linter.unusedVariables false
set_option maxRecDepth 100000
def tab (x24 : F24.FT) : List (FuncId × Sx.Spec) := [(24, specF ⟨F24.i, F24.o, x24⟩)]
def pls (x24 : F24.FT) : List (FuncId × Plan) := []
@[reducible] def k1 : Sh := .sl false 26 (.sc (.int .u32) (.sc (.int .i64) (.sc (.int .u8) (.sc (.int .u32) (.sc (.int .u32) (.sc (.int .i64) (.sc (.int .i64) (.sc (.int .u32) (.sc (.int .i64) .nil))))))))) (.sc (.int .i64) .nil)
@[reducible] def i1 : Sh := .nil
@[reducible] def o1 : Sh := .sc (.int .u32) .nil
abbrev G1 := ((List (Int × Int × Int × Int × Int × Int × Int × Int × Int)) × Int) → Unit → Option (Int × Unit)
def u1 (F : G1) : Un := ⟨61, [0, 8], k1, [], i1, [9], o1, [0, 5, 6, 8, 14, 15, 16], [(.normal, [true])], F⟩
@[reducible] def k2 : Sh := .mp .map (.sc (.int .u32) .nil) (.sl true 3 (.sc (.int .i64) .nil) .nil) (.sc (.int .u32) .nil)
@[reducible] def i2 : Sh := .nil
@[reducible] def o2 : Sh := .sc .bool .nil
abbrev G2 := ((List (Int × List (Int))) × Int) → Unit → Option (Bool × Unit)
def u2 (F : G2) : Un := ⟨61, [5, 9], k2, [], i2, [29], o2, [0, 5, 6, 8, 9, 14, 15, 16], [(.normal, [true])], F⟩
@[reducible] def k3 : Sh := .sc (.int .u32) .nil
@[reducible] def i3 : Sh := .sl true 23 (.sc (.int .u32) .nil) .nil
@[reducible] def o3 : Sh := .sl true 23 (.sc (.int .u32) .nil) .nil
abbrev G3 := Int → List (Int) → Option (List (Int) × Unit)
def u3 (F : G3) : Un := ⟨61, [9], k3, [6], i3, [6], o3, [0, 5, 8, 9, 14, 15, 16], [(.normal, [true])], F⟩
@[reducible] def k4 : Sh := .sc (.int .i64) (.sc (.int .u32) .nil)
@[reducible] def i4 : Sh := .mp .map (.sc (.int .u32) .nil) (.sl true 3 (.sc (.int .i64) .nil) .nil) .nil
@[reducible] def o4 : Sh := .mp .map (.sc (.int .u32) .nil) (.sl true 3 (.sc (.int .i64) .nil) .nil) .nil
abbrev G4 := (Int × Int) → ((List (Int × List (Int)))) → Option (((List (Int × List (Int)))) × Unit)
def u4 (F : G4) : Un := ⟨61, [8, 9], k4, [5], i4, [5], o4, [0, 6, 14, 15, 16], [(.normal, [true])], F⟩
@[reducible] def k5 : Sh := .sl false 26 (.sc (.int .u32) (.sc (.int .i64) (.sc (.int .u8) (.sc (.int .u32) (.sc (.int .u32) (.sc (.int .i64) (.sc (.int .i64) (.sc (.int .u32) (.sc (.int .i64) .nil))))))))) (.sl false 3 (.sc (.int .i64) .nil) (.sc (.int .i64) .nil))
@[reducible] def i5 : Sh := .mp .map (.sc (.int .u32) .nil) (.sl true 3 (.sc (.int .i64) .nil) .nil) (.sl true 23 (.sc (.int .u32) .nil) (.sc (.int .i64) .nil))
@[reducible] def o5 : Sh := .mp .map (.sc (.int .u32) .nil) (.sl true 3 (.sc (.int .i64) .nil) .nil) (.sl true 23 (.sc (.int .u32) .nil) .nil)
abbrev G5 := ((List (Int × Int × Int × Int × Int × Int × Int × Int × Int)) × List (Int) × Int) → ((List (Int × List (Int))) × List (Int) × Int) → Option (((List (Int × List (Int))) × List (Int)) × Unit)
def u5 (F : G5) : Un := ⟨61, [0, 14, 15], k5, [5, 6, 16], i5, [5, 6], o5, [0, 14, 15], [(.exit 0, [true, true])], F⟩
@[reducible] def k6 : Sh := .sl false 26 (.sc (.int .u32) (.sc (.int .i64) (.sc (.int .u8) (.sc (.int .u32) (.sc (.int .u32) (.sc (.int .i64) (.sc (.int .i64) (.sc (.int .u32) (.sc (.int .i64) .nil))))))))) (.mp .map (.sc (.int .u32) .nil) (.sl true 3 (.sc (.int .i64) .nil) .nil) (.sc (.int .u32) .nil))
@[reducible] def i6 : Sh := .sl true 3 (.sc (.int .i64) .nil) .nil
@[reducible] def o6 : Sh := .sl true 3 (.sc (.int .i64) .nil) .nil
abbrev G6 := ((List (Int × Int × Int × Int × Int × Int × Int × Int × Int)) × (List (Int × List (Int))) × Int) → List (Int) → Option (List (Int) × Unit)
def u6 (F : G6) : Un := ⟨61, [0, 5, 12], k6, [10], i6, [10], o6, [0, 5, 43, 44, 45], [(.normal, [true])], F⟩
@[reducible] def k7 : Sh := .sl false 26 (.sc (.int .u32) (.sc (.int .i64) (.sc (.int .u8) (.sc (.int .u32) (.sc (.int .u32) (.sc (.int .i64) (.sc (.int .i64) (.sc (.int .u32) (.sc (.int .i64) .nil))))))))) (.mp .map (.sc (.int .u32) .nil) (.sl true 3 (.sc (.int .i64) .nil) .nil) (.sl true 23 (.sc (.int .u32) .nil) (.sc (.int .i64) .nil)))
@[reducible] def i7 : Sh := .sl true 3 (.sc (.int .i64) .nil) (.sc (.int .i64) .nil)
@[reducible] def o7 : Sh := .sl true 3 (.sc (.int .i64) .nil) .nil
abbrev G7 := ((List (Int × Int × Int × Int × Int × Int × Int × Int × Int)) × (List (Int × List (Int))) × List (Int) × Int) → (List (Int) × Int) → Option (List (Int) × Unit)
def u7 (F : G7) : Un := ⟨61, [0, 5, 43, 44], k7, [10, 45], i7, [10], o7, [0, 5, 43, 44], [(.exit 2, [true])], F⟩
@[reducible] def i : Sh := .sl false 26 (.sc (.int .u32) (.sc (.int .i64) (.sc (.int .u8) (.sc (.int .u32) (.sc (.int .u32) (.sc (.int .i64) (.sc (.int .i64) (.sc (.int .u32) (.sc (.int .i64) .nil))))))))) (.sl false 3 (.sc (.int .i64) .nil) .nil)
@[reducible] def o : Sh := .sc (.int .i64) .nil
abbrev FT := ((List (Int × Int × Int × Int × Int × Int × Int × Int × Int)) × List (Int)) → Option (Int × Unit)
theorem tabS : AllS Try.prog (tab F24.f) := ⟨F24.spec, trivial⟩
theorem plsP : AllP Try.prog (pls F24.f) := trivial
theorem mixed : Try.prog.follows .mixedOrders = true := by kernel_rfl
def r1P (x24 : F24.FT) : G1 := fun (l, k) () =>
    bif decide ((0 : Int) ≤ k ∧ k < (↑l.length : Int) ∧ (0 : Nat) < l.length) then
      bif decide ((0 : Nat) + k.toNat < l.length) then
       some
       ((l.getD ((0 : Nat) + k.toNat)
       ((0 : Int), (0 : Int), (0 : Int), (0 : Int), (0 : Int), (0 : Int), (0 : Int), (0 : Int),
       (0 : Int))).snd.snd.snd.snd.fst,
       PUnit.unit)
      else none
    else none
theorem r1e (x24 : F24.FT) (kd : (List (Int × Int × Int × Int × Int × Int × Int × Int × Int)) × Int) (d : Unit) : unitF (tabC Try.prog (tab x24) (pls x24) 100 10) 100 .none (u1 fun _ _ => none) (codeAt [1, 1, 1, 0, 1, 0, 0, 1, 1, 0, 0, 1, 0] (bodyOf Try.prog 14)) kd d = r1P x24 kd d := by kernel_rfl
noncomputable def r1 : G1 := r1P F24.f
noncomputable def l1 : G1 := r1
theorem ok1 : UnOk Try.prog (u1 l1) (codeAt [1, 1, 1, 0, 1, 0, 0, 1, 1, 0, 0, 1, 0] (bodyOf Try.prog 14)) :=
  blockT (p := .none) (fuel := 100) (depth := 10) mixed tabS plsP trivial (fun kd d =>  r1e F24.f kd d)
def r2P (x24 : F24.FT) : G2 := fun (groups, n) () =>
    bif hasK (keyB (Sh.sc (Ck.int IntKind.u32) Sh.nil)) groups n then
      some ((↑(List.length (getK (keyB (Sh.sc (Ck.int IntKind.u32) Sh.nil)) groups n [])) : Int) == (0 : Int), PUnit.unit)
    else some (true, PUnit.unit)
theorem r2e (x24 : F24.FT) (kd : (List (Int × List (Int))) × Int) (d : Unit) : unitF (tabC Try.prog (tab x24) (pls x24) 100 10) 100 .none (u2 fun _ _ => none) (codeAt [1, 1, 1, 0, 1, 0, 0, 1, 1, 0, 0, 1, 1, 0, 0] (bodyOf Try.prog 14)) kd d = r2P x24 kd d := by kernel_rfl
noncomputable def r2 : G2 := r2P F24.f
noncomputable def l2 : G2 := r2
theorem ok2 : UnOk Try.prog (u2 l2) (codeAt [1, 1, 1, 0, 1, 0, 0, 1, 1, 0, 0, 1, 1, 0, 0] (bodyOf Try.prog 14)) :=
  blockT (p := .none) (fuel := 100) (depth := 10) mixed tabS plsP trivial (fun kd d =>  r2e F24.f kd d)
def r3P (x24 : F24.FT) : G3 := fun n names =>
    bif decide (names.length + (1 : Nat) / OfNat.ofNat (1 : Nat) ≤ (1073741824 : Nat)) then
      bif decide ((0 : Nat) + names.length ≤ names.length) then
       bif
       decide
       ((0 : Nat) + (names.length + (1 : Nat) / OfNat.ofNat (1 : Nat)) ≤
       (List.take names.length names ++ [n]).length) &&
       true then
       some
       (List.take (names.length + (1 : Nat) / OfNat.ofNat (1 : Nat))
       (List.drop (0 : Nat) (List.take names.length names ++ [n])),
       PUnit.unit)
       else none
      else none
    else none
theorem r3e (x24 : F24.FT) (kd : Int) (d : List (Int)) : unitF (tabC Try.prog (tab x24) (pls x24) 100 10) 100 .none (u3 fun _ _ => none) (codeAt [1, 1, 1, 0, 1, 0, 0, 1, 1, 0, 0, 1, 1, 0, 1, 0] (bodyOf Try.prog 14)) kd d = r3P x24 kd d := by kernel_rfl
noncomputable def r3 : G3 := r3P F24.f
noncomputable def l3 : G3 := r3
theorem ok3 : UnOk Try.prog (u3 l3) (codeAt [1, 1, 1, 0, 1, 0, 0, 1, 1, 0, 0, 1, 1, 0, 1, 0] (bodyOf Try.prog 14)) :=
  blockT (p := .none) (fuel := 100) (depth := 10) mixed tabS plsP trivial (fun kd d =>  r3e F24.f kd d)
def r4P (x24 : F24.FT) : G4 := fun (k, n) groups =>
    bif hasK (keyB (Sh.sc (Ck.int IntKind.u32) Sh.nil)) groups n then
      bif
       decide
       (List.length (getK (keyB (Sh.sc (Ck.int IntKind.u32) Sh.nil)) groups n []) +
       (1 : Nat) / OfNat.ofNat (1 : Nat) ≤
       (1073741824 : Nat)) then
       bif
       decide
       ((0 : Nat) + List.length (getK (keyB (Sh.sc (Ck.int IntKind.u32) Sh.nil)) groups n []) ≤
       List.length (getK (keyB (Sh.sc (Ck.int IntKind.u32) Sh.nil)) groups n [])) then
       bif
       hasK (keyB (Sh.sc (Ck.int IntKind.u32) Sh.nil)) groups n &&
       (posK (keyB (Sh.sc (Ck.int IntKind.u32) Sh.nil)) groups n).beq
       (posK (keyB (Sh.sc (Ck.int IntKind.u32) Sh.nil)) groups n) then
       bif
       decide
       ((0 : Nat) +
       (List.length (getK (keyB (Sh.sc (Ck.int IntKind.u32) Sh.nil)) groups n []) +
       (1 : Nat) / OfNat.ofNat (1 : Nat)) ≤
       (List.take (List.length (getK (keyB (Sh.sc (Ck.int IntKind.u32) Sh.nil)) groups n []))
       (List.drop (0 : Nat) (getK (keyB (Sh.sc (Ck.int IntKind.u32) Sh.nil)) groups n [])) ++
       [k]).length) &&
       true then
       some
       (groups.set (posK (keyB (Sh.sc (Ck.int IntKind.u32) Sh.nil)) groups n)
       ((groups.getD (posK (keyB (Sh.sc (Ck.int IntKind.u32) Sh.nil)) groups n) ((0 : Int), [])).fst,
       List.take
       (List.length (getK (keyB (Sh.sc (Ck.int IntKind.u32) Sh.nil)) groups n []) +
       (1 : Nat) / OfNat.ofNat (1 : Nat))
       (List.drop (0 : Nat)
       (List.take (List.length (getK (keyB (Sh.sc (Ck.int IntKind.u32) Sh.nil)) groups n []))
       (List.drop (0 : Nat) (getK (keyB (Sh.sc (Ck.int IntKind.u32) Sh.nil)) groups n [])) ++
       [k]))),
       PUnit.unit)
       else none
       else none
       else none
      else none
    else some (putK (keyB (Sh.sc (Ck.int IntKind.u32) Sh.nil)) groups n [k], PUnit.unit)
theorem r4e (x24 : F24.FT) (kd : Int × Int) (d : (List (Int × List (Int)))) : unitF (tabC Try.prog (tab x24) (pls x24) 100 10) 100 .none (u4 fun _ _ => none) (codeAt [1, 1, 1, 0, 1, 0, 0, 1, 1, 0, 0, 1, 1, 1] (bodyOf Try.prog 14)) kd d = r4P x24 kd d := by kernel_rfl
noncomputable def r4 : G4 := r4P F24.f
noncomputable def l4 : G4 := r4
theorem ok4 : UnOk Try.prog (u4 l4) (codeAt [1, 1, 1, 0, 1, 0, 0, 1, 1, 0, 0, 1, 1, 1] (bodyOf Try.prog 14)) :=
  blockT (p := .none) (fuel := 100) (depth := 10) mixed tabS plsP trivial (fun kd d =>  r4e F24.f kd d)
def r5P (x24 : F24.FT) (l1 : G1) (l2 : G2) (l3 : G3) (l4 : G4) : ((List (Int × Int × Int × Int × Int × Int × Int × Int × Int)) × List (Int) × Int) → ((List (Int × List (Int))) × List (Int) × Int) → Option (((List (Int × List (Int))) × List (Int) × Int) ⊕ (((List (Int × List (Int))) × List (Int)) × Unit)) := fun (l, t14, t15) (groups, names, t16) =>
    bif decide (t16 < t15) then
      bif decide ((0 : Int) ≤ t16 ∧ t16 < (↑t14.length : Int) ∧ (0 : Nat) < t14.length) then
       bif decide ((0 : Nat) + t16.toNat < t14.length) then
       bif decide ((0 : Nat) + l.length ≤ l.length) && true then
       (l1 (List.take l.length l, t14.getD ((0 : Nat) + t16.toNat) (0 : Int)) PUnit.unit).bind fun r0 =>
       (l2 (groups, r0.fst) PUnit.unit).bind fun r1 =>
       bif r1.fst then
       bif decide ((0 : Nat) + names.length ≤ names.length) && true then
       (l3 r0.fst (List.take names.length names)).bind fun r2 =>
       (l4 (t14.getD ((0 : Nat) + t16.toNat) (0 : Int), r0.fst) groups).bind fun r3 =>
       bif decide ((0 : Nat) + List.length r2.fst ≤ List.length r2.fst) && true then
       some
       (Sum.inl
       (r3.fst, List.take (List.length r2.fst) (List.drop (0 : Nat) r2.fst),
       IntKind.i64.wrap (t16 + (1 : Int))))
       else none
       else none
       else
       (l4 (t14.getD ((0 : Nat) + t16.toNat) (0 : Int), r0.fst) groups).bind fun r2 =>
       bif decide ((0 : Nat) + names.length ≤ names.length) && true then
       some (Sum.inl (r2.fst, List.take names.length names, IntKind.i64.wrap (t16 + (1 : Int))))
       else none
       else none
       else none
      else none
    else
      bif decide ((0 : Nat) + names.length ≤ names.length) && true then
       some (Sum.inr ((groups, List.take names.length names), PUnit.unit))
      else none
theorem r5e (x24 : F24.FT) (l1 : G1) (l2 : G2) (l3 : G3) (l4 : G4) (kd : (List (Int × Int × Int × Int × Int × Int × Int × Int × Int)) × List (Int) × Int) (d : (List (Int × List (Int))) × List (Int) × Int) : roundF (tabC Try.prog (tab x24) (pls x24) 100 10) 100 (.node .none (.node .none (.node (.node (.node .none (.node (.unit (u1 l1)) (.node (.node (.unit (u2 l2)) (.node (.unit (u3 l3)) .none)) (.unit (u4 l4))))) .none) .none))) (u5 fun _ _ => none) (codeAt [1, 1, 1, 0, 1, 0, 0] (bodyOf Try.prog 14)) kd d = r5P x24 l1 l2 l3 l4 kd d := by kernel_rfl
noncomputable def r5 : ((List (Int × Int × Int × Int × Int × Int × Int × Int × Int)) × List (Int) × Int) → ((List (Int × List (Int))) × List (Int) × Int) → Option (((List (Int × List (Int))) × List (Int) × Int) ⊕ (((List (Int × List (Int))) × List (Int)) × Unit)) := r5P F24.f l1 l2 l3 l4
noncomputable def l5 : G5 := fun kd d => iterO (r5 kd) d
theorem ok5 : UnOk Try.prog (u5 l5) (codeAt [1, 1, 1, 0, 1, 0] (bodyOf Try.prog 14)) :=
  loopT (p := (.node .none (.node .none (.node (.node (.node .none (.node (.unit (u1 l1)) (.node (.node (.unit (u2 l2)) (.node (.unit (u3 l3)) .none)) (.unit (u4 l4))))) .none) .none)))) (c := codeAt [1, 1, 1, 0, 1, 0, 0] (bodyOf Try.prog 14)) (fuel := 100) (depth := 10) mixed tabS plsP (by kernel_rfl) (planOk_of (.node .none (.node .none (.node (.node (.node .none (.node (.unit (u1 l1)) (.node (.node (.unit (u2 l2)) (.node (.unit (u3 l3)) .none)) (.unit (u4 l4))))) .none) .none))) _ [([1, 1, 0, 0, 1, 0], u1 l1), ([1, 1, 0, 0, 1, 1, 0, 0], u2 l2), ([1, 1, 0, 0, 1, 1, 0, 1, 0], u3 l3), ([1, 1, 0, 0, 1, 1, 1], u4 l4)] rfl ⟨ok1, ok2, ok3, ok4, trivial⟩) (by kernel_rfl) (fun kd d => r5e F24.f l1 l2 l3 l4 kd d) rfl
def r6P (x24 : F24.FT) : G6 := fun (l, groups, n) winners =>
    bif hasK (keyB (Sh.sc (Ck.int IntKind.u32) Sh.nil)) groups n then
      bif decide ((0 : Nat) + l.length ≤ l.length) && true then
       bif
       decide
       ((0 : Nat) + List.length (getK (keyB (Sh.sc (Ck.int IntKind.u32) Sh.nil)) groups n []) ≤
       List.length (getK (keyB (Sh.sc (Ck.int IntKind.u32) Sh.nil)) groups n [])) &&
       true then
       (x24
       (List.take l.length l,
       List.take (List.length (getK (keyB (Sh.sc (Ck.int IntKind.u32) Sh.nil)) groups n []))
       (List.drop (0 : Nat) (getK (keyB (Sh.sc (Ck.int IntKind.u32) Sh.nil)) groups n [])),
       true)).bind
       fun r0 =>
       bif decide (winners.length + (1 : Nat) / OfNat.ofNat (1 : Nat) ≤ (1073741824 : Nat)) then
       bif decide ((0 : Nat) + winners.length ≤ winners.length) then
       bif
       decide
       ((0 : Nat) + (winners.length + (1 : Nat) / OfNat.ofNat (1 : Nat)) ≤
       (List.take winners.length winners ++ [r0.fst]).length) &&
       true then
       some
       (List.take (winners.length + (1 : Nat) / OfNat.ofNat (1 : Nat))
       (List.drop (0 : Nat) (List.take winners.length winners ++ [r0.fst])),
       PUnit.unit)
       else none
       else none
       else none
       else none
      else none
    else
      bif decide ((0 : Nat) + l.length ≤ l.length) && true then
       (x24 (List.take l.length l, [], true)).bind fun r0 =>
       bif decide (winners.length + (1 : Nat) / OfNat.ofNat (1 : Nat) ≤ (1073741824 : Nat)) then
       bif decide ((0 : Nat) + winners.length ≤ winners.length) then
       bif
       decide
       ((0 : Nat) + (winners.length + (1 : Nat) / OfNat.ofNat (1 : Nat)) ≤
       (List.take winners.length winners ++ [r0.fst]).length) &&
       true then
       some
       (List.take (winners.length + (1 : Nat) / OfNat.ofNat (1 : Nat))
       (List.drop (0 : Nat) (List.take winners.length winners ++ [r0.fst])),
       PUnit.unit)
       else none
       else none
       else none
      else none
theorem r6e (x24 : F24.FT) (kd : (List (Int × Int × Int × Int × Int × Int × Int × Int × Int)) × (List (Int × List (Int))) × Int) (d : List (Int)) : unitF (tabC Try.prog (tab x24) (pls x24) 100 10) 100 .none (u6 fun _ _ => none) (codeAt [1, 1, 1, 1, 1, 0, 1, 0, 0, 1, 1, 0, 0, 1] (bodyOf Try.prog 14)) kd d = r6P x24 kd d := by kernel_rfl
noncomputable def r6 : G6 := r6P F24.f
noncomputable def l6 : G6 := r6
theorem ok6 : UnOk Try.prog (u6 l6) (codeAt [1, 1, 1, 1, 1, 0, 1, 0, 0, 1, 1, 0, 0, 1] (bodyOf Try.prog 14)) :=
  blockT (p := .none) (fuel := 100) (depth := 10) mixed tabS plsP trivial (fun kd d =>  r6e F24.f kd d)
def r7P (x24 : F24.FT) (l6 : G6) : ((List (Int × Int × Int × Int × Int × Int × Int × Int × Int)) × (List (Int × List (Int))) × List (Int) × Int) → (List (Int) × Int) → Option ((List (Int) × Int) ⊕ (List (Int) × Unit)) := fun (l, groups, t43, t44) (winners, t45) =>
    bif decide (t45 < t44) then
      bif decide ((0 : Int) ≤ t45 ∧ t45 < (↑t43.length : Int) ∧ (0 : Nat) < t43.length) then
       bif decide ((0 : Nat) + t45.toNat < t43.length) then
       bif decide ((0 : Nat) + l.length ≤ l.length) && true then
       bif decide ((0 : Nat) + winners.length ≤ winners.length) && true then
       (l6 (List.take l.length l, groups, t43.getD ((0 : Nat) + t45.toNat) (0 : Int))
       (List.take winners.length winners)).bind
       fun r0 =>
       bif decide ((0 : Nat) + List.length r0.fst ≤ List.length r0.fst) && true then
       some
       (Sum.inl
       (List.take (List.length r0.fst) (List.drop (0 : Nat) r0.fst), IntKind.i64.wrap (t45 + (1 : Int))))
       else none
       else none
       else none
       else none
      else none
    else
      bif decide ((0 : Nat) + winners.length ≤ winners.length) && true then
       some (Sum.inr (List.take winners.length winners, PUnit.unit))
      else none
theorem r7e (x24 : F24.FT) (l6 : G6) (kd : (List (Int × Int × Int × Int × Int × Int × Int × Int × Int)) × (List (Int × List (Int))) × List (Int) × Int) (d : List (Int) × Int) : roundF (tabC Try.prog (tab x24) (pls x24) 100 10) 100 (.node .none (.node .none (.node (.node (.node .none (.unit (u6 l6))) .none) .none))) (u7 fun _ _ => none) (codeAt [1, 1, 1, 1, 1, 0, 1, 0, 0] (bodyOf Try.prog 14)) kd d = r7P x24 l6 kd d := by kernel_rfl
noncomputable def r7 : ((List (Int × Int × Int × Int × Int × Int × Int × Int × Int)) × (List (Int × List (Int))) × List (Int) × Int) → (List (Int) × Int) → Option ((List (Int) × Int) ⊕ (List (Int) × Unit)) := r7P F24.f l6
noncomputable def l7 : G7 := fun kd d => iterO (r7 kd) d
theorem ok7 : UnOk Try.prog (u7 l7) (codeAt [1, 1, 1, 1, 1, 0, 1, 0] (bodyOf Try.prog 14)) :=
  loopT (p := (.node .none (.node .none (.node (.node (.node .none (.unit (u6 l6))) .none) .none)))) (c := codeAt [1, 1, 1, 1, 1, 0, 1, 0, 0] (bodyOf Try.prog 14)) (fuel := 100) (depth := 10) mixed tabS plsP (by kernel_rfl) (planOk_of (.node .none (.node .none (.node (.node (.node .none (.unit (u6 l6))) .none) .none))) _ [([1, 1, 0, 0, 1], u6 l6)] rfl ⟨ok6, trivial⟩) (by kernel_rfl) (fun kd d => r7e F24.f l6 kd d) rfl
def fP (x24 : F24.FT) (l5 : G5) (l7 : G7) : FT := fun (l, places) =>
    bif decide ((0 : Nat) + l.length ≤ l.length) && true then
      bif decide ((0 : Nat) + places.length ≤ places.length) && true then
       (l5 (List.take l.length l, List.take places.length places, (↑places.length : Int)) ([], [], (0 : Int))).bind
       fun r0 =>
       bif decide ((0 : Nat) + l.length ≤ l.length) && true then
       bif decide ((0 : Nat) + List.length r0.fst.snd ≤ List.length r0.fst.snd) && true then
       (l7
       (List.take l.length l, r0.fst.fst,
       List.take (List.length r0.fst.snd) (List.drop (0 : Nat) r0.fst.snd),
       (↑(List.length r0.fst.snd) : Int))
       ([], (0 : Int))).bind
       fun r1 =>
       bif decide ((0 : Nat) + l.length ≤ l.length) && true then
       bif decide ((0 : Nat) + List.length r1.fst ≤ List.length r1.fst) && true then
       (x24 (List.take l.length l, List.take (List.length r1.fst) (List.drop (0 : Nat) r1.fst), false)).bind
       fun r2 => some (r2.fst, PUnit.unit)
       else none
       else none
       else none
       else none
      else none
    else none
theorem fe (x24 : F24.FT) (l5 : G5) (l7 : G7) (d : (List (Int × Int × Int × Int × Int × Int × Int × Int × Int)) × List (Int)) : bodyF (tabC Try.prog (tab x24) ((14, (.node .none (.node .none (.node .none (.node (.node .none (.node (.unit (u5 l5)) .none)) (.node .none (.node (.node .none (.node (.unit (u7 l7)) .none)) .none))))))) :: pls x24) 100 10) 100 14 i o d = fP x24 l5 l7 d := by kernel_rfl
noncomputable def f : FT := fP F24.f l5 l7
def plan (l5 : G5) (l7 : G7) : Plan := (.node .none (.node .none (.node .none (.node (.node .none (.node (.unit (u5 l5)) .none)) (.node .none (.node (.node .none (.node (.unit (u7 l7)) .none)) .none))))))
theorem planOk : PlanOk Try.prog (plan l5 l7) (bodyOf Try.prog 14) := (planOk_of (plan l5 l7) _ [([1, 1, 1, 0, 1, 0], u5 l5), ([1, 1, 1, 1, 1, 0, 1, 0], u7 l7)] rfl ⟨ok5, ok7, trivial⟩)
theorem meets : MeetsF Try.prog 14 ⟨i, o, f⟩ :=
  funcT (fuel := 100) (depth := 10) (pl := (14, plan l5 l7) :: pls F24.f) mixed tabS ⟨planOk, plsP⟩ (fun d =>  fe F24.f l5 l7 d)
theorem spec : SpecOk Try.prog (fun _ => none) 14 (specF ⟨i, o, f⟩) := specF_ok (by kernel_rfl) meets
end Go.Proofs.Ytaniibilgdhdiaa.F14

/- What comes of function 30 of this program, slices.IndexFunc[[]int,int], as the engine gives it. -/
namespace Go.Proofs.Ytaniibilgdhdiaa.F30
open Go Go.Proofs Go.Proofs.Ytaniibilgdhdiaa Go.RowKit Go.Proofs.Ytaniibilgdhdiaa.Sx
set_option linter.unusedVariables false
set_option maxRecDepth 100000
def tab : List (FuncId × Sx.Spec) := []
def pls : List (FuncId × Plan) := []
@[reducible] def k1 : Sh := .sl false 3 (.sc (.int .i64) .nil) (.ag (some 23) (.pt false 3 (.sc (.int .i64) .nil) .nil) (.sc (.int .i64) .nil))
@[reducible] def i1 : Sh := .sc (.int .i64) .nil
@[reducible] def o1 : Sh := .sc (.int .i64) (.sc (.int .i64) .nil)
abbrev G1 := (List (Int) × Int × Int) → Int → Option ((Int × Int) × Unit)
def u1 (F : G1) : Un := ⟨19, [0, 1, 7], k1, [8], i1, [4], o1, [0, 1, 7], [(.exit 0, [false]), (.ret, [true])], F⟩
@[reducible] def i : Sh := .sl false 3 (.sc (.int .i64) .nil) (.ag (some 23) (.pt false 3 (.sc (.int .i64) .nil) .nil) .nil)
@[reducible] def o : Sh := .sc (.int .i64) .nil
abbrev FT := (List (Int) × Int) → Option (Int × Unit)
theorem tabS : AllS Try.prog (tab) := trivial
theorem plsP : AllP Try.prog (pls) := trivial
theorem mixed : Try.prog.follows .mixedOrders = true := by kernel_rfl
def r1P : (List (Int) × Int × Int) → Int → Option (Int ⊕ ((Int × Int) × Unit)) := fun (s, f_2, t7) t8 =>
    bif decide (t8 < t7) then
      bif decide ((0 : Int) ≤ t8 ∧ t8 < (↑s.length : Int) ∧ (0 : Nat) < s.length) then
       bif decide ((0 : Nat) + t8.toNat < s.length) then
       bif s.getD ((0 : Nat) + t8.toNat) (0 : Int) == f_2 then some (Sum.inr (((1 : Int), t8), PUnit.unit))
       else some (Sum.inl (IntKind.i64.wrap (t8 + (1 : Int))))
       else none
      else none
    else some (Sum.inr (((0 : Int), (0 : Int)), PUnit.unit))
theorem r1e (kd : List (Int) × Int × Int) (d : Int) : roundF (tabC Try.prog (tab) (pls) 100 10) 100 .none (u1 fun _ _ => none) (codeAt [1, 0, 1, 0, 0] (bodyOf Try.prog 30)) kd d = r1P kd d := by kernel_rfl
noncomputable def r1 : (List (Int) × Int × Int) → Int → Option (Int ⊕ ((Int × Int) × Unit)) := r1P
noncomputable def l1 : G1 := fun kd d => iterO (r1 kd) d
theorem ok1 : UnOk Try.prog (u1 l1) (codeAt [1, 0, 1, 0] (bodyOf Try.prog 30)) :=
  loopT (p := .none) (c := codeAt [1, 0, 1, 0, 0] (bodyOf Try.prog 30)) (fuel := 100) (depth := 10) mixed tabS plsP (by kernel_rfl) trivial (by kernel_rfl) (fun kd d => r1e  kd d) rfl
def fP (l1 : G1) : FT := fun (s, f_2) =>
    bif decide ((0 : Nat) + s.length ≤ s.length) && true then
      (l1 (List.take s.length s, f_2, (↑s.length : Int)) (OfNat.ofNat (0 : Nat))).bind fun r0 =>
       bif decide (r0.fst.fst = (0 : Int)) then some ((-1 : Int), PUnit.unit)
       else bif decide (r0.fst.fst = (1 : Int)) then some (r0.fst.snd, PUnit.unit) else none
    else none
theorem fe (l1 : G1) (d : List (Int) × Int) : bodyF (tabC Try.prog (tab) ((30, (.node .none (.node (.node .none (.node (.unit (u1 l1)) .none)) .none))) :: pls) 100 10) 100 30 i o d = fP l1 d := by kernel_rfl
noncomputable def f : FT := fP l1
def plan (l1 : G1) : Plan := (.node .none (.node (.node .none (.node (.unit (u1 l1)) .none)) .none))
theorem planOk : PlanOk Try.prog (plan l1) (bodyOf Try.prog 30) := (planOk_of (plan l1) _ [([1, 0, 1, 0], u1 l1)] rfl ⟨ok1, trivial⟩)
theorem meets : MeetsF Try.prog 30 ⟨i, o, f⟩ :=
  funcT (fuel := 100) (depth := 10) (pl := (30, plan l1) :: pls) mixed tabS ⟨planOk, plsP⟩ (fun d =>  fe l1 d)
theorem spec : SpecOk Try.prog (fun _ => none) 30 (specF ⟨i, o, f⟩) := specF_ok (by kernel_rfl) meets
end Go.Proofs.Ytaniibilgdhdiaa.F30

/- What comes of function 22 of this program, slices.DeleteFunc[[]int,int], as the engine gives it. -/
namespace Go.Proofs.Ytaniibilgdhdiaa.F22
open Go Go.Proofs Go.Proofs.Ytaniibilgdhdiaa Go.RowKit Go.Proofs.Ytaniibilgdhdiaa.Sx
set_option linter.unusedVariables false
set_option maxRecDepth 100000
def tab (x30 : F30.FT) : List (FuncId × Sx.Spec) := [(30, specF ⟨F30.i, F30.o, x30⟩)]
def pls (x30 : F30.FT) : List (FuncId × Plan) := []
@[reducible] def k1 : Sh := .ag (some 23) (.pt false 3 (.sc (.int .i64) .nil) .nil) .nil
@[reducible] def i1 : Sh := .sl true 3 (.sc (.int .i64) .nil) (.sc (.int .i64) (.sc (.int .i64) .nil))
@[reducible] def o1 : Sh := .sl true 3 (.sc (.int .i64) .nil) (.sc (.int .i64) .nil)
abbrev G1 := Int → (List (Int) × Int × Int) → Option ((List (Int) × Int) × Unit)
def u1 (F : G1) : Un := ⟨42, [1], k1, [0, 5, 6], i1, [0, 5], o1, [1], [(.exit 0, [true, true])], F⟩
@[reducible] def i : Sh := .sl true 3 (.sc (.int .i64) .nil) (.ag (some 23) (.pt false 3 (.sc (.int .i64) .nil) .nil) .nil)
@[reducible] def o : Sh := .sl true 3 (.sc (.int .i64) .nil) .nil
abbrev FT := (List (Int) × Int) → Option (List (Int) × Unit)
theorem tabS : AllS Try.prog (tab F30.f) := ⟨F30.spec, trivial⟩
theorem plsP : AllP Try.prog (pls F30.f) := trivial
theorem mixed : Try.prog.follows .mixedOrders = true := by kernel_rfl
def r1P (x30 : F30.FT) : Int → (List (Int) × Int × Int) → Option ((List (Int) × Int × Int) ⊕ ((List (Int) × Int) × Unit)) := fun del (s, i, j) =>
    bif decide (j < (↑s.length : Int)) then
      bif decide ((0 : Int) ≤ j ∧ j < (↑s.length : Int) ∧ (0 : Nat) < s.length) then
       bif decide ((0 : Nat) + j.toNat < s.length) then
       bif !s.getD ((0 : Nat) + j.toNat) (0 : Int) == del then
       bif decide ((0 : Int) ≤ i ∧ i < (↑s.length : Int) ∧ (0 : Nat) < s.length) then
       bif decide ((0 : Nat) + i.toNat < s.length) then
       bif
       decide
       ((0 : Nat) + s.length ≤
       (s.set ((0 : Nat) + i.toNat) (s.getD ((0 : Nat) + j.toNat) (0 : Int))).length) &&
       true then
       some
       (Sum.inl
       (List.take s.length
       (List.drop (0 : Nat) (s.set ((0 : Nat) + i.toNat) (s.getD ((0 : Nat) + j.toNat) (0 : Int)))),
       IntKind.i64.wrap (i + (1 : Int)), IntKind.i64.wrap (j + (1 : Int))))
       else none
       else none
       else none
       else
       bif decide ((0 : Nat) + s.length ≤ s.length) && true then
       some (Sum.inl (List.take s.length s, i, IntKind.i64.wrap (j + (1 : Int))))
       else none
       else none
      else none
    else
      bif decide ((0 : Nat) + s.length ≤ s.length) && true then some (Sum.inr ((List.take s.length s, i), PUnit.unit))
      else none
theorem r1e (x30 : F30.FT) (kd : Int) (d : List (Int) × Int × Int) : roundF (tabC Try.prog (tab x30) (pls x30) 100 10) 100 .none (u1 fun _ _ => none) (codeAt [1, 1, 1, 0, 1, 0, 0] (bodyOf Try.prog 22)) kd d = r1P x30 kd d := by kernel_rfl
noncomputable def r1 : Int → (List (Int) × Int × Int) → Option ((List (Int) × Int × Int) ⊕ ((List (Int) × Int) × Unit)) := r1P F30.f
noncomputable def l1 : G1 := fun kd d => iterO (r1 kd) d
theorem ok1 : UnOk Try.prog (u1 l1) (codeAt [1, 1, 1, 0, 1, 0] (bodyOf Try.prog 22)) :=
  loopT (p := .none) (c := codeAt [1, 1, 1, 0, 1, 0, 0] (bodyOf Try.prog 22)) (fuel := 100) (depth := 10) mixed tabS plsP (by kernel_rfl) trivial (by kernel_rfl) (fun kd d => r1e F30.f kd d) rfl
def fP (x30 : F30.FT) (l1 : G1) : FT := fun (s, del) =>
    bif decide ((0 : Nat) + s.length ≤ s.length) && true then
      (x30 (List.take s.length s, del)).bind fun r0 =>
       bif r0.fst == (-1 : Int) then
       bif decide ((0 : Nat) + s.length ≤ s.length) && true then some (List.take s.length s, PUnit.unit) else none
       else
       bif decide ((0 : Nat) + s.length ≤ s.length) && true then
       (l1 del (List.take s.length s, r0.fst, IntKind.i64.wrap (r0.fst + (1 : Int)))).bind fun r1 =>
       bif
       decide
       ((0 : Int) ≤ r1.fst.snd ∧
       r1.fst.snd ≤ none.getD (↑r1.fst.fst.length : Int) ∧
       none.getD (↑r1.fst.fst.length : Int) ≤ (↑r1.fst.fst.length : Int) ∧
       (0 : Nat) + r1.fst.fst.length ≤ r1.fst.fst.length) then
       bif decide (r1.fst.snd = (↑r1.fst.fst.length : Int)) then
       bif
       decide
       ((0 : Int) ≤ (some r1.fst.snd).getD (↑r1.fst.fst.length : Int) ∧
       (some r1.fst.snd).getD (↑r1.fst.fst.length : Int) ≤ (↑r1.fst.fst.length : Int) ∧
       (0 : Nat) + r1.fst.fst.length ≤ r1.fst.fst.length) then
       bif
       decide
       ((0 : Nat) + ((some r1.fst.snd).getD (↑r1.fst.fst.length : Int)).toNat ≤ r1.fst.fst.length) &&
       true then
       some
       (List.take ((some r1.fst.snd).getD (↑r1.fst.fst.length : Int)).toNat
       (List.drop (0 : Nat) r1.fst.fst),
       PUnit.unit)
       else none
       else none
       else
       bif
       decide
       ((0 : Nat) + Int.toNat r1.fst.snd +
       (List.replicate (none.getD (↑r1.fst.fst.length : Int) - r1.fst.snd).toNat (0 : Int)).length ≤
       r1.fst.fst.length) then
       bif
       decide
       ((0 : Int) ≤ (some r1.fst.snd).getD (↑r1.fst.fst.length : Int) ∧
       (some r1.fst.snd).getD (↑r1.fst.fst.length : Int) ≤ (↑r1.fst.fst.length : Int) ∧
       (0 : Nat) + r1.fst.fst.length ≤
       (List.take ((0 : Nat) + Int.toNat r1.fst.snd) r1.fst.fst ++
       List.replicate (none.getD (↑r1.fst.fst.length : Int) - r1.fst.snd).toNat
       (0 : Int) ++
       List.drop
       ((0 : Nat) + Int.toNat r1.fst.snd +
       (List.replicate (none.getD (↑r1.fst.fst.length : Int) - r1.fst.snd).toNat
       (0 : Int)).length)
       r1.fst.fst).length) then
       bif
       decide
       ((0 : Nat) + ((some r1.fst.snd).getD (↑r1.fst.fst.length : Int)).toNat ≤
       (List.take ((0 : Nat) + Int.toNat r1.fst.snd) r1.fst.fst ++
       List.replicate (none.getD (↑r1.fst.fst.length : Int) - r1.fst.snd).toNat
       (0 : Int) ++
       List.drop
       ((0 : Nat) + Int.toNat r1.fst.snd +
       (List.replicate (none.getD (↑r1.fst.fst.length : Int) - r1.fst.snd).toNat
       (0 : Int)).length)
       r1.fst.fst).length) &&
       true then
       some
       (List.take ((some r1.fst.snd).getD (↑r1.fst.fst.length : Int)).toNat
       (List.drop (0 : Nat)
       (List.take ((0 : Nat) + Int.toNat r1.fst.snd) r1.fst.fst ++
       List.replicate (none.getD (↑r1.fst.fst.length : Int) - r1.fst.snd).toNat (0 : Int) ++
       List.drop
       ((0 : Nat) + Int.toNat r1.fst.snd +
       (List.replicate (none.getD (↑r1.fst.fst.length : Int) - r1.fst.snd).toNat
       (0 : Int)).length)
       r1.fst.fst)),
       PUnit.unit)
       else none
       else none
       else none
       else none
       else none
    else none
theorem fe (x30 : F30.FT) (l1 : G1) (d : List (Int) × Int) : bodyF (tabC Try.prog (tab x30) ((22, (.node .none (.node .none (.node .none (.node (.node .none (.node (.unit (u1 l1)) .none)) .none))))) :: pls x30) 100 10) 100 22 i o d = fP x30 l1 d := by kernel_rfl
noncomputable def f : FT := fP F30.f l1
def plan (l1 : G1) : Plan := (.node .none (.node .none (.node .none (.node (.node .none (.node (.unit (u1 l1)) .none)) .none))))
theorem planOk : PlanOk Try.prog (plan l1) (bodyOf Try.prog 22) := (planOk_of (plan l1) _ [([1, 1, 1, 0, 1, 0], u1 l1)] rfl ⟨ok1, trivial⟩)
theorem meets : MeetsF Try.prog 22 ⟨i, o, f⟩ :=
  funcT (fuel := 100) (depth := 10) (pl := (22, plan l1) :: pls F30.f) mixed tabS ⟨planOk, plsP⟩ (fun d =>  fe F30.f l1 d)
theorem spec : SpecOk Try.prog (fun _ => none) 22 (specF ⟨i, o, f⟩) := specF_ok (by kernel_rfl) meets
end Go.Proofs.Ytaniibilgdhdiaa.F22

/- What comes of function 13 of this program, consulate.choose.Ranked, as the engine gives it. -/
namespace Go.Proofs.Ytaniibilgdhdiaa.F13
open Go Go.Proofs Go.Proofs.Ytaniibilgdhdiaa Go.RowKit Go.Proofs.Ytaniibilgdhdiaa.Sx
set_option linter.unusedVariables false
set_option maxRecDepth 100000
def tab (x15 : F15.FT) (x14 : F14.FT) (x22 : F22.FT) : List (FuncId × Sx.Spec) := [(15, specF ⟨F15.i, F15.o, x15⟩), (14, specF ⟨F14.i, F14.o, x14⟩), (22, specF ⟨F22.i, F22.o, x22⟩)]
def pls (x15 : F15.FT) (x14 : F14.FT) (x22 : F22.FT) : List (FuncId × Plan) := []
@[reducible] def k1 : Sh := .sl false 26 (.sc (.int .u32) (.sc (.int .i64) (.sc (.int .u8) (.sc (.int .u32) (.sc (.int .u32) (.sc (.int .i64) (.sc (.int .i64) (.sc (.int .u32) (.sc (.int .i64) .nil))))))))) .nil
@[reducible] def i1 : Sh := .sl true 3 (.sc (.int .i64) .nil) .nil
@[reducible] def o1 : Sh := .sl true 3 (.sc (.int .i64) .nil) (.pt true 3 (.sc (.int .i64) .nil) .nil)
abbrev G1 := ((List (Int × Int × Int × Int × Int × Int × Int × Int × Int))) → List (Int) → Option ((List (Int) × Int) × Unit)
def u1 (F : G1) : Un := ⟨22, [0], k1, [4], i1, [4, 5], o1, [0, 3], [(.normal, [true, true])], F⟩
@[reducible] def k2 : Sh := .pt true 3 (.sc (.int .i64) .nil) .nil
@[reducible] def i2 : Sh := .sl true 3 (.sc (.int .i64) .nil) .nil
@[reducible] def o2 : Sh := .sl true 3 (.sc (.int .i64) .nil) .nil
abbrev G2 := Int → List (Int) → Option (List (Int) × Unit)
def u2 (F : G2) : Un := ⟨22, [5], k2, [3], i2, [3], o2, [0, 4, 5], [(.normal, [true])], F⟩
@[reducible] def k3 : Sh := .nil
@[reducible] def i3 : Sh := .sl true 3 (.sc (.int .i64) .nil) (.pt true 3 (.sc (.int .i64) .nil) .nil)
@[reducible] def o3 : Sh := .sl true 3 (.sc (.int .i64) .nil) .nil
abbrev G3 := Unit → (List (Int) × Int) → Option (List (Int) × Int)
def u3 (F : G3) : Un := ⟨22, [], k3, [4, 5], i3, [4], o3, [0, 3], [(.normal, [true])], F⟩
@[reducible] def k4 : Sh := .sl false 26 (.sc (.int .u32) (.sc (.int .i64) (.sc (.int .u8) (.sc (.int .u32) (.sc (.int .u32) (.sc (.int .i64) (.sc (.int .i64) (.sc (.int .u32) (.sc (.int .i64) .nil))))))))) .nil
@[reducible] def i4 : Sh := .sl true 3 (.sc (.int .i64) .nil) (.sl true 3 (.sc (.int .i64) .nil) .nil)
@[reducible] def o4 : Sh := .sl true 3 (.sc (.int .i64) .nil) .nil
abbrev G4 := ((List (Int × Int × Int × Int × Int × Int × Int × Int × Int))) → (List (Int) × List (Int)) → Option (List (Int) × Unit)
def u4 (F : G4) : Un := ⟨22, [0], k4, [3, 4], i4, [3], o4, [0], [(.exit 0, [true])], F⟩
@[reducible] def i : Sh := .sl false 26 (.sc (.int .u32) (.sc (.int .i64) (.sc (.int .u8) (.sc (.int .u32) (.sc (.int .u32) (.sc (.int .i64) (.sc (.int .i64) (.sc (.int .u32) (.sc (.int .i64) .nil))))))))) .nil
@[reducible] def o : Sh := .sl true 3 (.sc (.int .i64) .nil) .nil
abbrev FT := ((List (Int × Int × Int × Int × Int × Int × Int × Int × Int))) → Option (List (Int) × Unit)
theorem tabS : AllS Try.prog (tab F15.f F14.f F22.f) := ⟨F15.spec, F14.spec, F22.spec, trivial⟩
theorem plsP : AllP Try.prog (pls F15.f F14.f F22.f) := trivial
theorem mixed : Try.prog.follows .mixedOrders = true := by kernel_rfl
def r1P (x15 : F15.FT) (x14 : F14.FT) (x22 : F22.FT) : G1 := fun l rest =>
    bif decide ((0 : Nat) + l.length ≤ l.length) && true then
      bif decide ((0 : Nat) + rest.length ≤ rest.length) && true then
       (x14 (List.take l.length l, List.take rest.length rest)).bind fun r0 =>
       bif decide ((0 : Nat) + rest.length ≤ rest.length) && true then
       some ((List.take rest.length rest, r0.fst), PUnit.unit)
       else none
      else none
    else none
theorem r1e (x15 : F15.FT) (x14 : F14.FT) (x22 : F22.FT) (kd : (List (Int × Int × Int × Int × Int × Int × Int × Int × Int))) (d : List (Int)) : unitF (tabC Try.prog (tab x15 x14 x22) (pls x15 x14 x22) 100 10) 100 .none (u1 fun _ _ => none) (codeAt [1, 1, 0, 1, 0, 0, 1, 0, 0] (bodyOf Try.prog 13)) kd d = r1P x15 x14 x22 kd d := by kernel_rfl
noncomputable def r1 : G1 := r1P F15.f F14.f F22.f
noncomputable def l1 : G1 := r1
theorem ok1 : UnOk Try.prog (u1 l1) (codeAt [1, 1, 0, 1, 0, 0, 1, 0, 0] (bodyOf Try.prog 13)) :=
  blockT (p := .none) (fuel := 100) (depth := 10) mixed tabS plsP trivial (fun kd d =>  r1e F15.f F14.f F22.f kd d)
def r2P (x15 : F15.FT) (x14 : F14.FT) (x22 : F22.FT) : G2 := fun k out =>
    bif decide (out.length + (1 : Nat) / OfNat.ofNat (1 : Nat) ≤ (1073741824 : Nat)) then
      bif decide ((0 : Nat) + out.length ≤ out.length) then
       bif
       decide
       ((0 : Nat) + (out.length + (1 : Nat) / OfNat.ofNat (1 : Nat)) ≤
       (List.take out.length out ++ [k]).length) &&
       true then
       some
       (List.take (out.length + (1 : Nat) / OfNat.ofNat (1 : Nat))
       (List.drop (0 : Nat) (List.take out.length out ++ [k])),
       PUnit.unit)
       else none
      else none
    else none
theorem r2e (x15 : F15.FT) (x14 : F14.FT) (x22 : F22.FT) (kd : Int) (d : List (Int)) : unitF (tabC Try.prog (tab x15 x14 x22) (pls x15 x14 x22) 100 10) 100 .none (u2 fun _ _ => none) (codeAt [1, 1, 0, 1, 0, 0, 1, 0, 1, 0] (bodyOf Try.prog 13)) kd d = r2P x15 x14 x22 kd d := by kernel_rfl
noncomputable def r2 : G2 := r2P F15.f F14.f F22.f
noncomputable def l2 : G2 := r2
theorem ok2 : UnOk Try.prog (u2 l2) (codeAt [1, 1, 0, 1, 0, 0, 1, 0, 1, 0] (bodyOf Try.prog 13)) :=
  blockT (p := .none) (fuel := 100) (depth := 10) mixed tabS plsP trivial (fun kd d =>  r2e F15.f F14.f F22.f kd d)
def r3P (x15 : F15.FT) (x14 : F14.FT) (x22 : F22.FT) : G3 := fun () (rest, k) =>
    bif decide ((0 : Nat) + rest.length ≤ rest.length) && true then
      (x22 (List.take rest.length rest, k)).bind fun r0 =>
       bif decide ((0 : Nat) + List.length r0.fst ≤ List.length r0.fst) && true then
       some (List.take (List.length r0.fst) (List.drop (0 : Nat) r0.fst), k)
       else none
    else none
theorem r3e (x15 : F15.FT) (x14 : F14.FT) (x22 : F22.FT) (kd : Unit) (d : List (Int) × Int) : unitF (tabC Try.prog (tab x15 x14 x22) (pls x15 x14 x22) 100 10) 100 .none (u3 fun _ _ => none) (codeAt [1, 1, 0, 1, 0, 0, 1, 0, 1, 1] (bodyOf Try.prog 13)) kd d = r3P x15 x14 x22 kd d := by kernel_rfl
noncomputable def r3 : G3 := r3P F15.f F14.f F22.f
noncomputable def l3 : G3 := r3
theorem ok3 : UnOk Try.prog (u3 l3) (codeAt [1, 1, 0, 1, 0, 0, 1, 0, 1, 1] (bodyOf Try.prog 13)) :=
  blockT (p := .none) (fuel := 100) (depth := 10) mixed tabS plsP trivial (fun kd d =>  r3e F15.f F14.f F22.f kd d)
def r4P (x15 : F15.FT) (x14 : F14.FT) (x22 : F22.FT) (l1 : G1) (l2 : G2) (l3 : G3) : ((List (Int × Int × Int × Int × Int × Int × Int × Int × Int))) → (List (Int) × List (Int)) → Option ((List (Int) × List (Int)) ⊕ (List (Int) × Unit)) := fun l (out, rest) =>
    bif decide ((↑rest.length : Int) > (0 : Int)) then
      bif decide ((0 : Nat) + l.length ≤ l.length) && true then
       bif decide ((0 : Nat) + rest.length ≤ rest.length) && true then
       (l1 (List.take l.length l) (List.take rest.length rest)).bind fun r0 =>
       bif decide ((0 : Nat) + out.length ≤ out.length) && true then
       (l2 r0.fst.snd (List.take out.length out)).bind fun r1 =>
       bif decide ((0 : Nat) + r0.fst.fst.length ≤ r0.fst.fst.length) && true then
       (l3 PUnit.unit (List.take r0.fst.fst.length (List.drop (0 : Nat) r0.fst.fst), r0.fst.snd)).bind
       fun r2 =>
       bif decide ((0 : Nat) + List.length r1.fst ≤ List.length r1.fst) && true then
       bif decide ((0 : Nat) + List.length r2.fst ≤ List.length r2.fst) && true then
       some
       (Sum.inl
       (List.take (List.length r1.fst) (List.drop (0 : Nat) r1.fst),
       List.take (List.length r2.fst) (List.drop (0 : Nat) r2.fst)))
       else none
       else none
       else none
       else none
       else none
      else none
    else
      bif decide ((0 : Nat) + out.length ≤ out.length) && true then some (Sum.inr (List.take out.length out, PUnit.unit))
      else none
theorem r4e (x15 : F15.FT) (x14 : F14.FT) (x22 : F22.FT) (l1 : G1) (l2 : G2) (l3 : G3) (kd : (List (Int × Int × Int × Int × Int × Int × Int × Int × Int))) (d : List (Int) × List (Int)) : roundF (tabC Try.prog (tab x15 x14 x22) (pls x15 x14 x22) 100 10) 100 (.node .none (.node (.node (.unit (u1 l1)) (.node (.unit (u2 l2)) (.unit (u3 l3)))) .none)) (u4 fun _ _ => none) (codeAt [1, 1, 0, 1, 0, 0] (bodyOf Try.prog 13)) kd d = r4P x15 x14 x22 l1 l2 l3 kd d := by kernel_rfl
noncomputable def r4 : ((List (Int × Int × Int × Int × Int × Int × Int × Int × Int))) → (List (Int) × List (Int)) → Option ((List (Int) × List (Int)) ⊕ (List (Int) × Unit)) := r4P F15.f F14.f F22.f l1 l2 l3
noncomputable def l4 : G4 := fun kd d => iterO (r4 kd) d
theorem ok4 : UnOk Try.prog (u4 l4) (codeAt [1, 1, 0, 1, 0] (bodyOf Try.prog 13)) :=
  loopT (p := (.node .none (.node (.node (.unit (u1 l1)) (.node (.unit (u2 l2)) (.unit (u3 l3)))) .none))) (c := codeAt [1, 1, 0, 1, 0, 0] (bodyOf Try.prog 13)) (fuel := 100) (depth := 10) mixed tabS plsP (by kernel_rfl) (planOk_of (.node .none (.node (.node (.unit (u1 l1)) (.node (.unit (u2 l2)) (.unit (u3 l3)))) .none)) _ [([1, 0, 0], u1 l1), ([1, 0, 1, 0], u2 l2), ([1, 0, 1, 1], u3 l3)] rfl ⟨ok1, ok2, ok3, trivial⟩) (by kernel_rfl) (fun kd d => r4e F15.f F14.f F22.f l1 l2 l3 kd d) rfl
def fP (x15 : F15.FT) (x14 : F14.FT) (x22 : F22.FT) (l4 : G4) : FT := fun l =>
    bif decide ((0 : Nat) + l.length ≤ l.length) && true then
      (x15 (List.take l.length l)).bind fun r0 =>
       bif decide ((0 : Nat) + l.length ≤ l.length) && true then
       bif decide ((0 : Nat) + List.length r0.fst ≤ List.length r0.fst) && true then
       (l4 (List.take l.length l) ([], List.take (List.length r0.fst) (List.drop (0 : Nat) r0.fst))).bind fun r1 =>
       bif decide ((0 : Nat) + List.length r1.fst ≤ List.length r1.fst) && true then
       some (List.take (List.length r1.fst) (List.drop (0 : Nat) r1.fst), PUnit.unit)
       else none
       else none
       else none
    else none
theorem fe (x15 : F15.FT) (x14 : F14.FT) (x22 : F22.FT) (l4 : G4) (d : (List (Int × Int × Int × Int × Int × Int × Int × Int × Int))) : bodyF (tabC Try.prog (tab x15 x14 x22) ((13, (.node .none (.node .none (.node (.node .none (.node (.unit (u4 l4)) .none)) .none)))) :: pls x15 x14 x22) 100 10) 100 13 i o d = fP x15 x14 x22 l4 d := by kernel_rfl
noncomputable def f : FT := fP F15.f F14.f F22.f l4
def plan (l4 : G4) : Plan := (.node .none (.node .none (.node (.node .none (.node (.unit (u4 l4)) .none)) .none)))
theorem planOk : PlanOk Try.prog (plan l4) (bodyOf Try.prog 13) := (planOk_of (plan l4) _ [([1, 1, 0, 1, 0], u4 l4)] rfl ⟨ok4, trivial⟩)
theorem meets : MeetsF Try.prog 13 ⟨i, o, f⟩ :=
  funcT (fuel := 100) (depth := 10) (pl := (13, plan l4) :: pls F15.f F14.f F22.f) mixed tabS ⟨planOk, plsP⟩ (fun d =>  fe F15.f F14.f F22.f l4 d)
theorem spec : SpecOk Try.prog (fun _ => none) 13 (specF ⟨i, o, f⟩) := specF_ok (by kernel_rfl) meets
end Go.Proofs.Ytaniibilgdhdiaa.F13

/- What comes of function 7 of this program, consulate.choose.Best, as the engine gives it. -/
namespace Go.Proofs.Ytaniibilgdhdiaa.F7
open Go Go.Proofs Go.Proofs.Ytaniibilgdhdiaa Go.RowKit Go.Proofs.Ytaniibilgdhdiaa.Sx
set_option linter.unusedVariables false
set_option maxRecDepth 100000
def tab (x15 : F15.FT) (x14 : F14.FT) : List (FuncId × Sx.Spec) := [(15, specF ⟨F15.i, F15.o, x15⟩), (14, specF ⟨F14.i, F14.o, x14⟩)]
def pls (x15 : F15.FT) (x14 : F14.FT) : List (FuncId × Plan) := []
@[reducible] def i : Sh := .sl false 26 (.sc (.int .u32) (.sc (.int .i64) (.sc (.int .u8) (.sc (.int .u32) (.sc (.int .u32) (.sc (.int .i64) (.sc (.int .i64) (.sc (.int .u32) (.sc (.int .i64) .nil))))))))) .nil
@[reducible] def o : Sh := .sc (.int .i64) .nil
abbrev FT := ((List (Int × Int × Int × Int × Int × Int × Int × Int × Int))) → Option (Int × Unit)
theorem tabS : AllS Try.prog (tab F15.f F14.f) := ⟨F15.spec, F14.spec, trivial⟩
theorem plsP : AllP Try.prog (pls F15.f F14.f) := trivial
theorem mixed : Try.prog.follows .mixedOrders = true := by kernel_rfl
def fP (x15 : F15.FT) (x14 : F14.FT) : FT := fun l =>
    bif decide ((0 : Nat) + l.length ≤ l.length) && true then
      (x15 (List.take l.length l)).bind fun r0 =>
       bif decide ((0 : Nat) + l.length ≤ l.length) && true then
       bif decide ((0 : Nat) + List.length r0.fst ≤ List.length r0.fst) && true then
       (x14 (List.take l.length l, List.take (List.length r0.fst) (List.drop (0 : Nat) r0.fst))).bind fun r1 =>
       some (r1.fst, PUnit.unit)
       else none
       else none
    else none
theorem fe (x15 : F15.FT) (x14 : F14.FT) (d : (List (Int × Int × Int × Int × Int × Int × Int × Int × Int))) : bodyF (tabC Try.prog (tab x15 x14) ((7, .none) :: pls x15 x14) 100 10) 100 7 i o d = fP x15 x14 d := by kernel_rfl
noncomputable def f : FT := fP F15.f F14.f
def plan : Plan := .none
theorem planOk : PlanOk Try.prog (plan) (bodyOf Try.prog 7) := (planOk_of (plan) _ [] (by kernel_rfl) trivial)
theorem meets : MeetsF Try.prog 7 ⟨i, o, f⟩ :=
  funcT (fuel := 100) (depth := 10) (pl := (7, plan) :: pls F15.f F14.f) mixed tabS ⟨planOk, plsP⟩ (fun d =>  fe F15.f F14.f d)
theorem spec : SpecOk Try.prog (fun _ => none) 7 (specF ⟨i, o, f⟩) := specF_ok (by kernel_rfl) meets
end Go.Proofs.Ytaniibilgdhdiaa.F7

/- What comes of function 9 of this program, consulate.consulatelaw21.unlike, as the engine gives it. -/
namespace Go.Proofs.Ytaniibilgdhdiaa.F9
open Go Go.Proofs Go.Proofs.Ytaniibilgdhdiaa Go.RowKit Go.Proofs.Ytaniibilgdhdiaa.Sx
set_option linter.unusedVariables false
set_option maxRecDepth 100000
def tab : List (FuncId × Sx.Spec) := []
def pls : List (FuncId × Plan) := []
@[reducible] def k1 : Sh := .sl false 26 (.sc (.int .u32) (.sc (.int .i64) (.sc (.int .u8) (.sc (.int .u32) (.sc (.int .u32) (.sc (.int .i64) (.sc (.int .i64) (.sc (.int .u32) (.sc (.int .i64) .nil))))))))) (.sc (.int .i64) .nil)
@[reducible] def i1 : Sh := .sl true 26 (.sc (.int .u32) (.sc (.int .i64) (.sc (.int .u8) (.sc (.int .u32) (.sc (.int .u32) (.sc (.int .i64) (.sc (.int .i64) (.sc (.int .u32) (.sc (.int .i64) .nil))))))))) (.sc (.int .i64) .nil)
@[reducible] def o1 : Sh := .sl true 26 (.sc (.int .u32) (.sc (.int .i64) (.sc (.int .u8) (.sc (.int .u32) (.sc (.int .u32) (.sc (.int .i64) (.sc (.int .i64) (.sc (.int .u32) (.sc (.int .i64) .nil))))))))) .nil
abbrev G1 := ((List (Int × Int × Int × Int × Int × Int × Int × Int × Int)) × Int) → ((List (Int × Int × Int × Int × Int × Int × Int × Int × Int)) × Int) → Option (((List (Int × Int × Int × Int × Int × Int × Int × Int × Int))) × Unit)
def u1 (F : G1) : Un := ⟨23, [6, 7], k1, [3, 8], i1, [3], o1, [6, 7], [(.exit 0, [true])], F⟩
@[reducible] def i : Sh := .sl false 26 (.sc (.int .u32) (.sc (.int .i64) (.sc (.int .u8) (.sc (.int .u32) (.sc (.int .u32) (.sc (.int .i64) (.sc (.int .i64) (.sc (.int .u32) (.sc (.int .i64) .nil))))))))) .nil
@[reducible] def o : Sh := .sl true 26 (.sc (.int .u32) (.sc (.int .i64) (.sc (.int .u8) (.sc (.int .u32) (.sc (.int .u32) (.sc (.int .i64) (.sc (.int .i64) (.sc (.int .u32) (.sc (.int .i64) .nil))))))))) .nil
abbrev FT := ((List (Int × Int × Int × Int × Int × Int × Int × Int × Int))) → Option (((List (Int × Int × Int × Int × Int × Int × Int × Int × Int))) × Unit)
theorem tabS : AllS Try.prog (tab) := trivial
theorem plsP : AllP Try.prog (pls) := trivial
theorem mixed : Try.prog.follows .mixedOrders = true := by kernel_rfl
def r1P : ((List (Int × Int × Int × Int × Int × Int × Int × Int × Int)) × Int) → ((List (Int × Int × Int × Int × Int × Int × Int × Int × Int)) × Int) → Option (((List (Int × Int × Int × Int × Int × Int × Int × Int × Int)) × Int) ⊕ (((List (Int × Int × Int × Int × Int × Int × Int × Int × Int))) × Unit)) := fun (t6, t7) (out, t8) =>
    bif decide (t8 < t7) then
      bif decide ((0 : Int) ≤ t8 ∧ t8 < (↑t6.length : Int) ∧ (0 : Nat) < t6.length) then
       bif decide ((0 : Nat) + t8.toNat < t6.length) then
       bif decide (t8 < (12 : Int)) then
       bif decide (out.length + (1 : Nat) ≤ (1073741824 : Nat)) then
       bif decide ((0 : Nat) + out.length ≤ out.length) then
       bif
       decide
       ((0 : Nat) + (out.length + (1 : Nat)) ≤
       (List.take out.length out ++
       [((t6.getD ((0 : Nat) + t8.toNat)
       ((0 : Int), (0 : Int), (0 : Int), (0 : Int), (0 : Int), (0 : Int), (0 : Int),
       (0 : Int), (0 : Int))).fst,
       (t6.getD ((0 : Nat) + t8.toNat)
       ((0 : Int), (0 : Int), (0 : Int), (0 : Int), (0 : Int), (0 : Int), (0 : Int),
       (0 : Int), (0 : Int))).snd.fst,
       (t6.getD ((0 : Nat) + t8.toNat)
       ((0 : Int), (0 : Int), (0 : Int), (0 : Int), (0 : Int), (0 : Int), (0 : Int),
       (0 : Int), (0 : Int))).snd.snd.fst,
       (t6.getD ((0 : Nat) + t8.toNat)
       ((0 : Int), (0 : Int), (0 : Int), (0 : Int), (0 : Int), (0 : Int), (0 : Int),
       (0 : Int), (0 : Int))).snd.snd.snd.fst,
       (t6.getD ((0 : Nat) + t8.toNat)
       ((0 : Int), (0 : Int), (0 : Int), (0 : Int), (0 : Int), (0 : Int),
       (0 : Int), (0 : Int), (0 : Int))).snd.snd.snd.snd.fst,
       (t6.getD ((0 : Nat) + t8.toNat)
       ((0 : Int), (0 : Int), (0 : Int), (0 : Int), (0 : Int), (0 : Int),
       (0 : Int), (0 : Int), (0 : Int))).snd.snd.snd.snd.snd.fst,
       (t6.getD ((0 : Nat) + t8.toNat)
       ((0 : Int), (0 : Int), (0 : Int), (0 : Int), (0 : Int), (0 : Int),
       (0 : Int), (0 : Int), (0 : Int))).snd.snd.snd.snd.snd.snd.fst,
       (t6.getD ((0 : Nat) + t8.toNat)
       ((0 : Int), (0 : Int), (0 : Int), (0 : Int), (0 : Int), (0 : Int),
       (0 : Int), (0 : Int), (0 : Int))).snd.snd.snd.snd.snd.snd.snd.fst,
       t8)]).length) &&
       true then
       some
       (Sum.inl
       (List.take (out.length + (1 : Nat))
       (List.drop (0 : Nat)
       (List.take out.length out ++
       [((t6.getD ((0 : Nat) + t8.toNat)
       ((0 : Int), (0 : Int), (0 : Int), (0 : Int), (0 : Int), (0 : Int), (0 : Int),
       (0 : Int), (0 : Int))).fst,
       (t6.getD ((0 : Nat) + t8.toNat)
       ((0 : Int), (0 : Int), (0 : Int), (0 : Int), (0 : Int), (0 : Int), (0 : Int),
       (0 : Int), (0 : Int))).snd.fst,
       (t6.getD ((0 : Nat) + t8.toNat)
       ((0 : Int), (0 : Int), (0 : Int), (0 : Int), (0 : Int), (0 : Int), (0 : Int),
       (0 : Int), (0 : Int))).snd.snd.fst,
       (t6.getD ((0 : Nat) + t8.toNat)
       ((0 : Int), (0 : Int), (0 : Int), (0 : Int), (0 : Int), (0 : Int), (0 : Int),
       (0 : Int), (0 : Int))).snd.snd.snd.fst,
       (t6.getD ((0 : Nat) + t8.toNat)
       ((0 : Int), (0 : Int), (0 : Int), (0 : Int), (0 : Int), (0 : Int),
       (0 : Int), (0 : Int), (0 : Int))).snd.snd.snd.snd.fst,
       (t6.getD ((0 : Nat) + t8.toNat)
       ((0 : Int), (0 : Int), (0 : Int), (0 : Int), (0 : Int), (0 : Int),
       (0 : Int), (0 : Int), (0 : Int))).snd.snd.snd.snd.snd.fst,
       (t6.getD ((0 : Nat) + t8.toNat)
       ((0 : Int), (0 : Int), (0 : Int), (0 : Int), (0 : Int), (0 : Int),
       (0 : Int), (0 : Int), (0 : Int))).snd.snd.snd.snd.snd.snd.fst,
       (t6.getD ((0 : Nat) + t8.toNat)
       ((0 : Int), (0 : Int), (0 : Int), (0 : Int), (0 : Int), (0 : Int),
       (0 : Int), (0 : Int), (0 : Int))).snd.snd.snd.snd.snd.snd.snd.fst,
       t8)])),
       IntKind.i64.wrap (t8 + (1 : Int))))
       else none
       else none
       else none
       else
       bif decide ((0 : Nat) + out.length ≤ out.length) && true then
       some (Sum.inl (List.take out.length out, IntKind.i64.wrap (t8 + (1 : Int))))
       else none
       else none
      else none
    else
      bif decide ((0 : Nat) + out.length ≤ out.length) && true then some (Sum.inr (List.take out.length out, PUnit.unit))
      else none
theorem r1e (kd : (List (Int × Int × Int × Int × Int × Int × Int × Int × Int)) × Int) (d : (List (Int × Int × Int × Int × Int × Int × Int × Int × Int)) × Int) : roundF (tabC Try.prog (tab) (pls) 100 10) 100 .none (u1 fun _ _ => none) (codeAt [1, 1, 0, 1, 0, 0] (bodyOf Try.prog 9)) kd d = r1P kd d := by kernel_rfl
noncomputable def r1 : ((List (Int × Int × Int × Int × Int × Int × Int × Int × Int)) × Int) → ((List (Int × Int × Int × Int × Int × Int × Int × Int × Int)) × Int) → Option (((List (Int × Int × Int × Int × Int × Int × Int × Int × Int)) × Int) ⊕ (((List (Int × Int × Int × Int × Int × Int × Int × Int × Int))) × Unit)) := r1P
noncomputable def l1 : G1 := fun kd d => iterO (r1 kd) d
theorem ok1 : UnOk Try.prog (u1 l1) (codeAt [1, 1, 0, 1, 0] (bodyOf Try.prog 9)) :=
  loopT (p := .none) (c := codeAt [1, 1, 0, 1, 0, 0] (bodyOf Try.prog 9)) (fuel := 100) (depth := 10) mixed tabS plsP (by kernel_rfl) trivial (by kernel_rfl) (fun kd d => r1e  kd d) rfl
def fP (l1 : G1) : FT := fun l =>
    bif decide ((0 : Nat) + l.length ≤ l.length) && true then
      (l1 (List.take l.length l, (↑l.length : Int)) ([], (0 : Int))).bind fun r0 =>
       bif decide ((0 : Nat) + List.length r0.fst ≤ List.length r0.fst) && true then
       some (List.take (List.length r0.fst) (List.drop (0 : Nat) r0.fst), PUnit.unit)
       else none
    else none
theorem fe (l1 : G1) (d : (List (Int × Int × Int × Int × Int × Int × Int × Int × Int))) : bodyF (tabC Try.prog (tab) ((9, (.node .none (.node .none (.node (.node .none (.node (.unit (u1 l1)) .none)) .none)))) :: pls) 100 10) 100 9 i o d = fP l1 d := by kernel_rfl
noncomputable def f : FT := fP l1
def plan (l1 : G1) : Plan := (.node .none (.node .none (.node (.node .none (.node (.unit (u1 l1)) .none)) .none)))
theorem planOk : PlanOk Try.prog (plan l1) (bodyOf Try.prog 9) := (planOk_of (plan l1) _ [([1, 1, 0, 1, 0], u1 l1)] rfl ⟨ok1, trivial⟩)
theorem meets : MeetsF Try.prog 9 ⟨i, o, f⟩ :=
  funcT (fuel := 100) (depth := 10) (pl := (9, plan l1) :: pls) mixed tabS ⟨planOk, plsP⟩ (fun d =>  fe l1 d)
theorem spec : SpecOk Try.prog (fun _ => none) 9 (specF ⟨i, o, f⟩) := specF_ok (by kernel_rfl) meets
end Go.Proofs.Ytaniibilgdhdiaa.F9

/- What comes of function 12 of this program, slices.Clone[[]consulate.choose.Candidate,consulate.choose.Candidate], as the engine gives it. -/
namespace Go.Proofs.Ytaniibilgdhdiaa.F12
open Go Go.Proofs Go.Proofs.Ytaniibilgdhdiaa Go.RowKit Go.Proofs.Ytaniibilgdhdiaa.Sx
set_option linter.unusedVariables false
set_option maxRecDepth 100000
def tab : List (FuncId × Sx.Spec) := []
def pls : List (FuncId × Plan) := []
@[reducible] def i : Sh := .sl false 26 (.sc (.int .u32) (.sc (.int .i64) (.sc (.int .u8) (.sc (.int .u32) (.sc (.int .u32) (.sc (.int .i64) (.sc (.int .i64) (.sc (.int .u32) (.sc (.int .i64) .nil))))))))) .nil
@[reducible] def o : Sh := .sl true 26 (.sc (.int .u32) (.sc (.int .i64) (.sc (.int .u8) (.sc (.int .u32) (.sc (.int .u32) (.sc (.int .i64) (.sc (.int .i64) (.sc (.int .u32) (.sc (.int .i64) .nil))))))))) .nil
abbrev FT := ((List (Int × Int × Int × Int × Int × Int × Int × Int × Int))) → Option (((List (Int × Int × Int × Int × Int × Int × Int × Int × Int))) × Unit)
theorem tabS : AllS Try.prog (tab) := trivial
theorem plsP : AllP Try.prog (pls) := trivial
theorem mixed : Try.prog.follows .mixedOrders = true := by kernel_rfl
def fP : FT := fun s =>
    bif decide ((0 : Nat) < s.length) then
      bif decide ((0 : Nat) + s.length ≤ s.length) then
       bif decide ((0 : Nat) + (List.take s.length s).length ≤ (1073741824 : Nat)) then
       bif
       decide ((0 : Nat) + ((0 : Nat) + (List.take s.length s).length) ≤ ([] ++ List.take s.length s).length) &&
       true then
       some
       (List.take ((0 : Nat) + (List.take s.length s).length) (List.drop (0 : Nat) ([] ++ List.take s.length s)),
       PUnit.unit)
       else none
       else none
      else none
    else none
theorem fe (d : (List (Int × Int × Int × Int × Int × Int × Int × Int × Int))) : bodyF (tabC Try.prog (tab) ((12, .none) :: pls) 100 10) 100 12 i o d = fP d := by kernel_rfl
noncomputable def f : FT := fun d => if 0 < d.length then fP d else some ([], ())
def plan : Plan := .none
theorem planOk : PlanOk Try.prog (plan) (bodyOf Try.prog 12) := (planOk_of (plan) _ [] (by kernel_rfl) trivial)
theorem meets : MeetsF Try.prog 12 ⟨i, o, f⟩ :=
  sliceT (fuel := 100) (depth := 10) (pl := (12, plan) :: pls) (z := (show Den o from [])) mixed tabS ⟨planOk, plsP⟩ (fun (d : (List (Int × Int × Int × Int × Int × Int × Int × Int × Int))) hd => (fe  d).trans (show fP d = f d from (if_pos (c := 0 < d.length) hd).symm)) (fun (d : (List (Int × Int × Int × Int × Int × Int × Int × Int × Int))) h => (show f d = _ from if_neg (c := 0 < d.length) (by have h : d.length = 0 := h; omega))) (fun c => by kernel_rfl) (fun a c => by kernel_rfl)
theorem spec : SpecOk Try.prog (fun _ => none) 12 (specF ⟨i, o, f⟩) := specF_ok (by kernel_rfl) meets
end Go.Proofs.Ytaniibilgdhdiaa.F12

/- What stands on its own: function 8 says true. -/
namespace Go.Proofs.Ytaniibilgdhdiaa.KA
open Go Go.Proofs Go.Proofs.Ytaniibilgdhdiaa Go.RowKit Go.Proofs.Ytaniibilgdhdiaa.Sx
theorem mixed : Try.prog.follows .mixedOrders = true := by kernel_rfl
theorem tells (W : World) (hW : GlobW W) : Calls Try.prog 8 #[] W (Law.Told W) :=
  closed_law (C := tower (base Try.prog) [] 100 12) (tower_ok (base_ok _) (noPlans _ rfl) mixed (fun _ _ h => by cases h) 12) rfl (by kernel_rfl) W hW
end Go.Proofs.Ytaniibilgdhdiaa.KA

/- What comes of function 5 of this program, consulate.consulatelaw21.ChooseOrder, as the engine gives it. -/
namespace Go.Proofs.Ytaniibilgdhdiaa.F5
open Go Go.Proofs Go.Proofs.Ytaniibilgdhdiaa Go.RowKit Go.Proofs.Ytaniibilgdhdiaa.Sx
set_option linter.unusedVariables false
set_option maxRecDepth 100000
def tab (x9 : F9.FT) (x12 : F12.FT) (x7 : F7.FT) (x13 : F13.FT) : List (FuncId × Sx.Spec) := [(9, specF ⟨F9.i, F9.o, x9⟩), (12, specF ⟨F12.i, F12.o, x12⟩), (7, specF ⟨F7.i, F7.o, x7⟩), (13, specF ⟨F13.i, F13.o, x13⟩), (8, pureS saysS)]
def pls (x9 : F9.FT) (x12 : F12.FT) (x7 : F7.FT) (x13 : F13.FT) : List (FuncId × Plan) := []
@[reducible] def k1 : Sh := .sl false 26 (.sc (.int .u32) (.sc (.int .i64) (.sc (.int .u8) (.sc (.int .u32) (.sc (.int .u32) (.sc (.int .i64) (.sc (.int .i64) (.sc (.int .u32) (.sc (.int .i64) .nil))))))))) .nil
@[reducible] def i1 : Sh := .nil
@[reducible] def o1 : Sh := .sl true 26 (.sc (.int .u32) (.sc (.int .i64) (.sc (.int .u8) (.sc (.int .u32) (.sc (.int .u32) (.sc (.int .i64) (.sc (.int .i64) (.sc (.int .u32) (.sc (.int .i64) .nil))))))))) .nil
abbrev G1 := ((List (Int × Int × Int × Int × Int × Int × Int × Int × Int))) → Unit → Option (((List (Int × Int × Int × Int × Int × Int × Int × Int × Int))) × Unit)
def u1 (F : G1) : Un := ⟨198, [0], k1, [], i1, [5], o1, [0, 1], [(.normal, [true])], F⟩
@[reducible] def k2 : Sh := .sl true 26 (.sc (.int .u32) (.sc (.int .i64) (.sc (.int .u8) (.sc (.int .u32) (.sc (.int .u32) (.sc (.int .i64) (.sc (.int .i64) (.sc (.int .u32) (.sc (.int .i64) .nil))))))))) (.sc (.int .i64) .nil)
@[reducible] def i2 : Sh := .nil
@[reducible] def o2 : Sh := .sc .bool .nil
abbrev G2 := ((List (Int × Int × Int × Int × Int × Int × Int × Int × Int)) × Int) → Unit → Option (Bool × Unit)
def u2 (F : G2) : Un := ⟨198, [5, 6], k2, [], i2, [33], o2, [0, 5, 6, 7, 20, 21, 22], [(.normal, [true])], F⟩
@[reducible] def k3 : Sh := .sl true 26 (.sc (.int .u32) (.sc (.int .i64) (.sc (.int .u8) (.sc (.int .u32) (.sc (.int .u32) (.sc (.int .i64) (.sc (.int .i64) (.sc (.int .u32) (.sc (.int .i64) .nil))))))))) (.sc (.int .i64) (.sc (.int .u8) .nil))
@[reducible] def i3 : Sh := .nil
@[reducible] def o3 : Sh := .sc (.int .i64) (.sc (.int .i64) .nil)
abbrev G3 := ((List (Int × Int × Int × Int × Int × Int × Int × Int × Int)) × Int × Int) → Unit → Option ((Int × Int) × Unit)
def u3 (F : G3) : Un := ⟨198, [5, 6, 7], k3, [], i3, [8, 9], o3, [0, 5, 20, 21, 22], [(.normal, [true, true])], F⟩
@[reducible] def k4 : Sh := .sc (.int .i64) (.sc (.int .i64) .nil)
@[reducible] def i4 : Sh := .sl true 26 (.sc (.int .u32) (.sc (.int .i64) (.sc (.int .u8) (.sc (.int .u32) (.sc (.int .u32) (.sc (.int .i64) (.sc (.int .i64) (.sc (.int .u32) (.sc (.int .i64) .nil))))))))) .nil
@[reducible] def o4 : Sh := .sl true 26 (.sc (.int .u32) (.sc (.int .i64) (.sc (.int .u8) (.sc (.int .u32) (.sc (.int .u32) (.sc (.int .i64) (.sc (.int .i64) (.sc (.int .u32) (.sc (.int .i64) .nil))))))))) .nil
abbrev G4 := (Int × Int) → ((List (Int × Int × Int × Int × Int × Int × Int × Int × Int))) → Option (((List (Int × Int × Int × Int × Int × Int × Int × Int × Int))) × Unit)
def u4 (F : G4) : Un := ⟨198, [8, 9], k4, [5], i4, [5], o4, [0, 20, 21, 22], [(.normal, [true])], F⟩
@[reducible] def k5 : Sh := .sl false 5 (.sc (.int .u8) .nil) (.sc (.int .i64) .nil)
@[reducible] def i5 : Sh := .sl true 26 (.sc (.int .u32) (.sc (.int .i64) (.sc (.int .u8) (.sc (.int .u32) (.sc (.int .u32) (.sc (.int .i64) (.sc (.int .i64) (.sc (.int .u32) (.sc (.int .i64) .nil))))))))) (.sc (.int .i64) .nil)
@[reducible] def o5 : Sh := .sl true 26 (.sc (.int .u32) (.sc (.int .i64) (.sc (.int .u8) (.sc (.int .u32) (.sc (.int .u32) (.sc (.int .i64) (.sc (.int .i64) (.sc (.int .u32) (.sc (.int .i64) .nil))))))))) .nil
abbrev G5 := (List (Int) × Int) → ((List (Int × Int × Int × Int × Int × Int × Int × Int × Int)) × Int) → Option (((List (Int × Int × Int × Int × Int × Int × Int × Int × Int))) × Unit)
def u5 (F : G5) : Un := ⟨198, [20, 21], k5, [5, 22], i5, [5], o5, [0, 20, 21], [(.exit 0, [true])], F⟩
@[reducible] def k6 : Sh := .sl false 26 (.sc (.int .u32) (.sc (.int .i64) (.sc (.int .u8) (.sc (.int .u32) (.sc (.int .u32) (.sc (.int .i64) (.sc (.int .i64) (.sc (.int .u32) (.sc (.int .i64) .nil))))))))) .nil
@[reducible] def i6 : Sh := .sl true 26 (.sc (.int .u32) (.sc (.int .i64) (.sc (.int .u8) (.sc (.int .u32) (.sc (.int .u32) (.sc (.int .i64) (.sc (.int .i64) (.sc (.int .u32) (.sc (.int .i64) .nil))))))))) .nil
@[reducible] def o6 : Sh := .sl true 26 (.sc (.int .u32) (.sc (.int .i64) (.sc (.int .u8) (.sc (.int .u32) (.sc (.int .u32) (.sc (.int .i64) (.sc (.int .i64) (.sc (.int .u32) (.sc (.int .i64) .nil))))))))) (.sc (.int .i64) (.sc (.int .i64) .nil))
abbrev G6 := ((List (Int × Int × Int × Int × Int × Int × Int × Int × Int))) → ((List (Int × Int × Int × Int × Int × Int × Int × Int × Int))) → Option (((List (Int × Int × Int × Int × Int × Int × Int × Int × Int)) × Int × Int) × Unit)
def u6 (F : G6) : Un := ⟨198, [0], k6, [5], i6, [5, 10, 11], o6, [0], [(.normal, [true, true, true])], F⟩
@[reducible] def k7 : Sh := .sl false 26 (.sc (.int .u32) (.sc (.int .i64) (.sc (.int .u8) (.sc (.int .u32) (.sc (.int .u32) (.sc (.int .i64) (.sc (.int .i64) (.sc (.int .u32) (.sc (.int .i64) .nil))))))))) (.sl true 26 (.sc (.int .u32) (.sc (.int .i64) (.sc (.int .u8) (.sc (.int .u32) (.sc (.int .u32) (.sc (.int .i64) (.sc (.int .i64) (.sc (.int .u32) (.sc (.int .i64) .nil))))))))) (.sc (.int .i64) (.sc (.int .i64) .nil)))
@[reducible] def i7 : Sh := .nil
@[reducible] def o7 : Sh := .sc .bool .nil
abbrev G7 := ((List (Int × Int × Int × Int × Int × Int × Int × Int × Int)) × (List (Int × Int × Int × Int × Int × Int × Int × Int × Int)) × Int × Int) → Unit → Option (Bool × Unit)
def u7 (F : G7) : Un := ⟨198, [0, 5, 10, 11], k7, [], i7, [102], o7, [0, 5, 10], [(.normal, [true])], F⟩
@[reducible] def k8 : Sh := .sl false 26 (.sc (.int .u32) (.sc (.int .i64) (.sc (.int .u8) (.sc (.int .u32) (.sc (.int .u32) (.sc (.int .i64) (.sc (.int .i64) (.sc (.int .u32) (.sc (.int .i64) .nil))))))))) .nil
@[reducible] def i8 : Sh := .sl true 26 (.sc (.int .u32) (.sc (.int .i64) (.sc (.int .u8) (.sc (.int .u32) (.sc (.int .u32) (.sc (.int .i64) (.sc (.int .i64) (.sc (.int .u32) (.sc (.int .i64) .nil))))))))) .nil
@[reducible] def o8 : Sh := .sl true 26 (.sc (.int .u32) (.sc (.int .i64) (.sc (.int .u8) (.sc (.int .u32) (.sc (.int .u32) (.sc (.int .i64) (.sc (.int .i64) (.sc (.int .u32) (.sc (.int .i64) .nil))))))))) (.sl true 3 (.sc (.int .i64) .nil) (.sl true 3 (.sc (.int .i64) .nil) .nil))
abbrev G8 := ((List (Int × Int × Int × Int × Int × Int × Int × Int × Int))) → ((List (Int × Int × Int × Int × Int × Int × Int × Int × Int))) → Option (((List (Int × Int × Int × Int × Int × Int × Int × Int × Int)) × List (Int) × List (Int)) × Unit)
def u8 (F : G8) : Un := ⟨198, [0], k8, [5], i8, [5, 12, 13], o8, [0, 10], [(.normal, [true, true, true])], F⟩
@[reducible] def k9 : Sh := .sl false 26 (.sc (.int .u32) (.sc (.int .i64) (.sc (.int .u8) (.sc (.int .u32) (.sc (.int .u32) (.sc (.int .i64) (.sc (.int .i64) (.sc (.int .u32) (.sc (.int .i64) .nil))))))))) (.sl true 3 (.sc (.int .i64) .nil) (.sl true 3 (.sc (.int .i64) .nil) .nil))
@[reducible] def i9 : Sh := .nil
@[reducible] def o9 : Sh := .sc .bool .nil
abbrev G9 := ((List (Int × Int × Int × Int × Int × Int × Int × Int × Int)) × List (Int) × List (Int)) → Unit → Option (Bool × Unit)
def u9 (F : G9) : Un := ⟨198, [0, 12, 13], k9, [], i9, [118], o9, [0, 5, 10, 12, 13], [(.normal, [true])], F⟩
@[reducible] def k10 : Sh := .sl false 26 (.sc (.int .u32) (.sc (.int .i64) (.sc (.int .u8) (.sc (.int .u32) (.sc (.int .u32) (.sc (.int .i64) (.sc (.int .i64) (.sc (.int .u32) (.sc (.int .i64) .nil))))))))) .nil
@[reducible] def i10 : Sh := .nil
@[reducible] def o10 : Sh := .sl true 4 (.sc .bool .nil) .nil
abbrev G10 := ((List (Int × Int × Int × Int × Int × Int × Int × Int × Int))) → Unit → Option (List (Bool) × Unit)
def u10 (F : G10) : Un := ⟨198, [0], k10, [], i10, [14], o10, [0, 5, 10, 12, 13], [(.normal, [true])], F⟩
@[reducible] def k11 : Sh := .sl false 26 (.sc (.int .u32) (.sc (.int .i64) (.sc (.int .u8) (.sc (.int .u32) (.sc (.int .u32) (.sc (.int .i64) (.sc (.int .i64) (.sc (.int .u32) (.sc (.int .i64) .nil))))))))) (.sl true 26 (.sc (.int .u32) (.sc (.int .i64) (.sc (.int .u8) (.sc (.int .u32) (.sc (.int .u32) (.sc (.int .i64) (.sc (.int .i64) (.sc (.int .u32) (.sc (.int .i64) .nil))))))))) (.sl true 3 (.sc (.int .i64) .nil) (.sl true 3 (.sc (.int .i64) .nil) (.sl true 4 (.sc .bool .nil) (.sc (.int .i64) .nil)))))
@[reducible] def i11 : Sh := .nil
@[reducible] def o11 : Sh := .sc .bool .nil
abbrev G11 := ((List (Int × Int × Int × Int × Int × Int × Int × Int × Int)) × (List (Int × Int × Int × Int × Int × Int × Int × Int × Int)) × List (Int) × List (Int) × List (Bool) × Int) → Unit → Option (Bool × Unit)
def u11 (F : G11) : Un := ⟨198, [0, 5, 12, 13, 14, 15], k11, [], i11, [182], o11, [0, 5, 10, 12, 13, 14, 15, 123, 124], [(.normal, [true])], F⟩
@[reducible] def k12 : Sh := .sl true 3 (.sc (.int .i64) .nil) (.sc (.int .i64) .nil)
@[reducible] def i12 : Sh := .sl true 4 (.sc .bool .nil) .nil
@[reducible] def o12 : Sh := .sl true 4 (.sc .bool .nil) .nil
abbrev G12 := (List (Int) × Int) → List (Bool) → Option (List (Bool) × Unit)
def u12 (F : G12) : Un := ⟨198, [12, 15], k12, [14], i12, [14], o12, [0, 5, 10, 12, 13, 123, 124], [(.normal, [true])], F⟩
@[reducible] def k13 : Sh := .sl false 26 (.sc (.int .u32) (.sc (.int .i64) (.sc (.int .u8) (.sc (.int .u32) (.sc (.int .u32) (.sc (.int .i64) (.sc (.int .i64) (.sc (.int .u32) (.sc (.int .i64) .nil))))))))) (.sl true 26 (.sc (.int .u32) (.sc (.int .i64) (.sc (.int .u8) (.sc (.int .u32) (.sc (.int .u32) (.sc (.int .i64) (.sc (.int .i64) (.sc (.int .u32) (.sc (.int .i64) .nil))))))))) (.sl true 3 (.sc (.int .i64) .nil) (.sl true 3 (.sc (.int .i64) .nil) (.sc (.int .i64) .nil))))
@[reducible] def i13 : Sh := .sl true 4 (.sc .bool .nil) (.sc (.int .i64) .nil)
@[reducible] def o13 : Sh := .sc (.int .i64) (.sc .bool .nil)
abbrev G13 := ((List (Int × Int × Int × Int × Int × Int × Int × Int × Int)) × (List (Int × Int × Int × Int × Int × Int × Int × Int × Int)) × List (Int) × List (Int) × Int) → (List (Bool) × Int) → Option ((Int × Bool) × Unit)
def u13 (F : G13) : Un := ⟨198, [0, 5, 12, 13, 123], k13, [14, 124], i13, [4], o13, [0, 5, 10, 12, 13, 123], [(.exit 2, [false]), (.ret, [true])], F⟩
@[reducible] def k14 : Sh := .sc (.int .i64) (.sl true 3 (.sc (.int .i64) .nil) .nil)
@[reducible] def i14 : Sh := .nil
@[reducible] def o14 : Sh := .sc .bool .nil
abbrev G14 := (Int × List (Int)) → Unit → Option (Bool × Unit)
def u14 (F : G14) : Un := ⟨198, [10, 12], k14, [], i14, [4], o14, [], [(.normal, [true])], F⟩
@[reducible] def i : Sh := .sl false 26 (.sc (.int .u32) (.sc (.int .i64) (.sc (.int .u8) (.sc (.int .u32) (.sc (.int .u32) (.sc (.int .i64) (.sc (.int .i64) (.sc (.int .u32) (.sc (.int .i64) .nil))))))))) (.sl false 5 (.sc (.int .u8) .nil) .nil)
@[reducible] def o : Sh := .sc .bool .nil
abbrev FT := ((List (Int × Int × Int × Int × Int × Int × Int × Int × Int)) × List (Int)) → Option (Bool × Unit)
theorem tabS : AllS Try.prog (tab F9.f F12.f F7.f F13.f) := ⟨F9.spec, F12.spec, F7.spec, F13.spec, says_ok (by kernel_rfl) KA.tells, trivial⟩
theorem plsP : AllP Try.prog (pls F9.f F12.f F7.f F13.f) := trivial
theorem mixed : Try.prog.follows .mixedOrders = true := by kernel_rfl
def r1P (x9 : F9.FT) (x12 : F12.FT) (x7 : F7.FT) (x13 : F13.FT) : G1 := fun l () =>
    bif decide ((0 : Nat) + l.length ≤ l.length) && true then
      (x12 (List.take l.length l)).bind fun r0 =>
       bif decide ((0 : Nat) + List.length r0.fst ≤ List.length r0.fst) && true then
       some (List.take (List.length r0.fst) (List.drop (0 : Nat) r0.fst), PUnit.unit)
       else none
    else none
theorem r1e (x9 : F9.FT) (x12 : F12.FT) (x7 : F7.FT) (x13 : F13.FT) (kd : (List (Int × Int × Int × Int × Int × Int × Int × Int × Int))) (d : Unit) : unitF (tabC Try.prog (tab x9 x12 x7 x13) (pls x9 x12 x7 x13) 100 10) 100 .none (u1 fun _ _ => none) (codeAt [1, 1, 0] (bodyOf Try.prog 5)) kd d = r1P x9 x12 x7 x13 kd d := by kernel_rfl
noncomputable def r1 : G1 := r1P F9.f F12.f F7.f F13.f
noncomputable def l1 : G1 := r1
theorem ok1 : UnOk Try.prog (u1 l1) (codeAt [1, 1, 0] (bodyOf Try.prog 5)) :=
  blockT (p := .none) (fuel := 100) (depth := 10) mixed tabS plsP trivial (fun kd d => Eq.trans (by kernel_rfl) ( r1e F9.f F12.f F7.f F13.f kd d))
def r2P (x9 : F9.FT) (x12 : F12.FT) (x7 : F7.FT) (x13 : F13.FT) : G2 := fun (m, k) () =>
    bif k == (30 : Int) then some (true, PUnit.unit) else some ((↑m.length : Int) == (0 : Int), PUnit.unit)
theorem r2e (x9 : F9.FT) (x12 : F12.FT) (x7 : F7.FT) (x13 : F13.FT) (kd : (List (Int × Int × Int × Int × Int × Int × Int × Int × Int)) × Int) (d : Unit) : unitF (tabC Try.prog (tab x9 x12 x7 x13) (pls x9 x12 x7 x13) 100 10) 100 .none (u2 fun _ _ => none) (codeAt [1, 1, 1, 0, 1, 0, 0, 1, 1, 0, 0, 1, 0, 0] (bodyOf Try.prog 5)) kd d = r2P x9 x12 x7 x13 kd d := by kernel_rfl
noncomputable def r2 : G2 := r2P F9.f F12.f F7.f F13.f
noncomputable def l2 : G2 := r2
theorem ok2 : UnOk Try.prog (u2 l2) (codeAt [1, 1, 1, 0, 1, 0, 0, 1, 1, 0, 0, 1, 0, 0] (bodyOf Try.prog 5)) :=
  blockT (p := .none) (fuel := 100) (depth := 10) mixed tabS plsP trivial (fun kd d => Eq.trans (by kernel_rfl) ( r2e F9.f F12.f F7.f F13.f kd d))
def r3P (x9 : F9.FT) (x12 : F12.FT) (x7 : F7.FT) (x13 : F13.FT) : G3 := fun (m, k, n) () =>
    bif decide ((↑m.length : Int) ≠ (0 : Int)) then
      bif decide ((↑m.length : Int) ≠ (0 : Int)) then
       some ((k.tmod (↑m.length : Int), (IntKind.i64.wrap n).tmod (↑m.length : Int)), PUnit.unit)
      else none
    else none
theorem r3e (x9 : F9.FT) (x12 : F12.FT) (x7 : F7.FT) (x13 : F13.FT) (kd : (List (Int × Int × Int × Int × Int × Int × Int × Int × Int)) × Int × Int) (d : Unit) : unitF (tabC Try.prog (tab x9 x12 x7 x13) (pls x9 x12 x7 x13) 100 10) 100 .none (u3 fun _ _ => none) (codeAt [1, 1, 1, 0, 1, 0, 0, 1, 1, 0, 0, 1, 1, 0] (bodyOf Try.prog 5)) kd d = r3P x9 x12 x7 x13 kd d := by kernel_rfl
noncomputable def r3 : G3 := r3P F9.f F12.f F7.f F13.f
noncomputable def l3 : G3 := r3
theorem ok3 : UnOk Try.prog (u3 l3) (codeAt [1, 1, 1, 0, 1, 0, 0, 1, 1, 0, 0, 1, 1, 0] (bodyOf Try.prog 5)) :=
  blockT (p := .none) (fuel := 100) (depth := 10) mixed tabS plsP trivial (fun kd d => Eq.trans (by kernel_rfl) ( r3e F9.f F12.f F7.f F13.f kd d))
def r4P (x9 : F9.FT) (x12 : F12.FT) (x7 : F7.FT) (x13 : F13.FT) : G4 := fun (i_2, j) m =>
    bif decide ((0 : Int) ≤ j ∧ j < (↑m.length : Int) ∧ (0 : Nat) < m.length) then
      bif decide ((0 : Nat) + j.toNat < m.length) then
       bif decide ((0 : Int) ≤ i_2 ∧ i_2 < (↑m.length : Int) ∧ (0 : Nat) < m.length) then
       bif decide ((0 : Nat) + i_2.toNat < m.length) then
       bif decide ((0 : Int) ≤ i_2 ∧ i_2 < (↑m.length : Int) ∧ (0 : Nat) < m.length) then
       bif decide ((0 : Nat) + i_2.toNat < m.length) then
       bif
       decide
       ((0 : Int) ≤ j ∧
       j < (↑m.length : Int) ∧
       (0 : Nat) <
       (m.set ((0 : Nat) + i_2.toNat)
       ((m.getD ((0 : Nat) + j.toNat)
       ((0 : Int), (0 : Int), (0 : Int), (0 : Int), (0 : Int), (0 : Int), (0 : Int),
       (0 : Int), (0 : Int))).fst,
       (m.getD ((0 : Nat) + j.toNat)
       ((0 : Int), (0 : Int), (0 : Int), (0 : Int), (0 : Int), (0 : Int), (0 : Int),
       (0 : Int), (0 : Int))).snd.fst,
       (m.getD ((0 : Nat) + j.toNat)
       ((0 : Int), (0 : Int), (0 : Int), (0 : Int), (0 : Int), (0 : Int), (0 : Int),
       (0 : Int), (0 : Int))).snd.snd.fst,
       (m.getD ((0 : Nat) + j.toNat)
       ((0 : Int), (0 : Int), (0 : Int), (0 : Int), (0 : Int), (0 : Int), (0 : Int),
       (0 : Int), (0 : Int))).snd.snd.snd.fst,
       (m.getD ((0 : Nat) + j.toNat)
       ((0 : Int), (0 : Int), (0 : Int), (0 : Int), (0 : Int), (0 : Int),
       (0 : Int), (0 : Int), (0 : Int))).snd.snd.snd.snd.fst,
       (m.getD ((0 : Nat) + j.toNat)
       ((0 : Int), (0 : Int), (0 : Int), (0 : Int), (0 : Int), (0 : Int),
       (0 : Int), (0 : Int), (0 : Int))).snd.snd.snd.snd.snd.fst,
       (m.getD ((0 : Nat) + j.toNat)
       ((0 : Int), (0 : Int), (0 : Int), (0 : Int), (0 : Int), (0 : Int),
       (0 : Int), (0 : Int), (0 : Int))).snd.snd.snd.snd.snd.snd.fst,
       (m.getD ((0 : Nat) + j.toNat)
       ((0 : Int), (0 : Int), (0 : Int), (0 : Int), (0 : Int), (0 : Int),
       (0 : Int), (0 : Int), (0 : Int))).snd.snd.snd.snd.snd.snd.snd.fst,
       (m.getD ((0 : Nat) + j.toNat)
       ((0 : Int), (0 : Int), (0 : Int), (0 : Int), (0 : Int), (0 : Int),
       (0 : Int), (0 : Int),
       (0 : Int))).snd.snd.snd.snd.snd.snd.snd.snd)).length) then
       bif
       decide
       ((0 : Nat) + j.toNat <
       (m.set ((0 : Nat) + i_2.toNat)
       ((m.getD ((0 : Nat) + j.toNat)
       ((0 : Int), (0 : Int), (0 : Int), (0 : Int), (0 : Int), (0 : Int), (0 : Int),
       (0 : Int), (0 : Int))).fst,
       (m.getD ((0 : Nat) + j.toNat)
       ((0 : Int), (0 : Int), (0 : Int), (0 : Int), (0 : Int), (0 : Int), (0 : Int),
       (0 : Int), (0 : Int))).snd.fst,
       (m.getD ((0 : Nat) + j.toNat)
       ((0 : Int), (0 : Int), (0 : Int), (0 : Int), (0 : Int), (0 : Int), (0 : Int),
       (0 : Int), (0 : Int))).snd.snd.fst,
       (m.getD ((0 : Nat) + j.toNat)
       ((0 : Int), (0 : Int), (0 : Int), (0 : Int), (0 : Int), (0 : Int), (0 : Int),
       (0 : Int), (0 : Int))).snd.snd.snd.fst,
       (m.getD ((0 : Nat) + j.toNat)
       ((0 : Int), (0 : Int), (0 : Int), (0 : Int), (0 : Int), (0 : Int), (0 : Int),
       (0 : Int), (0 : Int))).snd.snd.snd.snd.fst,
       (m.getD ((0 : Nat) + j.toNat)
       ((0 : Int), (0 : Int), (0 : Int), (0 : Int), (0 : Int), (0 : Int),
       (0 : Int), (0 : Int), (0 : Int))).snd.snd.snd.snd.snd.fst,
       (m.getD ((0 : Nat) + j.toNat)
       ((0 : Int), (0 : Int), (0 : Int), (0 : Int), (0 : Int), (0 : Int),
       (0 : Int), (0 : Int), (0 : Int))).snd.snd.snd.snd.snd.snd.fst,
       (m.getD ((0 : Nat) + j.toNat)
       ((0 : Int), (0 : Int), (0 : Int), (0 : Int), (0 : Int), (0 : Int),
       (0 : Int), (0 : Int), (0 : Int))).snd.snd.snd.snd.snd.snd.snd.fst,
       (m.getD ((0 : Nat) + j.toNat)
       ((0 : Int), (0 : Int), (0 : Int), (0 : Int), (0 : Int), (0 : Int),
       (0 : Int), (0 : Int),
       (0 : Int))).snd.snd.snd.snd.snd.snd.snd.snd)).length) then
       bif
       decide
       ((0 : Nat) + m.length ≤
       ((m.set ((0 : Nat) + i_2.toNat)
       ((m.getD ((0 : Nat) + j.toNat)
       ((0 : Int), (0 : Int), (0 : Int), (0 : Int), (0 : Int), (0 : Int), (0 : Int),
       (0 : Int), (0 : Int))).fst,
       (m.getD ((0 : Nat) + j.toNat)
       ((0 : Int), (0 : Int), (0 : Int), (0 : Int), (0 : Int), (0 : Int),
       (0 : Int), (0 : Int), (0 : Int))).snd.fst,
       (m.getD ((0 : Nat) + j.toNat)
       ((0 : Int), (0 : Int), (0 : Int), (0 : Int), (0 : Int), (0 : Int),
       (0 : Int), (0 : Int), (0 : Int))).snd.snd.fst,
       (m.getD ((0 : Nat) + j.toNat)
       ((0 : Int), (0 : Int), (0 : Int), (0 : Int), (0 : Int), (0 : Int),
       (0 : Int), (0 : Int), (0 : Int))).snd.snd.snd.fst,
       (m.getD ((0 : Nat) + j.toNat)
       ((0 : Int), (0 : Int), (0 : Int), (0 : Int), (0 : Int), (0 : Int),
       (0 : Int), (0 : Int), (0 : Int))).snd.snd.snd.snd.fst,
       (m.getD ((0 : Nat) + j.toNat)
       ((0 : Int), (0 : Int), (0 : Int), (0 : Int), (0 : Int), (0 : Int),
       (0 : Int), (0 : Int), (0 : Int))).snd.snd.snd.snd.snd.fst,
       (m.getD ((0 : Nat) + j.toNat)
       ((0 : Int), (0 : Int), (0 : Int), (0 : Int), (0 : Int), (0 : Int),
       (0 : Int), (0 : Int), (0 : Int))).snd.snd.snd.snd.snd.snd.fst,
       (m.getD ((0 : Nat) + j.toNat)
       ((0 : Int), (0 : Int), (0 : Int), (0 : Int), (0 : Int),
       (0 : Int), (0 : Int), (0 : Int),
       (0 : Int))).snd.snd.snd.snd.snd.snd.snd.fst,
       (m.getD ((0 : Nat) + j.toNat)
       ((0 : Int), (0 : Int), (0 : Int), (0 : Int), (0 : Int),
       (0 : Int), (0 : Int), (0 : Int),
       (0 : Int))).snd.snd.snd.snd.snd.snd.snd.snd)).set
       ((0 : Nat) + j.toNat)
       ((m.getD ((0 : Nat) + i_2.toNat)
       ((0 : Int), (0 : Int), (0 : Int), (0 : Int), (0 : Int), (0 : Int), (0 : Int),
       (0 : Int), (0 : Int))).fst,
       (m.getD ((0 : Nat) + i_2.toNat)
       ((0 : Int), (0 : Int), (0 : Int), (0 : Int), (0 : Int), (0 : Int), (0 : Int),
       (0 : Int), (0 : Int))).snd.fst,
       (m.getD ((0 : Nat) + i_2.toNat)
       ((0 : Int), (0 : Int), (0 : Int), (0 : Int), (0 : Int), (0 : Int), (0 : Int),
       (0 : Int), (0 : Int))).snd.snd.fst,
       (m.getD ((0 : Nat) + i_2.toNat)
       ((0 : Int), (0 : Int), (0 : Int), (0 : Int), (0 : Int), (0 : Int),
       (0 : Int), (0 : Int), (0 : Int))).snd.snd.snd.fst,
       (m.getD ((0 : Nat) + i_2.toNat)
       ((0 : Int), (0 : Int), (0 : Int), (0 : Int), (0 : Int), (0 : Int),
       (0 : Int), (0 : Int), (0 : Int))).snd.snd.snd.snd.fst,
       (m.getD ((0 : Nat) + i_2.toNat)
       ((0 : Int), (0 : Int), (0 : Int), (0 : Int), (0 : Int), (0 : Int),
       (0 : Int), (0 : Int), (0 : Int))).snd.snd.snd.snd.snd.fst,
       (m.getD ((0 : Nat) + i_2.toNat)
       ((0 : Int), (0 : Int), (0 : Int), (0 : Int), (0 : Int), (0 : Int),
       (0 : Int), (0 : Int), (0 : Int))).snd.snd.snd.snd.snd.snd.fst,
       (m.getD ((0 : Nat) + i_2.toNat)
       ((0 : Int), (0 : Int), (0 : Int), (0 : Int), (0 : Int), (0 : Int),
       (0 : Int), (0 : Int), (0 : Int))).snd.snd.snd.snd.snd.snd.snd.fst,
       (m.getD ((0 : Nat) + i_2.toNat)
       ((0 : Int), (0 : Int), (0 : Int), (0 : Int), (0 : Int), (0 : Int),
       (0 : Int), (0 : Int),
       (0 : Int))).snd.snd.snd.snd.snd.snd.snd.snd)).length) &&
       true then
       some
       (List.take m.length
       (List.drop (0 : Nat)
       ((m.set ((0 : Nat) + i_2.toNat)
       ((m.getD ((0 : Nat) + j.toNat)
       ((0 : Int), (0 : Int), (0 : Int), (0 : Int), (0 : Int), (0 : Int), (0 : Int),
       (0 : Int), (0 : Int))).fst,
       (m.getD ((0 : Nat) + j.toNat)
       ((0 : Int), (0 : Int), (0 : Int), (0 : Int), (0 : Int), (0 : Int), (0 : Int),
       (0 : Int), (0 : Int))).snd.fst,
       (m.getD ((0 : Nat) + j.toNat)
       ((0 : Int), (0 : Int), (0 : Int), (0 : Int), (0 : Int), (0 : Int),
       (0 : Int), (0 : Int), (0 : Int))).snd.snd.fst,
       (m.getD ((0 : Nat) + j.toNat)
       ((0 : Int), (0 : Int), (0 : Int), (0 : Int), (0 : Int), (0 : Int),
       (0 : Int), (0 : Int), (0 : Int))).snd.snd.snd.fst,
       (m.getD ((0 : Nat) + j.toNat)
       ((0 : Int), (0 : Int), (0 : Int), (0 : Int), (0 : Int), (0 : Int),
       (0 : Int), (0 : Int), (0 : Int))).snd.snd.snd.snd.fst,
       (m.getD ((0 : Nat) + j.toNat)
       ((0 : Int), (0 : Int), (0 : Int), (0 : Int), (0 : Int), (0 : Int),
       (0 : Int), (0 : Int), (0 : Int))).snd.snd.snd.snd.snd.fst,
       (m.getD ((0 : Nat) + j.toNat)
       ((0 : Int), (0 : Int), (0 : Int), (0 : Int), (0 : Int), (0 : Int),
       (0 : Int), (0 : Int), (0 : Int))).snd.snd.snd.snd.snd.snd.fst,
       (m.getD ((0 : Nat) + j.toNat)
       ((0 : Int), (0 : Int), (0 : Int), (0 : Int), (0 : Int), (0 : Int),
       (0 : Int), (0 : Int),
       (0 : Int))).snd.snd.snd.snd.snd.snd.snd.fst,
       (m.getD ((0 : Nat) + j.toNat)
       ((0 : Int), (0 : Int), (0 : Int), (0 : Int), (0 : Int), (0 : Int),
       (0 : Int), (0 : Int),
       (0 : Int))).snd.snd.snd.snd.snd.snd.snd.snd)).set
       ((0 : Nat) + j.toNat)
       ((m.getD ((0 : Nat) + i_2.toNat)
       ((0 : Int), (0 : Int), (0 : Int), (0 : Int), (0 : Int), (0 : Int), (0 : Int),
       (0 : Int), (0 : Int))).fst,
       (m.getD ((0 : Nat) + i_2.toNat)
       ((0 : Int), (0 : Int), (0 : Int), (0 : Int), (0 : Int), (0 : Int), (0 : Int),
       (0 : Int), (0 : Int))).snd.fst,
       (m.getD ((0 : Nat) + i_2.toNat)
       ((0 : Int), (0 : Int), (0 : Int), (0 : Int), (0 : Int), (0 : Int), (0 : Int),
       (0 : Int), (0 : Int))).snd.snd.fst,
       (m.getD ((0 : Nat) + i_2.toNat)
       ((0 : Int), (0 : Int), (0 : Int), (0 : Int), (0 : Int), (0 : Int), (0 : Int),
       (0 : Int), (0 : Int))).snd.snd.snd.fst,
       (m.getD ((0 : Nat) + i_2.toNat)
       ((0 : Int), (0 : Int), (0 : Int), (0 : Int), (0 : Int), (0 : Int),
       (0 : Int), (0 : Int), (0 : Int))).snd.snd.snd.snd.fst,
       (m.getD ((0 : Nat) + i_2.toNat)
       ((0 : Int), (0 : Int), (0 : Int), (0 : Int), (0 : Int), (0 : Int),
       (0 : Int), (0 : Int), (0 : Int))).snd.snd.snd.snd.snd.fst,
       (m.getD ((0 : Nat) + i_2.toNat)
       ((0 : Int), (0 : Int), (0 : Int), (0 : Int), (0 : Int), (0 : Int),
       (0 : Int), (0 : Int), (0 : Int))).snd.snd.snd.snd.snd.snd.fst,
       (m.getD ((0 : Nat) + i_2.toNat)
       ((0 : Int), (0 : Int), (0 : Int), (0 : Int), (0 : Int), (0 : Int),
       (0 : Int), (0 : Int), (0 : Int))).snd.snd.snd.snd.snd.snd.snd.fst,
       (m.getD ((0 : Nat) + i_2.toNat)
       ((0 : Int), (0 : Int), (0 : Int), (0 : Int), (0 : Int), (0 : Int),
       (0 : Int), (0 : Int),
       (0 : Int))).snd.snd.snd.snd.snd.snd.snd.snd))),
       PUnit.unit)
       else none
       else none
       else none
       else none
       else none
       else none
       else none
      else none
    else none
theorem r4e (x9 : F9.FT) (x12 : F12.FT) (x7 : F7.FT) (x13 : F13.FT) (kd : Int × Int) (d : (List (Int × Int × Int × Int × Int × Int × Int × Int × Int))) : unitF (tabC Try.prog (tab x9 x12 x7 x13) (pls x9 x12 x7 x13) 100 10) 100 .none (u4 fun _ _ => none) (codeAt [1, 1, 1, 0, 1, 0, 0, 1, 1, 0, 0, 1, 1, 1] (bodyOf Try.prog 5)) kd d = r4P x9 x12 x7 x13 kd d := by kernel_rfl
noncomputable def r4 : G4 := r4P F9.f F12.f F7.f F13.f
noncomputable def l4 : G4 := r4
theorem ok4 : UnOk Try.prog (u4 l4) (codeAt [1, 1, 1, 0, 1, 0, 0, 1, 1, 0, 0, 1, 1, 1] (bodyOf Try.prog 5)) :=
  blockT (p := .none) (fuel := 100) (depth := 10) mixed tabS plsP trivial (fun kd d => Eq.trans (by kernel_rfl) ( r4e F9.f F12.f F7.f F13.f kd d))
def r5P (x9 : F9.FT) (x12 : F12.FT) (x7 : F7.FT) (x13 : F13.FT) (l2 : G2) (l3 : G3) (l4 : G4) : (List (Int) × Int) → ((List (Int × Int × Int × Int × Int × Int × Int × Int × Int)) × Int) → Option (((List (Int × Int × Int × Int × Int × Int × Int × Int × Int)) × Int) ⊕ (((List (Int × Int × Int × Int × Int × Int × Int × Int × Int))) × Unit)) := fun (t20, t21) (m, t22) =>
    bif decide (t22 < t21) then
      bif decide ((0 : Int) ≤ t22 ∧ t22 < (↑t20.length : Int) ∧ (0 : Nat) < t20.length) then
       bif decide ((0 : Nat) + t22.toNat < t20.length) then
       bif decide ((0 : Nat) + m.length ≤ m.length) && true then
       (l2 (List.take m.length m, t22) PUnit.unit).bind fun r0 =>
       bif r0.fst then
       bif decide ((0 : Nat) + m.length ≤ m.length) && true then
       some (Sum.inr (List.take m.length m, PUnit.unit))
       else none
       else
       bif decide ((0 : Nat) + m.length ≤ m.length) && true then
       (l3 (List.take m.length m, t22, t20.getD ((0 : Nat) + t22.toNat) (0 : Int)) PUnit.unit).bind fun r1 =>
       bif decide ((0 : Nat) + m.length ≤ m.length) && true then
       (l4 (r1.fst.fst, r1.fst.snd) (List.take m.length m)).bind fun r2 =>
       bif decide ((0 : Nat) + List.length r2.fst ≤ List.length r2.fst) && true then
       some
       (Sum.inl
       (List.take (List.length r2.fst) (List.drop (0 : Nat) r2.fst),
       IntKind.i64.wrap (t22 + (1 : Int))))
       else none
       else none
       else none
       else none
       else none
      else none
    else
      bif decide ((0 : Nat) + m.length ≤ m.length) && true then some (Sum.inr (List.take m.length m, PUnit.unit))
      else none
theorem r5e (x9 : F9.FT) (x12 : F12.FT) (x7 : F7.FT) (x13 : F13.FT) (l2 : G2) (l3 : G3) (l4 : G4) (kd : List (Int) × Int) (d : (List (Int × Int × Int × Int × Int × Int × Int × Int × Int)) × Int) : roundF (tabC Try.prog (tab x9 x12 x7 x13) (pls x9 x12 x7 x13) 100 10) 100 (.node .none (.node .none (.node (.node (.node .none (.node (.node (.unit (u2 l2)) .none) (.node (.unit (u3 l3)) (.unit (u4 l4))))) .none) .none))) (u5 fun _ _ => none) (codeAt [1, 1, 1, 0, 1, 0, 0] (bodyOf Try.prog 5)) kd d = r5P x9 x12 x7 x13 l2 l3 l4 kd d := by kernel_rfl
noncomputable def r5 : (List (Int) × Int) → ((List (Int × Int × Int × Int × Int × Int × Int × Int × Int)) × Int) → Option (((List (Int × Int × Int × Int × Int × Int × Int × Int × Int)) × Int) ⊕ (((List (Int × Int × Int × Int × Int × Int × Int × Int × Int))) × Unit)) := r5P F9.f F12.f F7.f F13.f l2 l3 l4
noncomputable def l5 : G5 := fun kd d => iterO (r5 kd) d
theorem ok5 : UnOk Try.prog (u5 l5) (codeAt [1, 1, 1, 0, 1, 0] (bodyOf Try.prog 5)) :=
  loopT (p := (.node .none (.node .none (.node (.node (.node .none (.node (.node (.unit (u2 l2)) .none) (.node (.unit (u3 l3)) (.unit (u4 l4))))) .none) .none)))) (c := codeAt [1, 1, 1, 0, 1, 0, 0] (bodyOf Try.prog 5)) (fuel := 100) (depth := 10) mixed tabS plsP (by kernel_rfl) (planOk_of (.node .none (.node .none (.node (.node (.node .none (.node (.node (.unit (u2 l2)) .none) (.node (.unit (u3 l3)) (.unit (u4 l4))))) .none) .none))) _ [([1, 1, 0, 0, 1, 0, 0], u2 l2), ([1, 1, 0, 0, 1, 1, 0], u3 l3), ([1, 1, 0, 0, 1, 1, 1], u4 l4)] rfl ⟨ok2, ok3, ok4, trivial⟩) (by kernel_rfl) (fun kd d => r5e F9.f F12.f F7.f F13.f l2 l3 l4 kd d) rfl
def r6P (x9 : F9.FT) (x12 : F12.FT) (x7 : F7.FT) (x13 : F13.FT) : G6 := fun l m =>
    bif decide ((0 : Nat) + l.length ≤ l.length) && true then
      (x7 (List.take l.length l)).bind fun r0 =>
       bif decide ((0 : Nat) + m.length ≤ m.length) && true then
       (x7 (List.take m.length m)).bind fun r1 =>
       bif decide ((0 : Nat) + m.length ≤ m.length) && true then
       some ((List.take m.length m, r0.fst, r1.fst), PUnit.unit)
       else none
       else none
    else none
theorem r6e (x9 : F9.FT) (x12 : F12.FT) (x7 : F7.FT) (x13 : F13.FT) (kd : (List (Int × Int × Int × Int × Int × Int × Int × Int × Int))) (d : (List (Int × Int × Int × Int × Int × Int × Int × Int × Int))) : unitF (tabC Try.prog (tab x9 x12 x7 x13) (pls x9 x12 x7 x13) 100 10) 100 .none (u6 fun _ _ => none) (codeAt [1, 1, 1, 1, 0] (bodyOf Try.prog 5)) kd d = r6P x9 x12 x7 x13 kd d := by kernel_rfl
noncomputable def r6 : G6 := r6P F9.f F12.f F7.f F13.f
noncomputable def l6 : G6 := r6
theorem ok6 : UnOk Try.prog (u6 l6) (codeAt [1, 1, 1, 1, 0] (bodyOf Try.prog 5)) :=
  blockT (p := .none) (fuel := 100) (depth := 10) mixed tabS plsP trivial (fun kd d => Eq.trans (by kernel_rfl) ( r6e F9.f F12.f F7.f F13.f kd d))
def r7P (x9 : F9.FT) (x12 : F12.FT) (x7 : F7.FT) (x13 : F13.FT) : G7 := fun (l, m, a, b) () =>
    bif decide (a < (0 : Int)) then some (true, PUnit.unit)
    else
      bif decide (a ≥ (↑l.length : Int)) then some (true, PUnit.unit)
      else
       bif decide (b < (0 : Int)) then some (true, PUnit.unit)
       else
       bif decide (b ≥ (↑m.length : Int)) then some (true, PUnit.unit)
       else
       bif decide ((0 : Int) ≤ a ∧ a < (↑l.length : Int) ∧ (0 : Nat) < l.length) then
       bif decide ((0 : Nat) + a.toNat < l.length) then
       bif decide ((0 : Int) ≤ b ∧ b < (↑m.length : Int) ∧ (0 : Nat) < m.length) then
       bif decide ((0 : Nat) + b.toNat < m.length) then
       some
       (!((l.getD ((0 : Nat) + a.toNat)
       ((0 : Int), (0 : Int), (0 : Int), (0 : Int), (0 : Int), (0 : Int), (0 : Int), (0 : Int),
       (0 : Int))).fst ==
       (m.getD ((0 : Nat) + b.toNat)
       ((0 : Int), (0 : Int), (0 : Int), (0 : Int), (0 : Int), (0 : Int), (0 : Int), (0 : Int),
       (0 : Int))).fst &&
       ((l.getD ((0 : Nat) + a.toNat)
       ((0 : Int), (0 : Int), (0 : Int), (0 : Int), (0 : Int), (0 : Int), (0 : Int),
       (0 : Int), (0 : Int))).snd.fst ==
       (m.getD ((0 : Nat) + b.toNat)
       ((0 : Int), (0 : Int), (0 : Int), (0 : Int), (0 : Int), (0 : Int), (0 : Int),
       (0 : Int), (0 : Int))).snd.fst &&
       ((l.getD ((0 : Nat) + a.toNat)
       ((0 : Int), (0 : Int), (0 : Int), (0 : Int), (0 : Int), (0 : Int), (0 : Int),
       (0 : Int), (0 : Int))).snd.snd.fst ==
       (m.getD ((0 : Nat) + b.toNat)
       ((0 : Int), (0 : Int), (0 : Int), (0 : Int), (0 : Int), (0 : Int), (0 : Int),
       (0 : Int), (0 : Int))).snd.snd.fst &&
       ((l.getD ((0 : Nat) + a.toNat)
       ((0 : Int), (0 : Int), (0 : Int), (0 : Int), (0 : Int), (0 : Int),
       (0 : Int), (0 : Int), (0 : Int))).snd.snd.snd.fst ==
       (m.getD ((0 : Nat) + b.toNat)
       ((0 : Int), (0 : Int), (0 : Int), (0 : Int), (0 : Int), (0 : Int),
       (0 : Int), (0 : Int), (0 : Int))).snd.snd.snd.fst &&
       ((l.getD ((0 : Nat) + a.toNat)
       ((0 : Int), (0 : Int), (0 : Int), (0 : Int), (0 : Int), (0 : Int),
       (0 : Int), (0 : Int), (0 : Int))).snd.snd.snd.snd.fst ==
       (m.getD ((0 : Nat) + b.toNat)
       ((0 : Int), (0 : Int), (0 : Int), (0 : Int), (0 : Int), (0 : Int),
       (0 : Int), (0 : Int), (0 : Int))).snd.snd.snd.snd.fst &&
       ((l.getD ((0 : Nat) + a.toNat)
       ((0 : Int), (0 : Int), (0 : Int), (0 : Int), (0 : Int), (0 : Int),
       (0 : Int), (0 : Int), (0 : Int))).snd.snd.snd.snd.snd.fst ==
       (m.getD ((0 : Nat) + b.toNat)
       ((0 : Int), (0 : Int), (0 : Int), (0 : Int), (0 : Int), (0 : Int),
       (0 : Int), (0 : Int), (0 : Int))).snd.snd.snd.snd.snd.fst &&
       ((l.getD ((0 : Nat) + a.toNat)
       ((0 : Int), (0 : Int), (0 : Int), (0 : Int), (0 : Int),
       (0 : Int), (0 : Int), (0 : Int),
       (0 : Int))).snd.snd.snd.snd.snd.snd.fst ==
       (m.getD ((0 : Nat) + b.toNat)
       ((0 : Int), (0 : Int), (0 : Int), (0 : Int), (0 : Int),
       (0 : Int), (0 : Int), (0 : Int),
       (0 : Int))).snd.snd.snd.snd.snd.snd.fst &&
       ((l.getD ((0 : Nat) + a.toNat)
       ((0 : Int), (0 : Int), (0 : Int), (0 : Int), (0 : Int),
       (0 : Int), (0 : Int), (0 : Int),
       (0 : Int))).snd.snd.snd.snd.snd.snd.snd.fst ==
       (m.getD ((0 : Nat) + b.toNat)
       ((0 : Int), (0 : Int), (0 : Int), (0 : Int), (0 : Int),
       (0 : Int), (0 : Int), (0 : Int),
       (0 : Int))).snd.snd.snd.snd.snd.snd.snd.fst &&
       ((l.getD ((0 : Nat) + a.toNat)
       ((0 : Int), (0 : Int), (0 : Int), (0 : Int), (0 : Int),
       (0 : Int), (0 : Int), (0 : Int),
       (0 : Int))).snd.snd.snd.snd.snd.snd.snd.snd ==
       (m.getD ((0 : Nat) + b.toNat)
       ((0 : Int), (0 : Int), (0 : Int), (0 : Int), (0 : Int),
       (0 : Int), (0 : Int), (0 : Int),
       (0 : Int))).snd.snd.snd.snd.snd.snd.snd.snd &&
       true))))))))),
       PUnit.unit)
       else none
       else none
       else none
       else none
theorem r7e (x9 : F9.FT) (x12 : F12.FT) (x7 : F7.FT) (x13 : F13.FT) (kd : (List (Int × Int × Int × Int × Int × Int × Int × Int × Int)) × (List (Int × Int × Int × Int × Int × Int × Int × Int × Int)) × Int × Int) (d : Unit) : unitF (tabC Try.prog (tab x9 x12 x7 x13) (pls x9 x12 x7 x13) 100 10) 100 .none (u7 fun _ _ => none) (codeAt [1, 1, 1, 1, 1, 1, 0, 0] (bodyOf Try.prog 5)) kd d = r7P x9 x12 x7 x13 kd d := by kernel_rfl
noncomputable def r7 : G7 := r7P F9.f F12.f F7.f F13.f
noncomputable def l7 : G7 := r7
theorem ok7 : UnOk Try.prog (u7 l7) (codeAt [1, 1, 1, 1, 1, 1, 0, 0] (bodyOf Try.prog 5)) :=
  blockT (p := .none) (fuel := 100) (depth := 10) mixed tabS plsP trivial (fun kd d => Eq.trans (by kernel_rfl) ( r7e F9.f F12.f F7.f F13.f kd d))
def r8P (x9 : F9.FT) (x12 : F12.FT) (x7 : F7.FT) (x13 : F13.FT) : G8 := fun l m =>
    bif decide ((0 : Nat) + l.length ≤ l.length) && true then
      (x13 (List.take l.length l)).bind fun r0 =>
       bif decide ((0 : Nat) + m.length ≤ m.length) && true then
       (x13 (List.take m.length m)).bind fun r1 =>
       bif decide ((0 : Nat) + m.length ≤ m.length) && true then
       bif decide ((0 : Nat) + List.length r0.fst ≤ List.length r0.fst) && true then
       bif decide ((0 : Nat) + List.length r1.fst ≤ List.length r1.fst) && true then
       some
       ((List.take m.length m, List.take (List.length r0.fst) (List.drop (0 : Nat) r0.fst),
       List.take (List.length r1.fst) (List.drop (0 : Nat) r1.fst)),
       PUnit.unit)
       else none
       else none
       else none
       else none
    else none
theorem r8e (x9 : F9.FT) (x12 : F12.FT) (x7 : F7.FT) (x13 : F13.FT) (kd : (List (Int × Int × Int × Int × Int × Int × Int × Int × Int))) (d : (List (Int × Int × Int × Int × Int × Int × Int × Int × Int))) : unitF (tabC Try.prog (tab x9 x12 x7 x13) (pls x9 x12 x7 x13) 100 10) 100 .none (u8 fun _ _ => none) (codeAt [1, 1, 1, 1, 1, 1, 1, 0] (bodyOf Try.prog 5)) kd d = r8P x9 x12 x7 x13 kd d := by kernel_rfl
noncomputable def r8 : G8 := r8P F9.f F12.f F7.f F13.f
noncomputable def l8 : G8 := r8
theorem ok8 : UnOk Try.prog (u8 l8) (codeAt [1, 1, 1, 1, 1, 1, 1, 0] (bodyOf Try.prog 5)) :=
  blockT (p := .none) (fuel := 100) (depth := 10) mixed tabS plsP trivial (fun kd d => Eq.trans (by kernel_rfl) ( r8e F9.f F12.f F7.f F13.f kd d))
def r9P (x9 : F9.FT) (x12 : F12.FT) (x7 : F7.FT) (x13 : F13.FT) : G9 := fun (l, x, y) () =>
    bif (↑x.length : Int) != (↑l.length : Int) then some (true, PUnit.unit)
    else some ((↑y.length : Int) != (↑l.length : Int), PUnit.unit)
theorem r9e (x9 : F9.FT) (x12 : F12.FT) (x7 : F7.FT) (x13 : F13.FT) (kd : (List (Int × Int × Int × Int × Int × Int × Int × Int × Int)) × List (Int) × List (Int)) (d : Unit) : unitF (tabC Try.prog (tab x9 x12 x7 x13) (pls x9 x12 x7 x13) 100 10) 100 .none (u9 fun _ _ => none) (codeAt [1, 1, 1, 1, 1, 1, 1, 1, 0, 0] (bodyOf Try.prog 5)) kd d = r9P x9 x12 x7 x13 kd d := by kernel_rfl
noncomputable def r9 : G9 := r9P F9.f F12.f F7.f F13.f
noncomputable def l9 : G9 := r9
theorem ok9 : UnOk Try.prog (u9 l9) (codeAt [1, 1, 1, 1, 1, 1, 1, 1, 0, 0] (bodyOf Try.prog 5)) :=
  blockT (p := .none) (fuel := 100) (depth := 10) mixed tabS plsP trivial (fun kd d => Eq.trans (by kernel_rfl) ( r9e F9.f F12.f F7.f F13.f kd d))
def r10P (x9 : F9.FT) (x12 : F12.FT) (x7 : F7.FT) (x13 : F13.FT) : G10 := fun l () =>
    bif
       decide
       ((0 : Int) ≤ (↑l.length : Int) ∧
       (↑l.length : Int) ≤ (↑l.length : Int) ∧
       (↑l.length : Int) ≤ (1073741824 : Int) ∧
       (↑(OfNat.ofNat (1 : Nat)) : Int) * (↑l.length : Int) ≤ (281474976710656 : Int)) then
      bif
       decide ((0 : Nat) + (↑l.length : Int).toNat ≤ (List.replicate (↑l.length : Int).toNat false).length) &&
       true then
       some
       (List.take (↑l.length : Int).toNat (List.drop (0 : Nat) (List.replicate (↑l.length : Int).toNat false)),
       PUnit.unit)
      else none
    else none
theorem r10e (x9 : F9.FT) (x12 : F12.FT) (x7 : F7.FT) (x13 : F13.FT) (kd : (List (Int × Int × Int × Int × Int × Int × Int × Int × Int))) (d : Unit) : unitF (tabC Try.prog (tab x9 x12 x7 x13) (pls x9 x12 x7 x13) 100 10) 100 .none (u10 fun _ _ => none) (codeAt [1, 1, 1, 1, 1, 1, 1, 1, 1, 0] (bodyOf Try.prog 5)) kd d = r10P x9 x12 x7 x13 kd d := by kernel_rfl
noncomputable def r10 : G10 := r10P F9.f F12.f F7.f F13.f
noncomputable def l10 : G10 := r10
theorem ok10 : UnOk Try.prog (u10 l10) (codeAt [1, 1, 1, 1, 1, 1, 1, 1, 1, 0] (bodyOf Try.prog 5)) :=
  blockT (p := .none) (fuel := 100) (depth := 10) mixed tabS plsP trivial (fun kd d => Eq.trans (by kernel_rfl) ( r10e F9.f F12.f F7.f F13.f kd d))
def r11P (x9 : F9.FT) (x12 : F12.FT) (x7 : F7.FT) (x13 : F13.FT) : G11 := fun (l, m, x, y, seen, k) () =>
    bif decide ((0 : Int) ≤ k ∧ k < (↑x.length : Int) ∧ (0 : Nat) < x.length) then
      bif decide ((0 : Nat) + k.toNat < x.length) then
       bif decide (x.getD ((0 : Nat) + k.toNat) (0 : Int) < (0 : Int)) then some (true, PUnit.unit)
       else
       bif decide ((0 : Int) ≤ k ∧ k < (↑x.length : Int) ∧ (0 : Nat) < x.length) then
       bif decide ((0 : Nat) + k.toNat < x.length) then
       bif decide (x.getD ((0 : Nat) + k.toNat) (0 : Int) ≥ (↑l.length : Int)) then some (true, PUnit.unit)
       else
       bif decide ((0 : Int) ≤ k ∧ k < (↑y.length : Int) ∧ (0 : Nat) < y.length) then
       bif decide ((0 : Nat) + k.toNat < y.length) then
       bif decide (y.getD ((0 : Nat) + k.toNat) (0 : Int) < (0 : Int)) then some (true, PUnit.unit)
       else
       bif decide ((0 : Int) ≤ k ∧ k < (↑y.length : Int) ∧ (0 : Nat) < y.length) then
       bif decide ((0 : Nat) + k.toNat < y.length) then
       bif decide (y.getD ((0 : Nat) + k.toNat) (0 : Int) ≥ (↑l.length : Int)) then
       some (true, PUnit.unit)
       else
       bif decide ((0 : Int) ≤ k ∧ k < (↑x.length : Int) ∧ (0 : Nat) < x.length) then
       bif decide ((0 : Nat) + k.toNat < x.length) then
       bif
       decide
       ((0 : Int) ≤ x.getD ((0 : Nat) + k.toNat) (0 : Int) ∧
       x.getD ((0 : Nat) + k.toNat) (0 : Int) < (↑seen.length : Int) ∧
       (0 : Nat) < seen.length) then
       bif
       decide
       ((0 : Nat) + Int.toNat (x.getD ((0 : Nat) + k.toNat) (0 : Int)) <
       seen.length) then
       bif
       seen.getD ((0 : Nat) + Int.toNat (x.getD ((0 : Nat) + k.toNat) (0 : Int)))
       false then
       some (true, PUnit.unit)
       else
       bif decide ((0 : Int) ≤ k ∧ k < (↑x.length : Int) ∧ (0 : Nat) < x.length) then
       bif decide ((0 : Nat) + k.toNat < x.length) then
       bif
       decide
       ((0 : Int) ≤ x.getD ((0 : Nat) + k.toNat) (0 : Int) ∧
       x.getD ((0 : Nat) + k.toNat) (0 : Int) < (↑l.length : Int) ∧
       (0 : Nat) < l.length) then
       bif
       decide
       ((0 : Nat) + Int.toNat (x.getD ((0 : Nat) + k.toNat) (0 : Int)) <
       l.length) then
       bif
       decide
       ((0 : Int) ≤ k ∧ k < (↑y.length : Int) ∧ (0 : Nat) < y.length) then
       bif decide ((0 : Nat) + k.toNat < y.length) then
       bif
       decide
       ((0 : Int) ≤ y.getD ((0 : Nat) + k.toNat) (0 : Int) ∧
       y.getD ((0 : Nat) + k.toNat) (0 : Int) < (↑m.length : Int) ∧
       (0 : Nat) < m.length) then
       bif
       decide
       ((0 : Nat) +
       Int.toNat (y.getD ((0 : Nat) + k.toNat) (0 : Int)) <
       m.length) then
       some
       (!((l.getD
       ((0 : Nat) +
       Int.toNat (x.getD ((0 : Nat) + k.toNat) (0 : Int)))
       ((0 : Int), (0 : Int), (0 : Int), (0 : Int),
       (0 : Int), (0 : Int), (0 : Int), (0 : Int),
       (0 : Int))).fst ==
       (m.getD
       ((0 : Nat) +
       Int.toNat (y.getD ((0 : Nat) + k.toNat) (0 : Int)))
       ((0 : Int), (0 : Int), (0 : Int), (0 : Int),
       (0 : Int), (0 : Int), (0 : Int), (0 : Int),
       (0 : Int))).fst &&
       ((l.getD
       ((0 : Nat) +
       Int.toNat
       (x.getD ((0 : Nat) + k.toNat) (0 : Int)))
       ((0 : Int), (0 : Int), (0 : Int), (0 : Int),
       (0 : Int), (0 : Int), (0 : Int), (0 : Int),
       (0 : Int))).snd.fst ==
       (m.getD
       ((0 : Nat) +
       Int.toNat
       (y.getD ((0 : Nat) + k.toNat) (0 : Int)))
       ((0 : Int), (0 : Int), (0 : Int), (0 : Int),
       (0 : Int), (0 : Int), (0 : Int), (0 : Int),
       (0 : Int))).snd.fst &&
       ((l.getD
       ((0 : Nat) +
       Int.toNat
       (x.getD ((0 : Nat) + k.toNat) (0 : Int)))
       ((0 : Int), (0 : Int), (0 : Int), (0 : Int),
       (0 : Int), (0 : Int), (0 : Int), (0 : Int),
       (0 : Int))).snd.snd.fst ==
       (m.getD
       ((0 : Nat) +
       Int.toNat
       (y.getD ((0 : Nat) + k.toNat) (0 : Int)))
       ((0 : Int), (0 : Int), (0 : Int), (0 : Int),
       (0 : Int), (0 : Int), (0 : Int), (0 : Int),
       (0 : Int))).snd.snd.fst &&
       ((l.getD
       ((0 : Nat) +
       Int.toNat
       (x.getD ((0 : Nat) + k.toNat)
       (0 : Int)))
       ((0 : Int), (0 : Int), (0 : Int),
       (0 : Int), (0 : Int), (0 : Int),
       (0 : Int), (0 : Int),
       (0 : Int))).snd.snd.snd.fst ==
       (m.getD
       ((0 : Nat) +
       Int.toNat
       (y.getD ((0 : Nat) + k.toNat)
       (0 : Int)))
       ((0 : Int), (0 : Int), (0 : Int),
       (0 : Int), (0 : Int), (0 : Int),
       (0 : Int), (0 : Int),
       (0 : Int))).snd.snd.snd.fst &&
       ((l.getD
       ((0 : Nat) +
       Int.toNat
       (x.getD ((0 : Nat) + k.toNat)
       (0 : Int)))
       ((0 : Int), (0 : Int), (0 : Int),
       (0 : Int), (0 : Int), (0 : Int),
       (0 : Int), (0 : Int),
       (0 : Int))).snd.snd.snd.snd.fst ==
       (m.getD
       ((0 : Nat) +
       Int.toNat
       (y.getD ((0 : Nat) + k.toNat)
       (0 : Int)))
       ((0 : Int), (0 : Int), (0 : Int),
       (0 : Int), (0 : Int), (0 : Int),
       (0 : Int), (0 : Int),
       (0 : Int))).snd.snd.snd.snd.fst &&
       ((l.getD
       ((0 : Nat) +
       Int.toNat
       (x.getD ((0 : Nat) + k.toNat)
       (0 : Int)))
       ((0 : Int), (0 : Int), (0 : Int),
       (0 : Int), (0 : Int), (0 : Int),
       (0 : Int), (0 : Int),
       (0 :
       Int))).snd.snd.snd.snd.snd.fst ==
       (m.getD
       ((0 : Nat) +
       Int.toNat
       (y.getD ((0 : Nat) + k.toNat)
       (0 : Int)))
       ((0 : Int), (0 : Int), (0 : Int),
       (0 : Int), (0 : Int), (0 : Int),
       (0 : Int), (0 : Int),
       (0 :
       Int))).snd.snd.snd.snd.snd.fst &&
       ((l.getD
       ((0 : Nat) +
       Int.toNat
       (x.getD
       ((0 : Nat) + k.toNat)
       (0 : Int)))
       ((0 : Int), (0 : Int),
       (0 : Int), (0 : Int),
       (0 : Int), (0 : Int),
       (0 : Int), (0 : Int),
       (0 :
       Int))).snd.snd.snd.snd.snd.snd.fst ==
       (m.getD
       ((0 : Nat) +
       Int.toNat
       (y.getD
       ((0 : Nat) + k.toNat)
       (0 : Int)))
       ((0 : Int), (0 : Int),
       (0 : Int), (0 : Int),
       (0 : Int), (0 : Int),
       (0 : Int), (0 : Int),
       (0 :
       Int))).snd.snd.snd.snd.snd.snd.fst &&
       ((l.getD
       ((0 : Nat) +
       Int.toNat
       (x.getD
       ((0 : Nat) +
       k.toNat)
       (0 : Int)))
       ((0 : Int), (0 : Int),
       (0 : Int), (0 : Int),
       (0 : Int), (0 : Int),
       (0 : Int), (0 : Int),
       (0 :
       Int))).snd.snd.snd.snd.snd.snd.snd.fst ==
       (m.getD
       ((0 : Nat) +
       Int.toNat
       (y.getD
       ((0 : Nat) +
       k.toNat)
       (0 : Int)))
       ((0 : Int), (0 : Int),
       (0 : Int), (0 : Int),
       (0 : Int), (0 : Int),
       (0 : Int), (0 : Int),
       (0 :
       Int))).snd.snd.snd.snd.snd.snd.snd.fst &&
       ((l.getD
       ((0 : Nat) +
       Int.toNat
       (x.getD
       ((0 : Nat) +
       k.toNat)
       (0 : Int)))
       ((0 : Int), (0 : Int),
       (0 : Int), (0 : Int),
       (0 : Int), (0 : Int),
       (0 : Int), (0 : Int),
       (0 :
       Int))).snd.snd.snd.snd.snd.snd.snd.snd ==
       (m.getD
       ((0 : Nat) +
       Int.toNat
       (y.getD
       ((0 : Nat) +
       k.toNat)
       (0 : Int)))
       ((0 : Int), (0 : Int),
       (0 : Int), (0 : Int),
       (0 : Int), (0 : Int),
       (0 : Int), (0 : Int),
       (0 :
       Int))).snd.snd.snd.snd.snd.snd.snd.snd &&
       true))))))))),
       PUnit.unit)
       else none
       else none
       else none
       else none
       else none
       else none
       else none
       else none
       else none
       else none
       else none
       else none
       else none
       else none
       else none
       else none
       else none
       else none
      else none
    else none
theorem r11e (x9 : F9.FT) (x12 : F12.FT) (x7 : F7.FT) (x13 : F13.FT) (kd : (List (Int × Int × Int × Int × Int × Int × Int × Int × Int)) × (List (Int × Int × Int × Int × Int × Int × Int × Int × Int)) × List (Int) × List (Int) × List (Bool) × Int) (d : Unit) : unitF (tabC Try.prog (tab x9 x12 x7 x13) (pls x9 x12 x7 x13) 100 10) 100 .none (u11 fun _ _ => none) (codeAt [1, 1, 1, 1, 1, 1, 1, 1, 1, 1, 0, 1, 0, 0, 1, 1, 0, 0, 1, 0, 0] (bodyOf Try.prog 5)) kd d = r11P x9 x12 x7 x13 kd d := by kernel_rfl
noncomputable def r11 : G11 := r11P F9.f F12.f F7.f F13.f
noncomputable def l11 : G11 := r11
theorem ok11 : UnOk Try.prog (u11 l11) (codeAt [1, 1, 1, 1, 1, 1, 1, 1, 1, 1, 0, 1, 0, 0, 1, 1, 0, 0, 1, 0, 0] (bodyOf Try.prog 5)) :=
  blockT (p := .none) (fuel := 100) (depth := 10) mixed tabS plsP trivial (fun kd d => Eq.trans (by kernel_rfl) ( r11e F9.f F12.f F7.f F13.f kd d))
def r12P (x9 : F9.FT) (x12 : F12.FT) (x7 : F7.FT) (x13 : F13.FT) : G12 := fun (x, k) seen =>
    bif decide ((0 : Int) ≤ k ∧ k < (↑x.length : Int) ∧ (0 : Nat) < x.length) then
      bif decide ((0 : Nat) + k.toNat < x.length) then
       bif
       decide
       ((0 : Int) ≤ x.getD ((0 : Nat) + k.toNat) (0 : Int) ∧
       x.getD ((0 : Nat) + k.toNat) (0 : Int) < (↑seen.length : Int) ∧ (0 : Nat) < seen.length) then
       bif decide ((0 : Nat) + Int.toNat (x.getD ((0 : Nat) + k.toNat) (0 : Int)) < seen.length) then
       bif
       decide
       ((0 : Nat) + seen.length ≤
       (seen.set ((0 : Nat) + Int.toNat (x.getD ((0 : Nat) + k.toNat) (0 : Int))) true).length) &&
       true then
       some
       (List.take seen.length
       (List.drop (0 : Nat)
       (seen.set ((0 : Nat) + Int.toNat (x.getD ((0 : Nat) + k.toNat) (0 : Int))) true)),
       PUnit.unit)
       else none
       else none
       else none
      else none
    else none
theorem r12e (x9 : F9.FT) (x12 : F12.FT) (x7 : F7.FT) (x13 : F13.FT) (kd : List (Int) × Int) (d : List (Bool)) : unitF (tabC Try.prog (tab x9 x12 x7 x13) (pls x9 x12 x7 x13) 100 10) 100 .none (u12 fun _ _ => none) (codeAt [1, 1, 1, 1, 1, 1, 1, 1, 1, 1, 0, 1, 0, 0, 1, 1, 0, 0, 1, 1] (bodyOf Try.prog 5)) kd d = r12P x9 x12 x7 x13 kd d := by kernel_rfl
noncomputable def r12 : G12 := r12P F9.f F12.f F7.f F13.f
noncomputable def l12 : G12 := r12
theorem ok12 : UnOk Try.prog (u12 l12) (codeAt [1, 1, 1, 1, 1, 1, 1, 1, 1, 1, 0, 1, 0, 0, 1, 1, 0, 0, 1, 1] (bodyOf Try.prog 5)) :=
  blockT (p := .none) (fuel := 100) (depth := 10) mixed tabS plsP trivial (fun kd d => Eq.trans (by kernel_rfl) ( r12e F9.f F12.f F7.f F13.f kd d))
def r13P (x9 : F9.FT) (x12 : F12.FT) (x7 : F7.FT) (x13 : F13.FT) (l11 : G11) (l12 : G12) : ((List (Int × Int × Int × Int × Int × Int × Int × Int × Int)) × (List (Int × Int × Int × Int × Int × Int × Int × Int × Int)) × List (Int) × List (Int) × Int) → (List (Bool) × Int) → Option ((List (Bool) × Int) ⊕ ((Int × Bool) × Unit)) := fun (l, m, x, y, t123) (seen, t124) =>
    bif decide (t124 < t123) then
      bif decide ((0 : Nat) + l.length ≤ l.length) && true then
       bif decide ((0 : Nat) + m.length ≤ m.length) && true then
       bif decide ((0 : Nat) + x.length ≤ x.length) && true then
       bif decide ((0 : Nat) + y.length ≤ y.length) && true then
       bif decide ((0 : Nat) + seen.length ≤ seen.length) && true then
       (l11
       (List.take l.length l, List.take m.length m, List.take x.length x, List.take y.length y,
       List.take seen.length seen, t124)
       PUnit.unit).bind
       fun r0 =>
       bif r0.fst then some (Sum.inr (((1 : Int), false), PUnit.unit))
       else
       bif decide ((0 : Nat) + x.length ≤ x.length) && true then
       bif decide ((0 : Nat) + seen.length ≤ seen.length) && true then
       (l12 (List.take x.length x, t124) (List.take seen.length seen)).bind fun r1 =>
       bif decide ((0 : Nat) + List.length r1.fst ≤ List.length r1.fst) && true then
       some
       (Sum.inl
       (List.take (List.length r1.fst) (List.drop (0 : Nat) r1.fst),
       IntKind.i64.wrap (t124 + (1 : Int))))
       else none
       else none
       else none
       else none
       else none
       else none
       else none
      else none
    else some (Sum.inr (((0 : Int), false), PUnit.unit))
theorem r13e (x9 : F9.FT) (x12 : F12.FT) (x7 : F7.FT) (x13 : F13.FT) (l11 : G11) (l12 : G12) (kd : (List (Int × Int × Int × Int × Int × Int × Int × Int × Int)) × (List (Int × Int × Int × Int × Int × Int × Int × Int × Int)) × List (Int) × List (Int) × Int) (d : List (Bool) × Int) : roundF (tabC Try.prog (tab x9 x12 x7 x13) (pls x9 x12 x7 x13) 100 10) 100 (.node .none (.node .none (.node (.node (.node .none (.node (.node (.unit (u11 l11)) .none) (.unit (u12 l12)))) .none) .none))) (u13 fun _ _ => none) (codeAt [1, 1, 1, 1, 1, 1, 1, 1, 1, 1, 0, 1, 0, 0] (bodyOf Try.prog 5)) kd d = r13P x9 x12 x7 x13 l11 l12 kd d := by kernel_rfl
noncomputable def r13 : ((List (Int × Int × Int × Int × Int × Int × Int × Int × Int)) × (List (Int × Int × Int × Int × Int × Int × Int × Int × Int)) × List (Int) × List (Int) × Int) → (List (Bool) × Int) → Option ((List (Bool) × Int) ⊕ ((Int × Bool) × Unit)) := r13P F9.f F12.f F7.f F13.f l11 l12
noncomputable def l13 : G13 := fun kd d => iterO (r13 kd) d
theorem ok13 : UnOk Try.prog (u13 l13) (codeAt [1, 1, 1, 1, 1, 1, 1, 1, 1, 1, 0, 1, 0] (bodyOf Try.prog 5)) :=
  loopT (p := (.node .none (.node .none (.node (.node (.node .none (.node (.node (.unit (u11 l11)) .none) (.unit (u12 l12)))) .none) .none)))) (c := codeAt [1, 1, 1, 1, 1, 1, 1, 1, 1, 1, 0, 1, 0, 0] (bodyOf Try.prog 5)) (fuel := 100) (depth := 10) mixed tabS plsP (by kernel_rfl) (planOk_of (.node .none (.node .none (.node (.node (.node .none (.node (.node (.unit (u11 l11)) .none) (.unit (u12 l12)))) .none) .none))) _ [([1, 1, 0, 0, 1, 0, 0], u11 l11), ([1, 1, 0, 0, 1, 1], u12 l12)] rfl ⟨ok11, ok12, trivial⟩) (by kernel_rfl) (fun kd d => r13e F9.f F12.f F7.f F13.f l11 l12 kd d) rfl
def r14P (x9 : F9.FT) (x12 : F12.FT) (x7 : F7.FT) (x13 : F13.FT) : G14 := fun (a, x) () =>
    bif decide ((0 : Int) ≤ (0 : Int) ∧ (0 : Int) < (↑x.length : Int) ∧ (0 : Nat) < x.length) then
      bif decide ((0 : Nat) < x.length) then
       bif x.getD (0 : Nat) (0 : Int) == a then some (true, PUnit.unit) else some (false, PUnit.unit)
      else none
    else none
theorem r14e (x9 : F9.FT) (x12 : F12.FT) (x7 : F7.FT) (x13 : F13.FT) (kd : Int × List (Int)) (d : Unit) : unitF (tabC Try.prog (tab x9 x12 x7 x13) (pls x9 x12 x7 x13) 100 10) 100 .none (u14 fun _ _ => none) (codeAt [1, 1, 1, 1, 1, 1, 1, 1, 1, 1, 1, 0] (bodyOf Try.prog 5)) kd d = r14P x9 x12 x7 x13 kd d := by kernel_rfl
noncomputable def r14 : G14 := r14P F9.f F12.f F7.f F13.f
noncomputable def l14 : G14 := r14
theorem ok14 : UnOk Try.prog (u14 l14) (codeAt [1, 1, 1, 1, 1, 1, 1, 1, 1, 1, 1, 0] (bodyOf Try.prog 5)) :=
  blockT (p := .none) (fuel := 100) (depth := 10) mixed tabS plsP trivial (fun kd d => Eq.trans (by kernel_rfl) ( r14e F9.f F12.f F7.f F13.f kd d))
def fP (x9 : F9.FT) (x12 : F12.FT) (x7 : F7.FT) (x13 : F13.FT) (l1 : G1) (l5 : G5) (l6 : G6) (l7 : G7) (l8 : G8) (l9 : G9) (l10 : G10) (l13 : G13) (l14 : G14) : FT := fun (l, swaps) =>
    bif decide ((0 : Nat) + l.length ≤ l.length) && true then
      (x9 (List.take l.length l)).bind fun r0 =>
       bif decide ((0 : Nat) + List.length r0.fst ≤ List.length r0.fst) && true then
       (l1 (List.take (List.length r0.fst) (List.drop (0 : Nat) r0.fst)) PUnit.unit).bind fun r1 =>
       bif decide ((0 : Nat) + swaps.length ≤ swaps.length) && true then
       bif decide ((0 : Nat) + List.length r1.fst ≤ List.length r1.fst) && true then
       (l5 (List.take swaps.length swaps, (↑swaps.length : Int))
       (List.take (List.length r1.fst) (List.drop (0 : Nat) r1.fst), (0 : Int))).bind
       fun r2 =>
       bif decide ((0 : Nat) + List.length r0.fst ≤ List.length r0.fst) && true then
       bif decide ((0 : Nat) + List.length r2.fst ≤ List.length r2.fst) && true then
       (l6 (List.take (List.length r0.fst) (List.drop (0 : Nat) r0.fst))
       (List.take (List.length r2.fst) (List.drop (0 : Nat) r2.fst))).bind
       fun r3 =>
       bif (↑(List.length r0.fst) : Int) == (0 : Int) then
       bif r3.fst.snd.fst == (-1 : Int) then
       bif r3.fst.snd.snd == (-1 : Int) then some (true, PUnit.unit) else some (false, PUnit.unit)
       else some (false, PUnit.unit)
       else
       bif decide ((0 : Nat) + List.length r0.fst ≤ List.length r0.fst) && true then
       bif decide ((0 : Nat) + r3.fst.fst.length ≤ r3.fst.fst.length) && true then
       (l7
       (List.take (List.length r0.fst) (List.drop (0 : Nat) r0.fst),
       List.take r3.fst.fst.length (List.drop (0 : Nat) r3.fst.fst), r3.fst.snd.fst,
       r3.fst.snd.snd)
       PUnit.unit).bind
       fun r4 =>
       bif r4.fst then some (false, PUnit.unit)
       else
       bif decide ((0 : Nat) + List.length r0.fst ≤ List.length r0.fst) && true then
       bif decide ((0 : Nat) + r3.fst.fst.length ≤ r3.fst.fst.length) && true then
       (l8 (List.take (List.length r0.fst) (List.drop (0 : Nat) r0.fst))
       (List.take r3.fst.fst.length (List.drop (0 : Nat) r3.fst.fst))).bind
       fun r5 =>
       bif decide ((0 : Nat) + List.length r0.fst ≤ List.length r0.fst) && true then
       bif
       decide ((0 : Nat) + r5.fst.snd.fst.length ≤ r5.fst.snd.fst.length) &&
       true then
       bif
       decide
       ((0 : Nat) + List.length r5.fst.snd.snd ≤
       List.length r5.fst.snd.snd) &&
       true then
       (l9
       (List.take (List.length r0.fst) (List.drop (0 : Nat) r0.fst),
       List.take r5.fst.snd.fst.length
       (List.drop (0 : Nat) r5.fst.snd.fst),
       List.take (List.length r5.fst.snd.snd)
       (List.drop (0 : Nat) r5.fst.snd.snd))
       PUnit.unit).bind
       fun r6 =>
       bif r6.fst then some (false, PUnit.unit)
       else
       bif
       decide ((0 : Nat) + List.length r0.fst ≤ List.length r0.fst) &&
       true then
       (l10 (List.take (List.length r0.fst) (List.drop (0 : Nat) r0.fst))
       PUnit.unit).bind
       fun r7 =>
       bif
       decide ((0 : Nat) + List.length r0.fst ≤ List.length r0.fst) &&
       true then
       bif
       decide ((0 : Nat) + r5.fst.fst.length ≤ r5.fst.fst.length) &&
       true then
       bif
       decide
       ((0 : Nat) + r5.fst.snd.fst.length ≤
       r5.fst.snd.fst.length) &&
       true then
       bif
       decide
       ((0 : Nat) + List.length r5.fst.snd.snd ≤
       List.length r5.fst.snd.snd) &&
       true then
       bif
       decide
       ((0 : Nat) + List.length r7.fst ≤
       List.length r7.fst) &&
       true then
       (l13
       (List.take (List.length r0.fst)
       (List.drop (0 : Nat) r0.fst),
       List.take r5.fst.fst.length
       (List.drop (0 : Nat) r5.fst.fst),
       List.take r5.fst.snd.fst.length
       (List.drop (0 : Nat) r5.fst.snd.fst),
       List.take (List.length r5.fst.snd.snd)
       (List.drop (0 : Nat) r5.fst.snd.snd),
       (↑r5.fst.snd.fst.length : Int))
       (List.take (List.length r7.fst)
       (List.drop (0 : Nat) r7.fst),
       (0 : Int))).bind
       fun r8 =>
       bif decide (r8.fst.fst = (0 : Int)) then
       bif
       decide
       ((0 : Nat) + r5.fst.snd.fst.length ≤
       r5.fst.snd.fst.length) &&
       true then
       (l14
       (r3.fst.snd.fst,
       List.take r5.fst.snd.fst.length
       (List.drop (0 : Nat) r5.fst.snd.fst))
       PUnit.unit).bind
       fun r9 => some (r9.fst, PUnit.unit)
       else none
       else
       bif decide (r8.fst.fst = (1 : Int)) then
       some (r8.fst.snd, PUnit.unit)
       else none
       else none
       else none
       else none
       else none
       else none
       else none
       else none
       else none
       else none
       else none
       else none
       else none
       else none
       else none
       else none
       else none
       else none
       else none
    else none
theorem fe (x9 : F9.FT) (x12 : F12.FT) (x7 : F7.FT) (x13 : F13.FT) (l1 : G1) (l5 : G5) (l6 : G6) (l7 : G7) (l8 : G8) (l9 : G9) (l10 : G10) (l13 : G13) (l14 : G14) (d : (List (Int × Int × Int × Int × Int × Int × Int × Int × Int)) × List (Int)) : bodyF (tabC Try.prog (tab x9 x12 x7 x13) ((5, (.node .none (.node .none (.node (.unit (u1 l1)) (.node (.node .none (.node (.unit (u5 l5)) .none)) (.node (.unit (u6 l6)) (.node .none (.node (.node (.unit (u7 l7)) .none) (.node (.unit (u8 l8)) (.node (.node (.unit (u9 l9)) .none) (.node (.unit (u10 l10)) (.node (.node .none (.node (.unit (u13 l13)) .none)) (.node (.unit (u14 l14)) .none))))))))))))) :: pls x9 x12 x7 x13) 100 10) 100 5 i o d = fP x9 x12 x7 x13 l1 l5 l6 l7 l8 l9 l10 l13 l14 d := by kernel_rfl
noncomputable def f : FT := fP F9.f F12.f F7.f F13.f l1 l5 l6 l7 l8 l9 l10 l13 l14
def plan (l1 : G1) (l5 : G5) (l6 : G6) (l7 : G7) (l8 : G8) (l9 : G9) (l10 : G10) (l13 : G13) (l14 : G14) : Plan := (.node .none (.node .none (.node (.unit (u1 l1)) (.node (.node .none (.node (.unit (u5 l5)) .none)) (.node (.unit (u6 l6)) (.node .none (.node (.node (.unit (u7 l7)) .none) (.node (.unit (u8 l8)) (.node (.node (.unit (u9 l9)) .none) (.node (.unit (u10 l10)) (.node (.node .none (.node (.unit (u13 l13)) .none)) (.node (.unit (u14 l14)) .none))))))))))))
theorem planOk : PlanOk Try.prog (plan l1 l5 l6 l7 l8 l9 l10 l13 l14) (bodyOf Try.prog 5) := (planOk_of (plan l1 l5 l6 l7 l8 l9 l10 l13 l14) _ [([1, 1, 0], u1 l1), ([1, 1, 1, 0, 1, 0], u5 l5), ([1, 1, 1, 1, 0], u6 l6), ([1, 1, 1, 1, 1, 1, 0, 0], u7 l7), ([1, 1, 1, 1, 1, 1, 1, 0], u8 l8), ([1, 1, 1, 1, 1, 1, 1, 1, 0, 0], u9 l9), ([1, 1, 1, 1, 1, 1, 1, 1, 1, 0], u10 l10), ([1, 1, 1, 1, 1, 1, 1, 1, 1, 1, 0, 1, 0], u13 l13), ([1, 1, 1, 1, 1, 1, 1, 1, 1, 1, 1, 0], u14 l14)] rfl ⟨ok1, ok5, ok6, ok7, ok8, ok9, ok10, ok13, ok14, trivial⟩)
theorem h1 (d : (List (Int × Int × Int × Int × Int × Int × Int × Int × Int)) × List (Int)) : bodyF (tabC Try.prog (tab F9.f F12.f F7.f F13.f) ((5, plan l1 l5 l6 l7 l8 l9 l10 l13 l14) :: pls F9.f F12.f F7.f F13.f) 100 10) 100 5 i o d = fP F9.f F12.f F7.f F13.f l1 l5 l6 l7 l8 l9 l10 l13 l14 d := by
  generalize F9.f = y0
  generalize F12.f = y1
  generalize F7.f = y2
  generalize F13.f = y3
  generalize l1 = y4
  generalize l5 = y5
  generalize l6 = y6
  generalize l7 = y7
  generalize l8 = y8
  generalize l9 = y9
  generalize l10 = y10
  generalize l13 = y11
  generalize l14 = y12
  exact fe y0 y1 y2 y3 y4 y5 y6 y7 y8 y9 y10 y11 y12 d
theorem h2 (d : (List (Int × Int × Int × Int × Int × Int × Int × Int × Int)) × List (Int)) : bodyF (tabC Try.prog (tab F9.f F12.f F7.f F13.f) ((5, plan l1 l5 l6 l7 l8 l9 l10 l13 l14) :: pls F9.f F12.f F7.f F13.f) 100 10) 100 5 i o d = f d := by rw [show f d = fP F9.f F12.f F7.f F13.f l1 l5 l6 l7 l8 l9 l10 l13 l14 d by unfold f; rfl]; exact h1 d
theorem funcT' {P : Program} (hm : P.follows .mixedOrders = true) {K : List (FuncId × Sx.Spec)} {pl : List (FuncId × Plan)} (hS : AllS P K) (hP : AllP P pl) {i o : Sh} {F : Den i → Option (Den o × Den (posts i))} (hF : ∀ d, bodyF (tabC P K pl 100 10) 100 5 i o d = F d) : MeetsF P 5 ⟨i, o, F⟩ := funcT hm hS hP (c := ⟨i, o, F⟩) hF
theorem meets : MeetsF Try.prog 5 ⟨i, o, f⟩ := by
  have h : ∀ d : Den i, bodyF (tabC Try.prog (tab F9.f F12.f F7.f F13.f) ((5, plan l1 l5 l6 l7 l8 l9 l10 l13 l14) :: pls F9.f F12.f F7.f F13.f) 100 10) 100 5 i o d = f d := h2
  exact funcT' (P := Try.prog) (K := tab F9.f F12.f F7.f F13.f) (pl := (5, plan l1 l5 l6 l7 l8 l9 l10 l13 l14) :: pls F9.f F12.f F7.f F13.f) (i := i) (o := o) (F := f) mixed tabS ⟨planOk, plsP⟩ h
theorem spec : SpecOk Try.prog (fun _ => none) 5 (specF ⟨i, o, f⟩) := specF_ok (by kernel_rfl) meets
end Go.Proofs.Ytaniibilgdhdiaa.F5
