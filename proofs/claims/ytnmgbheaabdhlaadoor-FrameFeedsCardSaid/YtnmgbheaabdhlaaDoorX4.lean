/- What comes of function 18 of this program, bytes.Clone, as the engine gives it. -/
import Derived.Test.YtnmgbheaabdhlaaDoorChecked
import Derived.Test.YtnmgbheaabdhlaaDoorZO
import Derived.Test.YtnmgbheaabdhlaaDoorX1
import Derived.Test.YtnmgbheaabdhlaaDoorX3
import Derived.Test.YtnmgbheaabdhlaaDoorX2
namespace Go.Proofs.YtnmgbheaabdhlaaDoor.F18
open Go Go.Proofs Go.Proofs.YtnmgbheaabdhlaaDoor Go.RowKit Go.Proofs.YtnmgbheaabdhlaaDoor.Sx
set_option linter.unusedVariables false
set_option maxRecDepth 100000
def tab : List (FuncId × Sx.Spec) := []
def pls : List (FuncId × Plan) := []
@[reducible] def i : Sh := .sl false 5 (.sc (.int .u8) .nil) .nil
@[reducible] def o : Sh := .sl true 5 (.sc (.int .u8) .nil) .nil
abbrev FT := List (Int) → Option (List (Int) × Unit)
theorem tabS : AllS Tryd.prog (tab) := trivial
theorem plsP : AllP Tryd.prog (pls) := trivial
theorem mixed : Tryd.prog.follows .mixedOrders = true := by kernel_rfl
def fP : FT := fun b =>
    bif decide (0 < b.length) then
      bif decide (0 + b.length ≤ b.length) then
       bif decide (0 + (List.take b.length b).length ≤ 1073741824) then
       bif decide (0 + (0 + (List.take b.length b).length) ≤ ([] ++ List.take b.length b).length) && true then
       some (List.take (0 + (List.take b.length b).length) (List.drop 0 ([] ++ List.take b.length b)), PUnit.unit)
       else none
       else none
      else none
    else none
theorem fe (d : List (Int)) : bodyF (tabC Tryd.prog (tab) ((18, .none) :: pls) 100 12) 100 18 i o d = fP d := by kernel_rfl
noncomputable def f : FT := fun d => if 0 < d.length then fP d else some ([], ())
def plan : Plan := .none
theorem planOk : PlanOk Tryd.prog (plan) (bodyOf Tryd.prog 18) := (planOk_of (plan) _ [] (by kernel_rfl) trivial)
theorem meets : MeetsF Tryd.prog 18 ⟨i, o, f⟩ :=
  sliceT (fuel := 100) (depth := 12) (pl := (18, plan) :: pls) (z := (show Den o from [])) mixed tabS ⟨planOk, plsP⟩ (fun (d : List (Int)) hd => (fe  d).trans (show fP d = f d from (if_pos (c := 0 < d.length) hd).symm)) (fun (d : List (Int)) h => (show f d = _ from if_neg (c := 0 < d.length) (by have h : d.length = 0 := h; omega))) (fun c => by kernel_rfl) (fun a c => by kernel_rfl)
theorem spec : SpecOk Tryd.prog (fun _ => none) 18 (specF ⟨i, o, f⟩) := specF_ok (by kernel_rfl) meets
end Go.Proofs.YtnmgbheaabdhlaaDoor.F18

/- What comes of function 5 of this program, consulate.consulatelaw03.FrameFeeds, as the engine gives it. -/
namespace Go.Proofs.YtnmgbheaabdhlaaDoor.F5
open Go Go.Proofs Go.Proofs.YtnmgbheaabdhlaaDoor Go.RowKit Go.Proofs.YtnmgbheaabdhlaaDoor.Sx
set_option linter.unusedVariables false
set_option maxRecDepth 100000
def tab (x9 : F9.FT) (x17 : F17.FT) (x14 : F14.FT) (x18 : F18.FT) (x10 : F10.FT) (x19 : F19.FT) (x11 : F11.FT) (x20 : F20.FT) (x13 : F13.FT) : List (FuncId × Sx.Spec) := [(9, specF ⟨F9.i, F9.o, x9⟩), (17, specF ⟨F17.i, F17.o, x17⟩), (14, specF ⟨F14.i, F14.o, x14⟩), (18, specF ⟨F18.i, F18.o, x18⟩), (10, specF ⟨F10.i, F10.o, x10⟩), (19, specF ⟨F19.i, F19.o, x19⟩), (11, specF ⟨F11.i, F11.o, x11⟩), (20, specF ⟨F20.i, F20.o, x20⟩), (13, specF ⟨F13.i, F13.o, x13⟩), (15, pureS saysS)]
def pls (x9 : F9.FT) (x17 : F17.FT) (x14 : F14.FT) (x18 : F18.FT) (x10 : F10.FT) (x19 : F19.FT) (x11 : F11.FT) (x20 : F20.FT) (x13 : F13.FT) : List (FuncId × Plan) := []
@[reducible] def k1 : Sh := .nil
@[reducible] def i1 : Sh := .nil
@[reducible] def o1 : Sh := .pt true 61 (.sl true 5 (.sc (.int .u8) .nil) (.sc (.int .u8) (.sc (.int .u8) (.sl true 5 (.sc (.int .u8) .nil) (.sc .bool .nil))))) .nil
abbrev G1 := Unit → Unit → Option (((List (Int) × Int × Int × List (Int) × Bool)) × Unit)
def u1 (F : G1) : Un := ⟨108, [], k1, [], i1, [3], o1, [0], [(.normal, [true])], F⟩
@[reducible] def k2 : Sh := .nil
@[reducible] def i2 : Sh := .sl false 5 (.sc (.int .u8) .nil) .nil
@[reducible] def o2 : Sh := .sl false 5 (.sc (.int .u8) .nil) .nil
abbrev G2 := Unit → List (Int) → Option (List (Int) × Unit)
def u2 (F : G2) : Un := ⟨108, [], k2, [9], i2, [9], o2, [0, 3, 4, 5, 6, 7, 8, 15, 16, 17], [(.normal, [true])], F⟩
@[reducible] def k3 : Sh := .nil
@[reducible] def i3 : Sh := .pt true 61 (.sl true 5 (.sc (.int .u8) .nil) (.sc (.int .u8) (.sc (.int .u8) (.sl true 5 (.sc (.int .u8) .nil) (.sc .bool .nil))))) .nil
@[reducible] def o3 : Sh := .po true 61 (.sl true 5 (.sc (.int .u8) .nil) (.sc (.int .u8) (.sc (.int .u8) (.sl true 5 (.sc (.int .u8) .nil) (.sc .bool .nil))))) .nil
abbrev G3 := Unit → ((List (Int) × Int × Int × List (Int) × Bool)) → Option (((Option (List (Int) × Int × Int × List (Int) × Bool))) × ((List (Int) × Int × Int × List (Int) × Bool)))
def u3 (F : G3) : Un := ⟨108, [], k3, [3], i3, [6], o3, [0, 3, 4, 5, 9, 15, 16, 17], [(.normal, [true])], F⟩
@[reducible] def k4 : Sh := .nil
@[reducible] def i4 : Sh := .sl false 5 (.sc (.int .u8) .nil) .nil
@[reducible] def o4 : Sh := .sl false 5 (.sc (.int .u8) .nil) (.sl true 5 (.sc (.int .u8) .nil) .nil)
abbrev G4 := Unit → List (Int) → Option ((List (Int) × List (Int)) × Unit)
def u4 (F : G4) : Un := ⟨108, [], k4, [9], i4, [9, 10], o4, [0, 3, 4, 5, 6, 7, 15, 16, 17], [(.normal, [true, true])], F⟩
@[reducible] def k5 : Sh := .nil
@[reducible] def i5 : Sh := .pt true 61 (.sl true 5 (.sc (.int .u8) .nil) (.sc (.int .u8) (.sc (.int .u8) (.sl true 5 (.sc (.int .u8) .nil) (.sc .bool .nil))))) (.sl true 52 (.sc (.int .u8) (.sl true 5 (.sc (.int .u8) .nil) .nil)) (.sl true 5 (.sc (.int .u8) .nil) .nil))
@[reducible] def o5 : Sh := .sl true 52 (.sc (.int .u8) (.sl true 5 (.sc (.int .u8) .nil) .nil)) (.sl true 5 (.sc (.int .u8) .nil) .nil)
abbrev G5 := Unit → ((List (Int) × Int × Int × List (Int) × Bool) × (List (Int × List (Int))) × List (Int)) → Option (((List (Int × List (Int))) × List (Int)) × ((List (Int) × Int × Int × List (Int) × Bool)))
def u5 (F : G5) : Un := ⟨108, [], k5, [3, 5, 10], i5, [5, 10], o5, [0, 3, 4, 6, 7, 9, 15, 16, 17], [(.normal, [true, true])], F⟩
@[reducible] def k6 : Sh := .sl false 5 (.sc (.int .u8) .nil) .nil
@[reducible] def i6 : Sh := .sl true 5 (.sc (.int .u8) .nil) .nil
@[reducible] def o6 : Sh := .sl true 5 (.sc (.int .u8) .nil) .nil
abbrev G6 := List (Int) → List (Int) → Option (List (Int) × Unit)
def u6 (F : G6) : Un := ⟨108, [9], k6, [4], i6, [4], o6, [0, 3, 5, 6, 7, 9, 10, 15, 16, 17], [(.normal, [true])], F⟩
@[reducible] def k7 : Sh := .sl true 5 (.sc (.int .u8) .nil) .nil
@[reducible] def i7 : Sh := .pt true 61 (.sl true 5 (.sc (.int .u8) .nil) (.sc (.int .u8) (.sc (.int .u8) (.sl true 5 (.sc (.int .u8) .nil) (.sc .bool .nil))))) (.sl true 52 (.sc (.int .u8) (.sl true 5 (.sc (.int .u8) .nil) .nil)) (.sl false 5 (.sc (.int .u8) .nil) (.sl true 5 (.sc (.int .u8) .nil) .nil)))
@[reducible] def o7 : Sh := .sc (.int .i64) (.sc .bool (.sl true 52 (.sc (.int .u8) (.sl true 5 (.sc (.int .u8) .nil) .nil)) .nil))
abbrev G7 := List (Int) → ((List (Int) × Int × Int × List (Int) × Bool) × (List (Int × List (Int))) × List (Int) × List (Int)) → Option ((Int × Bool × (List (Int × List (Int)))) × ((List (Int) × Int × Int × List (Int) × Bool)))
def u7 (F : G7) : Un := ⟨108, [4], k7, [3, 5, 9, 10], i7, [2, 5], o7, [0, 3, 4, 6, 7, 15, 16, 17], [(.normal, [false, true]), (.ret, [true, false])], F⟩
@[reducible] def k8 : Sh := .sl false 22 (.sl false 5 (.sc (.int .u8) .nil) .nil) (.sl false 22 (.sl false 5 (.sc (.int .u8) .nil) .nil) (.sc (.int .i64) .nil))
@[reducible] def i8 : Sh := .pt true 61 (.sl true 5 (.sc (.int .u8) .nil) (.sc (.int .u8) (.sc (.int .u8) (.sl true 5 (.sc (.int .u8) .nil) (.sc .bool .nil))))) (.sl true 5 (.sc (.int .u8) .nil) (.sl true 52 (.sc (.int .u8) (.sl true 5 (.sc (.int .u8) .nil) .nil)) (.po true 61 (.sl true 5 (.sc (.int .u8) .nil) (.sc (.int .u8) (.sc (.int .u8) (.sl true 5 (.sc (.int .u8) .nil) (.sc .bool .nil))))) (.sc (.int .i64) (.sc (.int .i64) .nil)))))
@[reducible] def o8 : Sh := .sc (.int .i64) (.sc .bool (.po true 61 (.sl true 5 (.sc (.int .u8) .nil) (.sc (.int .u8) (.sc (.int .u8) (.sl true 5 (.sc (.int .u8) .nil) (.sc .bool .nil))))) (.sc (.int .i64) .nil)))
abbrev G8 := (List (List (Int)) × List (List (Int)) × Int) → ((List (Int) × Int × Int × List (Int) × Bool) × List (Int) × (List (Int × List (Int))) × (Option (List (Int) × Int × Int × List (Int) × Bool)) × Int × Int) → Option ((Int × Bool × (Option (List (Int) × Int × Int × List (Int) × Bool)) × Int) × ((List (Int) × Int × Int × List (Int) × Bool)))
def u8 (F : G8) : Un := ⟨108, [0, 15, 16], k8, [3, 4, 5, 6, 7, 17], i8, [2, 6, 7], o8, [0, 3, 15, 16], [(.exit 0, [false, true, true]), (.ret, [true, false, false])], F⟩
@[reducible] def k9 : Sh := .sc (.int .i64) .nil
@[reducible] def i9 : Sh := .po true 61 (.sl true 5 (.sc (.int .u8) .nil) (.sc (.int .u8) (.sc (.int .u8) (.sl true 5 (.sc (.int .u8) .nil) (.sc .bool .nil))))) .nil
@[reducible] def o9 : Sh := .sc .bool .nil
abbrev G9 := Int → ((Option (List (Int) × Int × Int × List (Int) × Bool))) → Option (Bool × Unit)
def u9 (F : G9) : Un := ⟨108, [7], k9, [6], i9, [2], o9, [], [(.normal, [true])], F⟩
@[reducible] def i : Sh := .sl false 22 (.sl false 5 (.sc (.int .u8) .nil) .nil) .nil
@[reducible] def o : Sh := .sc .bool .nil
abbrev FT := List (List (Int)) → Option (Bool × Unit)
theorem tabS : AllS Tryd.prog (tab F9.f F17.f F14.f F18.f F10.f F19.f F11.f F20.f F13.f) := ⟨F9.spec, F17.spec, F14.spec, F18.spec, F10.spec, F19.spec, F11.spec, F20.spec, F13.spec, says_ok (by kernel_rfl) KA.tells, trivial⟩
theorem plsP : AllP Tryd.prog (pls F9.f F17.f F14.f F18.f F10.f F19.f F11.f F20.f F13.f) := trivial
theorem mixed : Tryd.prog.follows .mixedOrders = true := by kernel_rfl
def r1P (x9 : F9.FT) (x17 : F17.FT) (x14 : F14.FT) (x18 : F18.FT) (x10 : F10.FT) (x19 : F19.FT) (x11 : F11.FT) (x20 : F20.FT) (x13 : F13.FT) : G1 := fun () () =>
    (x9 PUnit.unit).bind fun r0 =>
      bif Option.isSome r0.fst then some (Option.getD r0.fst ([], (0 : Int), (0 : Int), [], false), PUnit.unit) else none
theorem r1e (x9 : F9.FT) (x17 : F17.FT) (x14 : F14.FT) (x18 : F18.FT) (x10 : F10.FT) (x19 : F19.FT) (x11 : F11.FT) (x20 : F20.FT) (x13 : F13.FT) (kd : Unit) (d : Unit) : unitF (tabC Tryd.prog (tab x9 x17 x14 x18 x10 x19 x11 x20 x13) (pls x9 x17 x14 x18 x10 x19 x11 x20 x13) 100 12) 100 .none (u1 fun _ _ => none) (codeAt [1, 0] (bodyOf Tryd.prog 5)) kd d = r1P x9 x17 x14 x18 x10 x19 x11 x20 x13 kd d := by kernel_rfl
noncomputable def r1 : G1 := r1P F9.f F17.f F14.f F18.f F10.f F19.f F11.f F20.f F13.f
noncomputable def l1 : G1 := r1
theorem ok1 : UnOk Tryd.prog (u1 l1) (codeAt [1, 0] (bodyOf Tryd.prog 5)) :=
  blockT (p := .none) (fuel := 100) (depth := 12) mixed tabS plsP trivial (fun kd d => r1e F9.f F17.f F14.f F18.f F10.f F19.f F11.f F20.f F13.f kd d)
def r2P (x9 : F9.FT) (x17 : F17.FT) (x14 : F14.FT) (x18 : F18.FT) (x10 : F10.FT) (x19 : F19.FT) (x11 : F11.FT) (x20 : F20.FT) (x13 : F13.FT) : G2 := fun () b =>
    bif
       decide
       ((0 : Int) ≤
       (some (if (5000 : Int) < (↑b.length : Int) then (5000 : Int) else (↑b.length : Int))).getD
       (↑b.length : Int) ∧
       (some (if (5000 : Int) < (↑b.length : Int) then (5000 : Int) else (↑b.length : Int))).getD (↑b.length : Int) ≤
       (↑b.length : Int) ∧
       (0 : Nat) + b.length ≤ b.length) then
      bif
       decide
       ((0 : Nat) +
       ((some (if (5000 : Int) < (↑b.length : Int) then (5000 : Int) else (↑b.length : Int))).getD
       (↑b.length : Int)).toNat ≤
       b.length) &&
       true then
       some
       (List.take
       ((some (if (5000 : Int) < (↑b.length : Int) then (5000 : Int) else (↑b.length : Int))).getD
       (↑b.length : Int)).toNat
       b,
       PUnit.unit)
      else none
    else none
theorem r2e (x9 : F9.FT) (x17 : F17.FT) (x14 : F14.FT) (x18 : F18.FT) (x10 : F10.FT) (x19 : F19.FT) (x11 : F11.FT) (x20 : F20.FT) (x13 : F13.FT) (kd : Unit) (d : List (Int)) : unitF (tabC Tryd.prog (tab x9 x17 x14 x18 x10 x19 x11 x20 x13) (pls x9 x17 x14 x18 x10 x19 x11 x20 x13) 100 12) 100 .none (u2 fun _ _ => none) (codeAt [1, 1, 1, 1, 1, 1, 0, 1, 0, 0, 1, 1, 0, 0, 1, 1, 0] (bodyOf Tryd.prog 5)) kd d = r2P x9 x17 x14 x18 x10 x19 x11 x20 x13 kd d := by kernel_rfl
noncomputable def r2 : G2 := r2P F9.f F17.f F14.f F18.f F10.f F19.f F11.f F20.f F13.f
noncomputable def l2 : G2 := r2
theorem ok2 : UnOk Tryd.prog (u2 l2) (codeAt [1, 1, 1, 1, 1, 1, 0, 1, 0, 0, 1, 1, 0, 0, 1, 1, 0] (bodyOf Tryd.prog 5)) :=
  blockT (p := .none) (fuel := 100) (depth := 12) mixed tabS plsP trivial (fun kd d => r2e F9.f F17.f F14.f F18.f F10.f F19.f F11.f F20.f F13.f kd d)
def r3P (x9 : F9.FT) (x17 : F17.FT) (x14 : F14.FT) (x18 : F18.FT) (x10 : F10.FT) (x19 : F19.FT) (x11 : F11.FT) (x20 : F20.FT) (x13 : F13.FT) : G3 := fun () (i0_2, i1_2, i2_2, i3_2, i4_2) =>
    (x17 (i0_2, i1_2, i2_2, i3_2, i4_2)).bind fun r0 =>
      bif Option.isSome r0.fst then some (some (Option.getD r0.fst ([], (0 : Int), (0 : Int), [], false)), r0.snd)
      else some (none, r0.snd)
theorem r3e (x9 : F9.FT) (x17 : F17.FT) (x14 : F14.FT) (x18 : F18.FT) (x10 : F10.FT) (x19 : F19.FT) (x11 : F11.FT) (x20 : F20.FT) (x13 : F13.FT) (kd : Unit) (d : (List (Int) × Int × Int × List (Int) × Bool)) : unitF (tabC Tryd.prog (tab x9 x17 x14 x18 x10 x19 x11 x20 x13) (pls x9 x17 x14 x18 x10 x19 x11 x20 x13) 100 12) 100 .none (u3 fun _ _ => none) (codeAt [1, 1, 1, 1, 1, 1, 0, 1, 0, 0, 1, 1, 0, 0, 1, 1, 1, 0, 1, 0, 0] (bodyOf Tryd.prog 5)) kd d = r3P x9 x17 x14 x18 x10 x19 x11 x20 x13 kd d := by kernel_rfl
noncomputable def r3 : G3 := r3P F9.f F17.f F14.f F18.f F10.f F19.f F11.f F20.f F13.f
noncomputable def l3 : G3 := r3
theorem ok3 : UnOk Tryd.prog (u3 l3) (codeAt [1, 1, 1, 1, 1, 1, 0, 1, 0, 0, 1, 1, 0, 0, 1, 1, 1, 0, 1, 0, 0] (bodyOf Tryd.prog 5)) :=
  blockT (p := .none) (fuel := 100) (depth := 12) mixed tabS plsP trivial (fun kd d => r3e F9.f F17.f F14.f F18.f F10.f F19.f F11.f F20.f F13.f kd d)
def r4P (x9 : F9.FT) (x17 : F17.FT) (x14 : F14.FT) (x18 : F18.FT) (x10 : F10.FT) (x19 : F19.FT) (x11 : F11.FT) (x20 : F20.FT) (x13 : F13.FT) : G4 := fun () b =>
    bif decide ((0 : Nat) + b.length ≤ b.length) && true then
      (x18 (List.take b.length b)).bind fun r0 =>
       bif decide ((0 : Nat) + b.length ≤ b.length) && true then
       bif decide ((0 : Nat) + List.length r0.fst ≤ List.length r0.fst) && true then
       some ((List.take b.length b, List.take (List.length r0.fst) (List.drop (0 : Nat) r0.fst)), PUnit.unit)
       else none
       else none
    else none
theorem r4e (x9 : F9.FT) (x17 : F17.FT) (x14 : F14.FT) (x18 : F18.FT) (x10 : F10.FT) (x19 : F19.FT) (x11 : F11.FT) (x20 : F20.FT) (x13 : F13.FT) (kd : Unit) (d : List (Int)) : unitF (tabC Tryd.prog (tab x9 x17 x14 x18 x10 x19 x11 x20 x13) (pls x9 x17 x14 x18 x10 x19 x11 x20 x13) 100 12) 100 .none (u4 fun _ _ => none) (codeAt [1, 1, 1, 1, 1, 1, 0, 1, 0, 0, 1, 1, 0, 0, 1, 1, 1, 1, 0] (bodyOf Tryd.prog 5)) kd d = r4P x9 x17 x14 x18 x10 x19 x11 x20 x13 kd d := by kernel_rfl
noncomputable def r4 : G4 := r4P F9.f F17.f F14.f F18.f F10.f F19.f F11.f F20.f F13.f
noncomputable def l4 : G4 := r4
theorem ok4 : UnOk Tryd.prog (u4 l4) (codeAt [1, 1, 1, 1, 1, 1, 0, 1, 0, 0, 1, 1, 0, 0, 1, 1, 1, 1, 0] (bodyOf Tryd.prog 5)) :=
  blockT (p := .none) (fuel := 100) (depth := 12) mixed tabS plsP trivial (fun kd d => r4e F9.f F17.f F14.f F18.f F10.f F19.f F11.f F20.f F13.f kd d)
def r5P (x9 : F9.FT) (x17 : F17.FT) (x14 : F14.FT) (x18 : F18.FT) (x10 : F10.FT) (x19 : F19.FT) (x11 : F11.FT) (x20 : F20.FT) (x13 : F13.FT) : G5 := fun () ((i0_2, i1_2, i2_2, i3_2, i4_2), l, own) =>
    bif decide ((0 : Nat) + own.length ≤ own.length) && true then
      (x10 ((i0_2, i1_2, i2_2, i3_2, i4_2), List.take own.length own)).bind fun r0 =>
       bif decide (List.length r0.fst = List.length r0.fst) then
       bif decide (l.length + List.length r0.fst ≤ (1073741824 : Nat)) then
       bif decide ((0 : Nat) + l.length ≤ l.length) then
       bif
       decide ((0 : Nat) + (l.length + List.length r0.fst) ≤ (List.take l.length l ++ r0.fst).length) &&
       true then
       bif decide ((0 : Nat) + own.length ≤ own.length) && true then
       some
       ((List.take (l.length + List.length r0.fst) (List.drop (0 : Nat) (List.take l.length l ++ r0.fst)),
       List.take own.length own),
       r0.snd)
       else none
       else none
       else none
       else none
       else none
    else none
theorem r5e (x9 : F9.FT) (x17 : F17.FT) (x14 : F14.FT) (x18 : F18.FT) (x10 : F10.FT) (x19 : F19.FT) (x11 : F11.FT) (x20 : F20.FT) (x13 : F13.FT) (kd : Unit) (d : (List (Int) × Int × Int × List (Int) × Bool) × (List (Int × List (Int))) × List (Int)) : unitF (tabC Tryd.prog (tab x9 x17 x14 x18 x10 x19 x11 x20 x13) (pls x9 x17 x14 x18 x10 x19 x11 x20 x13) 100 12) 100 .none (u5 fun _ _ => none) (codeAt [1, 1, 1, 1, 1, 1, 0, 1, 0, 0, 1, 1, 0, 0, 1, 1, 1, 1, 1, 0] (bodyOf Tryd.prog 5)) kd d = r5P x9 x17 x14 x18 x10 x19 x11 x20 x13 kd d := by kernel_rfl
noncomputable def r5 : G5 := r5P F9.f F17.f F14.f F18.f F10.f F19.f F11.f F20.f F13.f
noncomputable def l5 : G5 := r5
theorem ok5 : UnOk Tryd.prog (u5 l5) (codeAt [1, 1, 1, 1, 1, 1, 0, 1, 0, 0, 1, 1, 0, 0, 1, 1, 1, 1, 1, 0] (bodyOf Tryd.prog 5)) :=
  blockT (p := .none) (fuel := 100) (depth := 12) mixed tabS plsP trivial (fun kd d => r5e F9.f F17.f F14.f F18.f F10.f F19.f F11.f F20.f F13.f kd d)
def r6P (x9 : F9.FT) (x17 : F17.FT) (x14 : F14.FT) (x18 : F18.FT) (x10 : F10.FT) (x19 : F19.FT) (x11 : F11.FT) (x20 : F20.FT) (x13 : F13.FT) : G6 := fun b all =>
    bif decide ((0 : Nat) + b.length ≤ b.length) then
      bif decide (all.length + (List.take b.length b).length ≤ (1073741824 : Nat)) then
       bif decide ((0 : Nat) + all.length ≤ all.length) then
       bif
       decide
       ((0 : Nat) + (all.length + (List.take b.length b).length) ≤
       (List.take all.length all ++ List.take b.length b).length) &&
       true then
       some
       (List.take (all.length + (List.take b.length b).length)
       (List.drop (0 : Nat) (List.take all.length all ++ List.take b.length b)),
       PUnit.unit)
       else none
       else none
      else none
    else none
theorem r6e (x9 : F9.FT) (x17 : F17.FT) (x14 : F14.FT) (x18 : F18.FT) (x10 : F10.FT) (x19 : F19.FT) (x11 : F11.FT) (x20 : F20.FT) (x13 : F13.FT) (kd : List (Int)) (d : List (Int)) : unitF (tabC Tryd.prog (tab x9 x17 x14 x18 x10 x19 x11 x20 x13) (pls x9 x17 x14 x18 x10 x19 x11 x20 x13) 100 12) 100 .none (u6 fun _ _ => none) (codeAt [1, 1, 1, 1, 1, 1, 0, 1, 0, 0, 1, 1, 0, 0, 1, 1, 1, 1, 1, 1, 0] (bodyOf Tryd.prog 5)) kd d = r6P x9 x17 x14 x18 x10 x19 x11 x20 x13 kd d := by kernel_rfl
noncomputable def r6 : G6 := r6P F9.f F17.f F14.f F18.f F10.f F19.f F11.f F20.f F13.f
noncomputable def l6 : G6 := r6
theorem ok6 : UnOk Tryd.prog (u6 l6) (codeAt [1, 1, 1, 1, 1, 1, 0, 1, 0, 0, 1, 1, 0, 0, 1, 1, 1, 1, 1, 1, 0] (bodyOf Tryd.prog 5)) :=
  blockT (p := .none) (fuel := 100) (depth := 12) mixed tabS plsP trivial (fun kd d => r6e F9.f F17.f F14.f F18.f F10.f F19.f F11.f F20.f F13.f kd d)
def r7P (x9 : F9.FT) (x17 : F17.FT) (x14 : F14.FT) (x18 : F18.FT) (x10 : F10.FT) (x19 : F19.FT) (x11 : F11.FT) (x20 : F20.FT) (x13 : F13.FT) : G7 := fun all ((i0_2, i1_2, i2_2, i3_2, i4_2), l, b, own) =>
    bif decide ((0 : Nat) + all.length ≤ all.length) && true then
      (x19 (List.take all.length all)).bind fun r0 =>
       (x11 (i0_2, i1_2, i2_2, i3_2, i4_2)).bind fun r1 =>
       bif decide ((0 : Nat) + l.length ≤ l.length) && true then
       bif decide ((0 : Nat) + r0.fst.fst.length ≤ r0.fst.fst.length) && true then
       (x20 (List.take l.length l, List.take r0.fst.fst.length (List.drop (0 : Nat) r0.fst.fst))).bind fun r2 =>
       bif !r2.fst then
       bif decide ((0 : Nat) + r1.snd.fst.length ≤ r1.snd.fst.length) && true then
       bif decide ((0 : Nat) + r1.snd.snd.snd.snd.fst.length ≤ r1.snd.snd.snd.snd.fst.length) && true then
       some
       (((1 : Int), false, []), List.take r1.snd.fst.length (List.drop (0 : Nat) r1.snd.fst),
       r1.snd.snd.fst, r1.snd.snd.snd.fst,
       List.take r1.snd.snd.snd.snd.fst.length (List.drop (0 : Nat) r1.snd.snd.snd.snd.fst),
       r1.snd.snd.snd.snd.snd)
       else none
       else none
       else
       bif IntKind.i64.wrap r1.fst.fst.fst != r0.fst.snd.fst then
       bif decide ((0 : Nat) + r1.snd.fst.length ≤ r1.snd.fst.length) && true then
       bif decide ((0 : Nat) + r1.snd.snd.snd.snd.fst.length ≤ r1.snd.snd.snd.snd.fst.length) && true then
       some
       (((1 : Int), false, []), List.take r1.snd.fst.length (List.drop (0 : Nat) r1.snd.fst),
       r1.snd.snd.fst, r1.snd.snd.snd.fst,
       List.take r1.snd.snd.snd.snd.fst.length (List.drop (0 : Nat) r1.snd.snd.snd.snd.fst),
       r1.snd.snd.snd.snd.snd)
       else none
       else none
       else
       bif IntKind.i64.wrap r1.fst.fst.snd != r0.fst.snd.snd.fst then
       bif decide ((0 : Nat) + r1.snd.fst.length ≤ r1.snd.fst.length) && true then
       bif
       decide ((0 : Nat) + r1.snd.snd.snd.snd.fst.length ≤ r1.snd.snd.snd.snd.fst.length) &&
       true then
       some
       (((1 : Int), false, []), List.take r1.snd.fst.length (List.drop (0 : Nat) r1.snd.fst),
       r1.snd.snd.fst, r1.snd.snd.snd.fst,
       List.take r1.snd.snd.snd.snd.fst.length (List.drop (0 : Nat) r1.snd.snd.snd.snd.fst),
       r1.snd.snd.snd.snd.snd)
       else none
       else none
       else
       bif decide ((0 : Nat) + List.length r1.fst.snd ≤ List.length r1.fst.snd) && true then
       bif
       decide ((0 : Nat) + r0.fst.snd.snd.snd.fst.length ≤ r0.fst.snd.snd.snd.fst.length) &&
       true then
       (x13
       (List.take (List.length r1.fst.snd) (List.drop (0 : Nat) r1.fst.snd),
       List.take r0.fst.snd.snd.snd.fst.length
       (List.drop (0 : Nat) r0.fst.snd.snd.snd.fst))).bind
       fun r3 =>
       bif !r3.fst then
       bif decide ((0 : Nat) + r1.snd.fst.length ≤ r1.snd.fst.length) && true then
       bif
       decide ((0 : Nat) + r1.snd.snd.snd.snd.fst.length ≤ r1.snd.snd.snd.snd.fst.length) &&
       true then
       some
       (((1 : Int), false, []), List.take r1.snd.fst.length (List.drop (0 : Nat) r1.snd.fst),
       r1.snd.snd.fst, r1.snd.snd.snd.fst,
       List.take r1.snd.snd.snd.snd.fst.length
       (List.drop (0 : Nat) r1.snd.snd.snd.snd.fst),
       r1.snd.snd.snd.snd.snd)
       else none
       else none
       else
       bif decide ((0 : Nat) + r1.snd.fst.length ≤ r1.snd.fst.length) && true then
       bif
       decide ((0 : Nat) + r1.snd.snd.snd.snd.fst.length ≤ r1.snd.snd.snd.snd.fst.length) &&
       true then
       (x14
       (List.take r1.snd.fst.length (List.drop (0 : Nat) r1.snd.fst), r1.snd.snd.fst,
       r1.snd.snd.snd.fst,
       List.take r1.snd.snd.snd.snd.fst.length
       (List.drop (0 : Nat) r1.snd.snd.snd.snd.fst),
       r1.snd.snd.snd.snd.snd)).bind
       fun r4 =>
       bif r4.fst != r0.fst.snd.snd.snd.snd then some (((1 : Int), false, []), r4.snd)
       else
       bif decide ((0 : Nat) + own.length ≤ own.length) && true then
       bif decide ((0 : Nat) + b.length ≤ b.length) && true then
       (x13 (List.take own.length own, List.take b.length b)).bind fun r5 =>
       bif !r5.fst then some (((1 : Int), false, []), r4.snd)
       else
       bif decide ((0 : Nat) + l.length ≤ l.length) && true then
       some (((0 : Int), false, List.take l.length l), r4.snd)
       else none
       else none
       else none
       else none
       else none
       else none
       else none
       else none
       else none
    else none
theorem r7e (x9 : F9.FT) (x17 : F17.FT) (x14 : F14.FT) (x18 : F18.FT) (x10 : F10.FT) (x19 : F19.FT) (x11 : F11.FT) (x20 : F20.FT) (x13 : F13.FT) (kd : List (Int)) (d : (List (Int) × Int × Int × List (Int) × Bool) × (List (Int × List (Int))) × List (Int) × List (Int)) : unitF (tabC Tryd.prog (tab x9 x17 x14 x18 x10 x19 x11 x20 x13) (pls x9 x17 x14 x18 x10 x19 x11 x20 x13) 100 12) 100 .none (u7 fun _ _ => none) (codeAt [1, 1, 1, 1, 1, 1, 0, 1, 0, 0, 1, 1, 0, 0, 1, 1, 1, 1, 1, 1, 1] (bodyOf Tryd.prog 5)) kd d = r7P x9 x17 x14 x18 x10 x19 x11 x20 x13 kd d := by kernel_rfl
noncomputable def r7 : G7 := r7P F9.f F17.f F14.f F18.f F10.f F19.f F11.f F20.f F13.f
noncomputable def l7 : G7 := r7
theorem ok7 : UnOk Tryd.prog (u7 l7) (codeAt [1, 1, 1, 1, 1, 1, 0, 1, 0, 0, 1, 1, 0, 0, 1, 1, 1, 1, 1, 1, 1] (bodyOf Tryd.prog 5)) :=
  blockT (p := .none) (fuel := 100) (depth := 12) mixed tabS plsP trivial (fun kd d => r7e F9.f F17.f F14.f F18.f F10.f F19.f F11.f F20.f F13.f kd d)
def r8P (x9 : F9.FT) (x17 : F17.FT) (x14 : F14.FT) (x18 : F18.FT) (x10 : F10.FT) (x19 : F19.FT) (x11 : F11.FT) (x20 : F20.FT) (x13 : F13.FT) (l2 : G2) (l3 : G3) (l4 : G4) (l5 : G5) (l6 : G6) (l7 : G7) : (List (List (Int)) × List (List (Int)) × Int) → ((List (Int) × Int × Int × List (Int) × Bool) × List (Int) × (List (Int × List (Int))) × (Option (List (Int) × Int × Int × List (Int) × Bool)) × Int × Int) → Option (((List (Int) × Int × Int × List (Int) × Bool) × List (Int) × (List (Int × List (Int))) × (Option (List (Int) × Int × Int × List (Int) × Bool)) × Int × Int) ⊕ ((Int × Bool × (Option (List (Int) × Int × Int × List (Int) × Bool)) × Int) × ((List (Int) × Int × Int × List (Int) × Bool)))) := fun (chunks, t15, t16) ((i0_2, i1_2, i2_2, i3_2, i4_2), all, l, twin, kept, t17) =>
    bif twin.isSome then
      bif decide (t17 < t16) then
       bif decide ((0 : Int) ≤ t17 ∧ t17 < (↑t15.length : Int) ∧ (0 : Nat) < t15.length) then
       bif decide ((0 : Nat) + t17.toNat < t15.length) then
       bif t17 == (20 : Int) then
       some
       (Sum.inr
       (((0 : Int), false, some (twin.getD ([], (0 : Int), (0 : Int), [], false)), kept), i0_2, i1_2, i2_2,
       i3_2, i4_2))
       else
       bif
       decide
       ((0 : Nat) + List.length (t15.getD ((0 : Nat) + t17.toNat) []) ≤
       List.length (t15.getD ((0 : Nat) + t17.toNat) [])) &&
       true then
       (l2 PUnit.unit
       (List.take (List.length (t15.getD ((0 : Nat) + t17.toNat) []))
       (List.drop (0 : Nat) (t15.getD ((0 : Nat) + t17.toNat) [])))).bind
       fun r0 =>
       bif t17 == IntKind.i64.wrap ((↑chunks.length : Int).tdiv (2 : Int)) then
       (l3 PUnit.unit (i0_2, i1_2, i2_2, i3_2, i4_2)).bind fun r1 =>
       bif Option.isSome r1.fst then
       (x14 (Option.getD r1.fst ([], (0 : Int), (0 : Int), [], false))).bind fun r2 =>
       bif decide ((0 : Nat) + List.length r0.fst ≤ List.length r0.fst) && true then
       (l4 PUnit.unit (List.take (List.length r0.fst) (List.drop (0 : Nat) r0.fst))).bind fun r3 =>
       bif decide ((0 : Nat) + l.length ≤ l.length) && true then
       bif decide ((0 : Nat) + List.length r3.fst.snd ≤ List.length r3.fst.snd) && true then
       (l5 PUnit.unit
       (r1.snd, List.take l.length l,
       List.take (List.length r3.fst.snd) (List.drop (0 : Nat) r3.fst.snd))).bind
       fun r4 =>
       bif decide ((0 : Nat) + r3.fst.fst.length ≤ r3.fst.fst.length) && true then
       bif decide ((0 : Nat) + all.length ≤ all.length) && true then
       (l6 (List.take r3.fst.fst.length (List.drop (0 : Nat) r3.fst.fst))
       (List.take all.length all)).bind
       fun r5 =>
       bif decide ((0 : Nat) + List.length r5.fst ≤ List.length r5.fst) && true then
       bif decide ((0 : Nat) + r4.fst.fst.length ≤ r4.fst.fst.length) && true then
       bif decide ((0 : Nat) + r3.fst.fst.length ≤ r3.fst.fst.length) && true then
       bif
       decide
       ((0 : Nat) + List.length r4.fst.snd ≤ List.length r4.fst.snd) &&
       true then
       (l7 (List.take (List.length r5.fst) (List.drop (0 : Nat) r5.fst))
       (r4.snd,
       List.take r4.fst.fst.length (List.drop (0 : Nat) r4.fst.fst),
       List.take r3.fst.fst.length (List.drop (0 : Nat) r3.fst.fst),
       List.take (List.length r4.fst.snd)
       (List.drop (0 : Nat) r4.fst.snd))).bind
       fun r6 =>
       bif decide (r6.fst.fst = (0 : Int)) then
       bif
       decide ((0 : Nat) + List.length r5.fst ≤ List.length r5.fst) &&
       true then
       bif
       decide
       ((0 : Nat) + List.length r6.fst.snd.snd ≤
       List.length r6.fst.snd.snd) &&
       true then
       some
       (Sum.inl
       (r6.snd,
       List.take (List.length r5.fst)
       (List.drop (0 : Nat) r5.fst),
       List.take (List.length r6.fst.snd.snd)
       (List.drop (0 : Nat) r6.fst.snd.snd),
       some r2.snd, r2.fst, IntKind.i64.wrap (t17 + (1 : Int))))
       else none
       else none
       else
       bif decide (r6.fst.fst = (1 : Int)) then
       some
       (Sum.inr (((1 : Int), r6.fst.snd.fst, none, (0 : Int)), r6.snd))
       else none
       else none
       else none
       else none
       else none
       else none
       else none
       else none
       else none
       else none
       else none
       else
       bif decide ((0 : Nat) + List.length r0.fst ≤ List.length r0.fst) && true then
       (l4 PUnit.unit (List.take (List.length r0.fst) (List.drop (0 : Nat) r0.fst))).bind fun r1 =>
       bif decide ((0 : Nat) + l.length ≤ l.length) && true then
       bif decide ((0 : Nat) + List.length r1.fst.snd ≤ List.length r1.fst.snd) && true then
       (l5 PUnit.unit
       ((i0_2, i1_2, i2_2, i3_2, i4_2), List.take l.length l,
       List.take (List.length r1.fst.snd) (List.drop (0 : Nat) r1.fst.snd))).bind
       fun r2 =>
       bif decide ((0 : Nat) + r1.fst.fst.length ≤ r1.fst.fst.length) && true then
       bif decide ((0 : Nat) + all.length ≤ all.length) && true then
       (l6 (List.take r1.fst.fst.length (List.drop (0 : Nat) r1.fst.fst))
       (List.take all.length all)).bind
       fun r3 =>
       bif decide ((0 : Nat) + List.length r3.fst ≤ List.length r3.fst) && true then
       bif decide ((0 : Nat) + r2.fst.fst.length ≤ r2.fst.fst.length) && true then
       bif decide ((0 : Nat) + r1.fst.fst.length ≤ r1.fst.fst.length) && true then
       bif
       decide ((0 : Nat) + List.length r2.fst.snd ≤ List.length r2.fst.snd) &&
       true then
       (l7 (List.take (List.length r3.fst) (List.drop (0 : Nat) r3.fst))
       (r2.snd, List.take r2.fst.fst.length (List.drop (0 : Nat) r2.fst.fst),
       List.take r1.fst.fst.length (List.drop (0 : Nat) r1.fst.fst),
       List.take (List.length r2.fst.snd)
       (List.drop (0 : Nat) r2.fst.snd))).bind
       fun r4 =>
       bif decide (r4.fst.fst = (0 : Int)) then
       bif
       decide ((0 : Nat) + List.length r3.fst ≤ List.length r3.fst) &&
       true then
       bif
       decide
       ((0 : Nat) + List.length r4.fst.snd.snd ≤
       List.length r4.fst.snd.snd) &&
       true then
       some
       (Sum.inl
       (r4.snd,
       List.take (List.length r3.fst) (List.drop (0 : Nat) r3.fst),
       List.take (List.length r4.fst.snd.snd)
       (List.drop (0 : Nat) r4.fst.snd.snd),
       some (twin.getD ([], (0 : Int), (0 : Int), [], false)), kept,
       IntKind.i64.wrap (t17 + (1 : Int))))
       else none
       else none
       else
       bif decide (r4.fst.fst = (1 : Int)) then
       some (Sum.inr (((1 : Int), r4.fst.snd.fst, none, (0 : Int)), r4.snd))
       else none
       else none
       else none
       else none
       else none
       else none
       else none
       else none
       else none
       else none
       else none
       else none
       else none
      else
       some
       (Sum.inr
       (((0 : Int), false, some (twin.getD ([], (0 : Int), (0 : Int), [], false)), kept), i0_2, i1_2, i2_2, i3_2,
       i4_2))
    else
      bif decide (t17 < t16) then
       bif decide ((0 : Int) ≤ t17 ∧ t17 < (↑t15.length : Int) ∧ (0 : Nat) < t15.length) then
       bif decide ((0 : Nat) + t17.toNat < t15.length) then
       bif t17 == (20 : Int) then some (Sum.inr (((0 : Int), false, none, kept), i0_2, i1_2, i2_2, i3_2, i4_2))
       else
       bif
       decide
       ((0 : Nat) + List.length (t15.getD ((0 : Nat) + t17.toNat) []) ≤
       List.length (t15.getD ((0 : Nat) + t17.toNat) [])) &&
       true then
       (l2 PUnit.unit
       (List.take (List.length (t15.getD ((0 : Nat) + t17.toNat) []))
       (List.drop (0 : Nat) (t15.getD ((0 : Nat) + t17.toNat) [])))).bind
       fun r0 =>
       bif t17 == IntKind.i64.wrap ((↑chunks.length : Int).tdiv (2 : Int)) then
       (l3 PUnit.unit (i0_2, i1_2, i2_2, i3_2, i4_2)).bind fun r1 =>
       bif Option.isSome r1.fst then
       (x14 (Option.getD r1.fst ([], (0 : Int), (0 : Int), [], false))).bind fun r2 =>
       bif decide ((0 : Nat) + List.length r0.fst ≤ List.length r0.fst) && true then
       (l4 PUnit.unit (List.take (List.length r0.fst) (List.drop (0 : Nat) r0.fst))).bind fun r3 =>
       bif decide ((0 : Nat) + l.length ≤ l.length) && true then
       bif decide ((0 : Nat) + List.length r3.fst.snd ≤ List.length r3.fst.snd) && true then
       (l5 PUnit.unit
       (r1.snd, List.take l.length l,
       List.take (List.length r3.fst.snd) (List.drop (0 : Nat) r3.fst.snd))).bind
       fun r4 =>
       bif decide ((0 : Nat) + r3.fst.fst.length ≤ r3.fst.fst.length) && true then
       bif decide ((0 : Nat) + all.length ≤ all.length) && true then
       (l6 (List.take r3.fst.fst.length (List.drop (0 : Nat) r3.fst.fst))
       (List.take all.length all)).bind
       fun r5 =>
       bif decide ((0 : Nat) + List.length r5.fst ≤ List.length r5.fst) && true then
       bif decide ((0 : Nat) + r4.fst.fst.length ≤ r4.fst.fst.length) && true then
       bif decide ((0 : Nat) + r3.fst.fst.length ≤ r3.fst.fst.length) && true then
       bif
       decide
       ((0 : Nat) + List.length r4.fst.snd ≤ List.length r4.fst.snd) &&
       true then
       (l7 (List.take (List.length r5.fst) (List.drop (0 : Nat) r5.fst))
       (r4.snd,
       List.take r4.fst.fst.length (List.drop (0 : Nat) r4.fst.fst),
       List.take r3.fst.fst.length (List.drop (0 : Nat) r3.fst.fst),
       List.take (List.length r4.fst.snd)
       (List.drop (0 : Nat) r4.fst.snd))).bind
       fun r6 =>
       bif decide (r6.fst.fst = (0 : Int)) then
       bif
       decide ((0 : Nat) + List.length r5.fst ≤ List.length r5.fst) &&
       true then
       bif
       decide
       ((0 : Nat) + List.length r6.fst.snd.snd ≤
       List.length r6.fst.snd.snd) &&
       true then
       some
       (Sum.inl
       (r6.snd,
       List.take (List.length r5.fst)
       (List.drop (0 : Nat) r5.fst),
       List.take (List.length r6.fst.snd.snd)
       (List.drop (0 : Nat) r6.fst.snd.snd),
       some r2.snd, r2.fst, IntKind.i64.wrap (t17 + (1 : Int))))
       else none
       else none
       else
       bif decide (r6.fst.fst = (1 : Int)) then
       some
       (Sum.inr (((1 : Int), r6.fst.snd.fst, none, (0 : Int)), r6.snd))
       else none
       else none
       else none
       else none
       else none
       else none
       else none
       else none
       else none
       else none
       else none
       else
       bif decide ((0 : Nat) + List.length r0.fst ≤ List.length r0.fst) && true then
       (l4 PUnit.unit (List.take (List.length r0.fst) (List.drop (0 : Nat) r0.fst))).bind fun r1 =>
       bif decide ((0 : Nat) + l.length ≤ l.length) && true then
       bif decide ((0 : Nat) + List.length r1.fst.snd ≤ List.length r1.fst.snd) && true then
       (l5 PUnit.unit
       ((i0_2, i1_2, i2_2, i3_2, i4_2), List.take l.length l,
       List.take (List.length r1.fst.snd) (List.drop (0 : Nat) r1.fst.snd))).bind
       fun r2 =>
       bif decide ((0 : Nat) + r1.fst.fst.length ≤ r1.fst.fst.length) && true then
       bif decide ((0 : Nat) + all.length ≤ all.length) && true then
       (l6 (List.take r1.fst.fst.length (List.drop (0 : Nat) r1.fst.fst))
       (List.take all.length all)).bind
       fun r3 =>
       bif decide ((0 : Nat) + List.length r3.fst ≤ List.length r3.fst) && true then
       bif decide ((0 : Nat) + r2.fst.fst.length ≤ r2.fst.fst.length) && true then
       bif decide ((0 : Nat) + r1.fst.fst.length ≤ r1.fst.fst.length) && true then
       bif
       decide ((0 : Nat) + List.length r2.fst.snd ≤ List.length r2.fst.snd) &&
       true then
       (l7 (List.take (List.length r3.fst) (List.drop (0 : Nat) r3.fst))
       (r2.snd, List.take r2.fst.fst.length (List.drop (0 : Nat) r2.fst.fst),
       List.take r1.fst.fst.length (List.drop (0 : Nat) r1.fst.fst),
       List.take (List.length r2.fst.snd)
       (List.drop (0 : Nat) r2.fst.snd))).bind
       fun r4 =>
       bif decide (r4.fst.fst = (0 : Int)) then
       bif
       decide ((0 : Nat) + List.length r3.fst ≤ List.length r3.fst) &&
       true then
       bif
       decide
       ((0 : Nat) + List.length r4.fst.snd.snd ≤
       List.length r4.fst.snd.snd) &&
       true then
       some
       (Sum.inl
       (r4.snd,
       List.take (List.length r3.fst) (List.drop (0 : Nat) r3.fst),
       List.take (List.length r4.fst.snd.snd)
       (List.drop (0 : Nat) r4.fst.snd.snd),
       none, kept, IntKind.i64.wrap (t17 + (1 : Int))))
       else none
       else none
       else
       bif decide (r4.fst.fst = (1 : Int)) then
       some (Sum.inr (((1 : Int), r4.fst.snd.fst, none, (0 : Int)), r4.snd))
       else none
       else none
       else none
       else none
       else none
       else none
       else none
       else none
       else none
       else none
       else none
       else none
       else none
      else some (Sum.inr (((0 : Int), false, none, kept), i0_2, i1_2, i2_2, i3_2, i4_2))
theorem r8e (x9 : F9.FT) (x17 : F17.FT) (x14 : F14.FT) (x18 : F18.FT) (x10 : F10.FT) (x19 : F19.FT) (x11 : F11.FT) (x20 : F20.FT) (x13 : F13.FT) (l2 : G2) (l3 : G3) (l4 : G4) (l5 : G5) (l6 : G6) (l7 : G7) (kd : List (List (Int)) × List (List (Int)) × Int) (d : (List (Int) × Int × Int × List (Int) × Bool) × List (Int) × (List (Int × List (Int))) × (Option (List (Int) × Int × Int × List (Int) × Bool)) × Int × Int) : roundF (tabC Tryd.prog (tab x9 x17 x14 x18 x10 x19 x11 x20 x13) (pls x9 x17 x14 x18 x10 x19 x11 x20 x13) 100 12) 100 (.node .none (.node .none (.node (.node (.node .none (.node .none (.node (.unit (u2 l2)) (.node (.node .none (.node (.node (.unit (u3 l3)) .none) .none)) (.node (.unit (u4 l4)) (.node (.unit (u5 l5)) (.node (.unit (u6 l6)) (.unit (u7 l7))))))))) .none) .none))) (u8 fun _ _ => none) (codeAt [1, 1, 1, 1, 1, 1, 0, 1, 0, 0] (bodyOf Tryd.prog 5)) kd d = r8P x9 x17 x14 x18 x10 x19 x11 x20 x13 l2 l3 l4 l5 l6 l7 kd d := by kernel_rfl
noncomputable def r8 : (List (List (Int)) × List (List (Int)) × Int) → ((List (Int) × Int × Int × List (Int) × Bool) × List (Int) × (List (Int × List (Int))) × (Option (List (Int) × Int × Int × List (Int) × Bool)) × Int × Int) → Option (((List (Int) × Int × Int × List (Int) × Bool) × List (Int) × (List (Int × List (Int))) × (Option (List (Int) × Int × Int × List (Int) × Bool)) × Int × Int) ⊕ ((Int × Bool × (Option (List (Int) × Int × Int × List (Int) × Bool)) × Int) × ((List (Int) × Int × Int × List (Int) × Bool)))) := r8P F9.f F17.f F14.f F18.f F10.f F19.f F11.f F20.f F13.f l2 l3 l4 l5 l6 l7
noncomputable def l8 : G8 := fun kd d => iterO (r8 kd) d
theorem ok8 : UnOk Tryd.prog (u8 l8) (codeAt [1, 1, 1, 1, 1, 1, 0, 1, 0] (bodyOf Tryd.prog 5)) :=
  loopT (p := (.node .none (.node .none (.node (.node (.node .none (.node .none (.node (.unit (u2 l2)) (.node (.node .none (.node (.node (.unit (u3 l3)) .none) .none)) (.node (.unit (u4 l4)) (.node (.unit (u5 l5)) (.node (.unit (u6 l6)) (.unit (u7 l7))))))))) .none) .none)))) (c := codeAt [1, 1, 1, 1, 1, 1, 0, 1, 0, 0] (bodyOf Tryd.prog 5)) (fuel := 100) (depth := 12) mixed tabS plsP (by kernel_rfl) (planOk_of (.node .none (.node .none (.node (.node (.node .none (.node .none (.node (.unit (u2 l2)) (.node (.node .none (.node (.node (.unit (u3 l3)) .none) .none)) (.node (.unit (u4 l4)) (.node (.unit (u5 l5)) (.node (.unit (u6 l6)) (.unit (u7 l7))))))))) .none) .none))) _ [([1, 1, 0, 0, 1, 1, 0], u2 l2), ([1, 1, 0, 0, 1, 1, 1, 0, 1, 0, 0], u3 l3), ([1, 1, 0, 0, 1, 1, 1, 1, 0], u4 l4), ([1, 1, 0, 0, 1, 1, 1, 1, 1, 0], u5 l5), ([1, 1, 0, 0, 1, 1, 1, 1, 1, 1, 0], u6 l6), ([1, 1, 0, 0, 1, 1, 1, 1, 1, 1, 1], u7 l7)] rfl ⟨ok2, ok3, ok4, ok5, ok6, ok7, trivial⟩) (by kernel_rfl) (fun kd d => r8e F9.f F17.f F14.f F18.f F10.f F19.f F11.f F20.f F13.f l2 l3 l4 l5 l6 l7 kd d) rfl
def r9P (x9 : F9.FT) (x17 : F17.FT) (x14 : F14.FT) (x18 : F18.FT) (x10 : F10.FT) (x19 : F19.FT) (x11 : F11.FT) (x20 : F20.FT) (x13 : F13.FT) : G9 := fun kept twin =>
    bif twin.isSome then
      (x14 (twin.getD ([], (0 : Int), (0 : Int), [], false))).bind fun r0 =>
       bif r0.fst == kept then some (true, PUnit.unit) else some (false, PUnit.unit)
    else some (true, PUnit.unit)
theorem r9e (x9 : F9.FT) (x17 : F17.FT) (x14 : F14.FT) (x18 : F18.FT) (x10 : F10.FT) (x19 : F19.FT) (x11 : F11.FT) (x20 : F20.FT) (x13 : F13.FT) (kd : Int) (d : (Option (List (Int) × Int × Int × List (Int) × Bool))) : unitF (tabC Tryd.prog (tab x9 x17 x14 x18 x10 x19 x11 x20 x13) (pls x9 x17 x14 x18 x10 x19 x11 x20 x13) 100 12) 100 .none (u9 fun _ _ => none) (codeAt [1, 1, 1, 1, 1, 1, 1, 0] (bodyOf Tryd.prog 5)) kd d = r9P x9 x17 x14 x18 x10 x19 x11 x20 x13 kd d := by kernel_rfl
noncomputable def r9 : G9 := r9P F9.f F17.f F14.f F18.f F10.f F19.f F11.f F20.f F13.f
noncomputable def l9 : G9 := r9
theorem ok9 : UnOk Tryd.prog (u9 l9) (codeAt [1, 1, 1, 1, 1, 1, 1, 0] (bodyOf Tryd.prog 5)) :=
  blockT (p := .none) (fuel := 100) (depth := 12) mixed tabS plsP trivial (fun kd d => r9e F9.f F17.f F14.f F18.f F10.f F19.f F11.f F20.f F13.f kd d)
def fP (x9 : F9.FT) (x17 : F17.FT) (x14 : F14.FT) (x18 : F18.FT) (x10 : F10.FT) (x19 : F19.FT) (x11 : F11.FT) (x20 : F20.FT) (x13 : F13.FT) (l1 : G1) (l8 : G8) (l9 : G9) : FT := fun chunks =>
    (l1 PUnit.unit PUnit.unit).bind fun r0 =>
      bif decide ((0 : Nat) + chunks.length ≤ chunks.length) && true then
       bif decide ((0 : Nat) + chunks.length ≤ chunks.length) && true then
       (l8 (List.take chunks.length chunks, List.take chunks.length chunks, (↑chunks.length : Int))
       (r0.fst, [], [], none, (0 : Int), (0 : Int))).bind
       fun r1 =>
       bif r1.fst.snd.snd.fst.isSome then
       bif decide (r1.fst.fst = (0 : Int)) then
       (l9 r1.fst.snd.snd.snd (some (r1.fst.snd.snd.fst.getD ([], (0 : Int), (0 : Int), [], false)))).bind
       fun r2 => some (r2.fst, PUnit.unit)
       else bif decide (r1.fst.fst = (1 : Int)) then some (r1.fst.snd.fst, PUnit.unit) else none
       else
       bif decide (r1.fst.fst = (0 : Int)) then
       (l9 r1.fst.snd.snd.snd none).bind fun r2 => some (r2.fst, PUnit.unit)
       else bif decide (r1.fst.fst = (1 : Int)) then some (r1.fst.snd.fst, PUnit.unit) else none
       else none
      else none
theorem fe (x9 : F9.FT) (x17 : F17.FT) (x14 : F14.FT) (x18 : F18.FT) (x10 : F10.FT) (x19 : F19.FT) (x11 : F11.FT) (x20 : F20.FT) (x13 : F13.FT) (l1 : G1) (l8 : G8) (l9 : G9) (d : List (List (Int))) : bodyF (tabC Tryd.prog (tab x9 x17 x14 x18 x10 x19 x11 x20 x13) ((5, (.node .none (.node (.unit (u1 l1)) (.node .none (.node .none (.node .none (.node .none (.node (.node .none (.node (.unit (u8 l8)) .none)) (.node (.unit (u9 l9)) .none))))))))) :: pls x9 x17 x14 x18 x10 x19 x11 x20 x13) 100 12) 100 5 i o d = fP x9 x17 x14 x18 x10 x19 x11 x20 x13 l1 l8 l9 d := by kernel_rfl
noncomputable def f : FT := fP F9.f F17.f F14.f F18.f F10.f F19.f F11.f F20.f F13.f l1 l8 l9
def plan (l1 : G1) (l8 : G8) (l9 : G9) : Plan := (.node .none (.node (.unit (u1 l1)) (.node .none (.node .none (.node .none (.node .none (.node (.node .none (.node (.unit (u8 l8)) .none)) (.node (.unit (u9 l9)) .none))))))))
theorem planOk : PlanOk Tryd.prog (plan l1 l8 l9) (bodyOf Tryd.prog 5) := (planOk_of (plan l1 l8 l9) _ [([1, 0], u1 l1), ([1, 1, 1, 1, 1, 1, 0, 1, 0], u8 l8), ([1, 1, 1, 1, 1, 1, 1, 0], u9 l9)] rfl ⟨ok1, ok8, ok9, trivial⟩)
theorem meets : MeetsF Tryd.prog 5 ⟨i, o, f⟩ :=
  funcT (fuel := 100) (depth := 12) (pl := (5, plan l1 l8 l9) :: pls F9.f F17.f F14.f F18.f F10.f F19.f F11.f F20.f F13.f) mixed tabS ⟨planOk, plsP⟩ (fun d => fe F9.f F17.f F14.f F18.f F10.f F19.f F11.f F20.f F13.f l1 l8 l9 d)
theorem spec : SpecOk Tryd.prog (fun _ => none) 5 (specF ⟨i, o, f⟩) := specF_ok (by kernel_rfl) meets
end Go.Proofs.YtnmgbheaabdhlaaDoor.F5

/- Chapter 3: chunk by chunk, what the document says of the stream so far: the law. -/
namespace Go.Proofs.YtnmgbheaabdhlaaDoor.PI
open Go Go.Proofs Go.Proofs.YtnmgbheaabdhlaaDoor.Sx Go.Proofs.YtnmgbheaabdhlaaDoor.PA Go.Proofs.YtnmgbheaabdhlaaDoor.PB Go.Proofs.YtnmgbheaabdhlaaDoor.PC Go.Proofs.YtnmgbheaabdhlaaDoor.PD Go.Proofs.YtnmgbheaabdhlaaDoor.PG Go.Proofs.YtnmgbheaabdhlaaDoor.PE Go.Proofs.YtnmgbheaabdhlaaDoor.PH
set_option linter.unusedSimpArgs false
set_option linter.unusedVariables false
theorem copyP {x : List Int} {c s : Int} {d : List Int} (hx : x.length ≤ 1000000) (hd : d.length ≤ 1000) : F17.f (x, c, s, d, true) = some (some (x, c, s, d, true), x, c, s, d, true) := by
  unfold F17.f F17.fP
  simp only [Bool.not_true, cond_false, le_all, cond_true, Bool.and_true, List.take_length, clone (l := x) (by omega), clone (l := d) (by omega), Option.bind_some, take_all]
theorem clone18 {l : List Int} (h : l.length ≤ 1073741824) : F18.f l = some (l, ()) := by
  unfold F18.f
  by_cases h0 : 0 < l.length
  · rw [if_pos h0]
    unfold F18.fP
    have c1 : decide (0 < l.length) = true := decide_eq_true h0
    have c3 : decide (l.length ≤ 1073741824) = true := decide_eq_true h
    simp only [c1, c3, le_all, cond_true, List.take_length, Nat.zero_add, List.nil_append, decide_true, Bool.and_true, Nat.le_refl, List.drop_zero]
  · rw [if_neg h0]
    have : l = [] := List.length_eq_zero_iff.1 (by omega)
    subst this; rfl
theorem m2 (b : List Int) : F5.l2 () b = some (b.take 5000, ()) := by
  unfold F5.l2 F5.r2 F5.r2P
  have e0 : ((some (if (5000 : Int) < (b.length : Int) then (5000 : Int) else (b.length : Int))).getD (b.length : Int)) = ((min b.length 5000 : Nat) : Int) := min_of b.length 5000
  have c1 : decide ((0 : Int) ≤ ((min b.length 5000 : Nat) : Int) ∧ ((min b.length 5000 : Nat) : Int) ≤ (b.length : Int) ∧ 0 + b.length ≤ b.length) = true := decide_eq_true (by omega)
  have e1 : ((min b.length 5000 : Nat) : Int).toNat = min b.length 5000 := by omega
  have c2 : decide (0 + min b.length 5000 ≤ b.length) = true := decide_eq_true (by omega)
  have e2 : b.take (min b.length 5000) = b.take 5000 := by rw [Nat.min_comm, ← List.take_take, List.take_length]
  simp only [e0, c1, e1, c2, cond_true, Bool.and_true, e2]
theorem m3 {x : List Int} {c s : Int} {d : List Int} (hx : x.length ≤ 1000000) (hd : d.length ≤ 1000) : F5.l3 () (x, c, s, d, true) = some (some (x, c, s, d, true), x, c, s, d, true) := by
  unfold F5.l3 F5.r3 F5.r3P
  simp only [copyP hx hd, Option.bind_some, Option.isSome_some, Option.getD_some, cond_true]
theorem m5 {b : List Int} (hb : b.length ≤ 5000) : F5.l4 () b = some ((b, b), ()) := by
  unfold F5.l4 F5.r4 F5.r4P
  simp only [le_all, cond_true, Bool.and_true, List.take_length, clone18 (l := b) (by omega), Option.bind_some, take_all]
theorem m6 {a c : List Int} (hB : Bytes (a ++ c)) (hl : (a ++ c).length ≤ 200000) : F5.l5 () ((parse a).2, (parse a).1, c) = some (((parse (a ++ c)).1, c), (parse (a ++ c)).2) := by
  obtain ⟨ms, st, h1, h2⟩ := chunk hB (by omega)
  have hml := parse_len _ (Nat.le_refl (a ++ c).length)
  rw [h2] at hml
  simp only [List.length_append] at hml hl
  obtain ⟨x, c', s, d, hp, _⟩ := parse_ok a
  rw [h2]
  rw [hp] at h1 ⊢
  unfold F5.l5 F5.r5 F5.r5P
  have c4 : decide ((parse a).1.length + ms.length ≤ 1073741824) = true := decide_eq_true (by omega)
  have c5 : decide (0 + ((parse a).1.length + ms.length) ≤ ((parse a).1 ++ ms).length) = true := decide_eq_true (by rw [List.length_append]; omega)
  have e2 : ((parse a).1 ++ ms).take ((parse a).1.length + ms.length) = (parse a).1 ++ ms := List.take_of_length_le (by rw [List.length_append]; omega)
  simp only [h1, Option.bind_some, decide_true, c4, c5, e2, le_all, cond_true, Bool.and_true, List.take_length, List.drop_zero]
theorem m7 {a c : List Int} (hl : (a ++ c).length ≤ 200000) : F5.l6 c a = some (a ++ c, ()) := by
  unfold F5.l6 F5.r6 F5.r6P
  rw [List.length_append] at hl
  have c4 : decide (a.length + c.length ≤ 1073741824) = true := decide_eq_true (by omega)
  have c5 : decide (0 + (a.length + c.length) ≤ (a ++ c).length) = true := decide_eq_true (by rw [List.length_append]; omega)
  have e2 : (a ++ c).take (a.length + c.length) = a ++ c := List.take_of_length_le (by rw [List.length_append]; omega)
  simp only [c4, c5, e2, le_all, cond_true, Bool.and_true, List.take_length, List.drop_zero]
theorem m8 {a b : List Int} (hB : Bytes a) (hl : a.length ≤ 200000) (hb : b.length ≤ 5000) : F5.l7 a ((parse a).2, (parse a).1, b, b) = some ((0, false, (parse a).1), (parse a).2) := by
  have hr := readP hB (by omega)
  have hml := parse_len _ (Nat.le_refl a.length)
  have hsame := sameP (parse a).1 (by omega)
  rcases parse_st _ (Nat.le_refl a.length) with ⟨r, n, h1, _, h3⟩ | ⟨s, d, h1, h2, h3⟩
  · rw [h1] at hr ⊢
    have hf := faultP (b := r) (c := 0) (s := 0) (d := []) (by simp)
    unfold F5.l7 F5.r7 F5.r7P
    simp only [le_all, cond_true, Bool.and_true, List.take_length, hr, hf, Option.bind_some, take_all, hsame, Bool.not_true, cond_false, show IntKind.i64.wrap 0 = 0 from rfl, bne_self_eq_false, equalP, waitsP]
  · rw [h1] at hr ⊢
    have hf := faultP (b := []) (c := 1) (s := s) (d := d) (by omega)
    unfold F5.l7 F5.r7 F5.r7P
    have ws : IntKind.i64.wrap s = s := wrap64_id (by omega)
    simp only [le_all, cond_true, Bool.and_true, List.take_length, hr, hf, Option.bind_some, take_all, hsame, Bool.not_true, cond_false, show IntKind.i64.wrap 1 = 1 from rfl, ws, bne_self_eq_false, equalP, waitsP]
abbrev Z5 := IS × List Int × List Msg × Option IS × Int × Int
def Tw (twin : Option IS) (kept : Int) : Prop := twin = none ∨ ∃ x c s d, twin = some (x, c, s, d, true) ∧ kept = ((x : List Int).length : Int)
def Inv5 (y : Z5) : Prop := ∃ (all : List Int) (k : Nat), y.1 = (parse all).2 ∧ y.2.1 = all ∧ y.2.2.1 = (parse all).1 ∧ Tw y.2.2.2.1 y.2.2.2.2.1 ∧ y.2.2.2.2.2 = (k : Int) ∧ k ≤ 20 ∧ Bytes all ∧ all.length ≤ 5000 * k
theorem loop {chunks : List (List Int)} (hc : ∀ b ∈ chunks, Bytes b) : ∃ twin kept st, F5.l8 (chunks, chunks, (chunks.length : Int)) (W [], [], [], none, 0, 0) = some ((0, false, twin, kept), st) ∧ Tw twin kept := by
  obtain ⟨r, e, twin, kept, st, h1, h2⟩ := iterO_inv (f := F5.r8 (chunks, chunks, (chunks.length : Int))) Inv5 (fun y => 21 - y.2.2.2.2.2.toNat) (fun r => ∃ twin kept st, r = ((0, false, twin, kept), st) ∧ Tw twin kept) (by
    rintro ⟨i, al, l, twin, kept, kk⟩ ⟨all, k, g1, g2, g3, g4, g5, g6, g7, g8⟩
    simp only at g1 g2 g3 g4 g5
    subst g1 g2 g3 g5
    have hal := parse_len _ (Nat.le_refl al.length)
    obtain ⟨x, c, s, d, hps, hd2, hx⟩ := parse_ok al
    have c0 : decide ((0 : Int) ≤ (k : Int) ∧ (k : Int) < (chunks.length : Int) ∧ 0 < chunks.length) = decide (k < chunks.length) := by
      by_cases h : k < chunks.length
      · rw [decide_eq_true h, decide_eq_true (by omega)]
      · rw [decide_eq_false h, decide_eq_false (by omega)]
    have ends : ∀ q : Unit, (¬ k < chunks.length ∨ k = 20) → F5.r8 (chunks, chunks, (chunks.length : Int)) ((parse al).2, al, (parse al).1, twin, kept, (k : Int)) = some (.inr ((0, false, twin, kept), (parse al).2)) := by
      intro _ hq
      rw [hps]
      unfold F5.r8 F5.r8P
      by_cases hk : k < chunks.length
      · have hk20 : k = 20 := hq.resolve_left (fun h => h hk)
        have d1 : decide ((k : Int) < (chunks.length : Int)) = true := decide_eq_true (by omega)
        have d2 : decide (0 + (k : Int).toNat < chunks.length) = true := decide_eq_true (by omega)
        have d3 : ((k : Int) == 20) = true := by rw [beq_iff_eq]; omega
        cases twin <;> simp only [Option.isSome_some, Option.isSome_none, Option.getD_some, d1, c0, decide_eq_true hk, d2, d3, cond_true, cond_false]
      · have d1 : decide ((k : Int) < (chunks.length : Int)) = false := decide_eq_false (by omega)
        cases twin <;> simp only [Option.isSome_some, Option.isSome_none, Option.getD_some, d1, cond_true, cond_false]
    by_cases hk : k < chunks.length
    · by_cases h20 : k = 20
      · exact .inr ⟨_, ends () (.inr h20), twin, kept, _, rfl, g4⟩
      · left
        have hgk : chunks.getD (0 + (k : Int).toNat) [] = chunks[k] := getN hk
        have hbc : Bytes (chunks[k].take 5000) := (hc _ (List.getElem_mem hk)).take _
        have hcl : (chunks[k].take 5000).length ≤ 5000 := by rw [List.length_take]; omega
        generalize hcc : chunks[k].take 5000 = cc at *
        have hB := g7.append hbc
        have hl : (al ++ cc).length ≤ 200000 := by rw [List.length_append]; omega
        have q6 := m6 hB hl
        have q7 := m7 hl
        have q8 := m8 hB hl hcl
        have q5 := m5 hcl
        have q2 : F5.l2 () chunks[k] = some (cc, ()) := by rw [m2, hcc]
        have q3 := m3 (x := x) (c := c) (s := s) (d := d) (by omega) (by omega)
        have q4 := waitsP (b := x) (c := c) (s := s) (d := d)
        obtain ⟨x', c', s', d', hps', hd2', hx'⟩ := parse_ok (al ++ cc)
        have d1 : decide ((k : Int) < (chunks.length : Int)) = true := decide_eq_true (by omega)
        have d2 : decide (0 + (k : Int).toNat < chunks.length) = true := decide_eq_true (by omega)
        have d3 : ((k : Int) == 20) = false := by rw [beq_eq_false_iff_ne]; omega
        have w : IntKind.i64.wrap ((k : Int) + 1) = ((k + 1 : Nat) : Int) := by rw [wrap64_id (by omega)]; omega
        cases hh : ((k : Int) == IntKind.i64.wrap ((chunks.length : Int).tdiv 2)) with
        | true =>
          refine ⟨((parse (al ++ cc)).2, al ++ cc, (parse (al ++ cc)).1, some (x, c, s, d, true), (x.length : Int), ((k + 1 : Nat) : Int)), ?_, ⟨al ++ cc, k + 1, rfl, rfl, rfl, .inr ⟨x, c, s, d, rfl, rfl⟩, rfl, by omega, hB, by rw [List.length_append]; omega⟩, by simp only [Int.toNat_natCast]; omega⟩
          rw [hps'] at q6 q8 ⊢
          rw [hps] at q6 ⊢
          unfold F5.r8 F5.r8P
          cases twin <;> simp only [Option.isSome_some, Option.isSome_none, Option.getD_some, d1, c0, decide_eq_true hk, d2, d3, hgk, le_all, take_all, q2, hh, q3, q4, q5, q6, q7, q8, w, Option.bind_some, Bool.and_true, List.take_length, cond_true, cond_false, decide_true] <;> rfl
        | false =>
          refine ⟨((parse (al ++ cc)).2, al ++ cc, (parse (al ++ cc)).1, twin, kept, ((k + 1 : Nat) : Int)), ?_, ⟨al ++ cc, k + 1, rfl, rfl, rfl, g4, rfl, by omega, hB, by rw [List.length_append]; omega⟩, by simp only [Int.toNat_natCast]; omega⟩
          rw [hps'] at q6 q8 ⊢
          rw [hps] at q6 ⊢
          unfold F5.r8 F5.r8P
          cases twin <;> simp only [Option.isSome_some, Option.isSome_none, Option.getD_some, d1, c0, decide_eq_true hk, d2, d3, hgk, le_all, take_all, q2, hh, q5, q6, q7, q8, w, Option.bind_some, Bool.and_true, List.take_length, cond_true, cond_false, decide_true] <;> rfl
    · exact .inr ⟨_, ends () (.inl hk), twin, kept, _, rfl, g4⟩) (W [], [], [], none, 0, 0) ⟨[], 0, by rw [parse_nil], rfl, by rw [parse_nil], .inl rfl, rfl, by omega, (fun x hx => by cases hx), by simp⟩
  subst h1
  exact ⟨twin, kept, st, e, h2⟩
theorem law (chunks : List (List Int)) (hc : ∀ b ∈ chunks, Bytes b) : ∃ q, F5.f chunks = some (true, q) := by
  obtain ⟨twin, kept, st, e, h⟩ := loop hc
  have n1 : F5.l1 () () = some (W [], ()) := rfl
  refine ⟨(), ?_⟩
  unfold F5.f F5.fP
  rcases h with rfl | ⟨x, c, s, d, rfl, hk⟩
  · have n10 : F5.l9 kept none = some (true, ()) := by
      unfold F5.l9 F5.r9 F5.r9P
      simp only [Option.isSome_none, cond_false]
    simp only [n1, le_all, cond_true, cond_false, Bool.and_true, List.take_length, e, Option.bind_some, Option.isSome_none, n10, decide_true]
  · have n10 : F5.l9 kept (some (x, c, s, d, true)) = some (true, ()) := by
      unfold F5.l9 F5.r9 F5.r9P
      simp only [Option.isSome_some, Option.getD_some, cond_true, waitsP, Option.bind_some, hk, beq_self_eq_true]
    simp only [n1, le_all, cond_true, cond_false, Bool.and_true, List.take_length, e, Option.bind_some, Option.isSome_some, Option.getD_some, n10, decide_true]
theorem feeds (d : Den F5.i) (hd : wfD F5.i d) : ∃ q, F5.f d = some (true, q) :=
  law d fun b hb x hx => ((hd.1.2 b hb).1.2 x hx).1
end Go.Proofs.YtnmgbheaabdhlaaDoor.PI
