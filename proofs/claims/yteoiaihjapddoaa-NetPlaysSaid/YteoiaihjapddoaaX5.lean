/- What comes of function 6 of this program, consulate.consulatelaw29.NetPlays, as the engine gives it. -/
import Derived.Test.YteoiaihjapddoaaChecked
import Derived.Test.YteoiaihjapddoaaZO
import Derived.Test.YteoiaihjapddoaaX1
import Derived.Test.YteoiaihjapddoaaX4
import Derived.Test.YteoiaihjapddoaaX2
namespace Go.Proofs.Yteoiaihjapddoaa.F6
open Go Go.Proofs Go.Proofs.Yteoiaihjapddoaa Go.RowKit Go.Proofs.Yteoiaihjapddoaa.Sx
set_option linter.unusedVariables false
set_option maxRecDepth 100000
def tab (x12 : F12.FT) (x22 : F22.FT) (x23 : F23.FT) (x20 : F20.FT) (x24 : F24.FT) (x25 : F25.FT) (x17 : F17.FT) (x18 : F18.FT) : List (FuncId × Sx.Spec) := [(12, specF ⟨F12.i, F12.o, x12⟩), (22, specF ⟨F22.i, F22.o, x22⟩), (23, specF ⟨F23.i, F23.o, x23⟩), (20, specF ⟨F20.i, F20.o, x20⟩), (24, specF ⟨F24.i, F24.o, x24⟩), (25, specF ⟨F25.i, F25.o, x25⟩), (17, specF ⟨F17.i, F17.o, x17⟩), (18, specF ⟨F18.i, F18.o, x18⟩), (14, pureS saysS)]
def pls (x12 : F12.FT) (x22 : F22.FT) (x23 : F23.FT) (x20 : F20.FT) (x24 : F24.FT) (x25 : F25.FT) (x17 : F17.FT) (x18 : F18.FT) : List (FuncId × Plan) := []
@[reducible] def k1 : Sh := .sl false 38 (.sc (.int .i64) (.sc (.int .i64) (.sc (.int .i64) (.sc (.int .i64) (.sl false 5 (.sc (.int .u8) .nil) .nil))))) (.sc (.fn 21) (.sc (.int .i64) .nil))
@[reducible] def i1 : Sh := .pt true 59 (.sl true 61 (.sc .bool (.sc (.int .i64) (.sl true 5 (.sc (.int .u8) .nil) (.sl true 5 (.sc (.int .u8) .nil) .nil)))) (.sc .bool .nil)) (.po true 59 (.sl true 61 (.sc .bool (.sc (.int .i64) (.sl true 5 (.sc (.int .u8) .nil) (.sl true 5 (.sc (.int .u8) .nil) .nil)))) (.sc .bool .nil)) (.pt true 52 (.sc (.int .i64) (.sc (.int .i64) (.sc (.int .i64) .nil))) .nil))
@[reducible] def o1 : Sh := .po true 59 (.sl true 61 (.sc .bool (.sc (.int .i64) (.sl true 5 (.sc (.int .u8) .nil) (.sl true 5 (.sc (.int .u8) .nil) .nil)))) (.sc .bool .nil)) .nil
abbrev G1 := ((List (Int × Int × Int × Int × List (Int))) × Unit × Int) → (((List (Bool × Int × List (Int) × List (Int))) × Bool) × (Option ((List (Bool × Int × List (Int) × List (Int))) × Bool)) × (Int × Int × Int)) → Option (((Option ((List (Bool × Int × List (Int) × List (Int))) × Bool))) × (((List (Bool × Int × List (Int) × List (Int))) × Bool) × (Int × Int × Int)))
def u1 (F : G1) : Un := ⟨129, [0, 7, 8], k1, [3, 5, 6], i1, [5], o1, [0, 3, 4, 6, 7, 9, 15, 16, 17], [(.normal, [true])], F⟩
@[reducible] def k2 : Sh := .pt true 38 (.sc (.int .i64) (.sc (.int .i64) (.sc (.int .i64) (.sc (.int .i64) (.sl false 5 (.sc (.int .u8) .nil) .nil))))) .nil
@[reducible] def i2 : Sh := .pt true 59 (.sl true 61 (.sc .bool (.sc (.int .i64) (.sl true 5 (.sc (.int .u8) .nil) (.sl true 5 (.sc (.int .u8) .nil) .nil)))) (.sc .bool .nil)) (.pt true 51 (.sl true 56 (.sc .bool (.sc (.int .i64) (.sl true 5 (.sc (.int .u8) .nil) (.sl true 5 (.sc (.int .u8) .nil) .nil)))) .nil) .nil)
@[reducible] def o2 : Sh := .sc .bool .nil
abbrev G2 := ((Int × Int × Int × Int × List (Int))) → (((List (Bool × Int × List (Int) × List (Int))) × Bool) × ((List (Bool × Int × List (Int) × List (Int))))) → Option (Bool × (((List (Bool × Int × List (Int) × List (Int))) × Bool) × ((List (Bool × Int × List (Int) × List (Int))))))
def u2 (F : G2) : Un := ⟨129, [9], k2, [3, 4], i2, [70], o2, [0, 3, 4, 5, 6, 7, 9, 15, 16, 17], [(.normal, [true])], F⟩
@[reducible] def k3 : Sh := .pt true 51 (.sl true 56 (.sc .bool (.sc (.int .i64) (.sl true 5 (.sc (.int .u8) .nil) (.sl true 5 (.sc (.int .u8) .nil) .nil)))) .nil) (.pt true 38 (.sc (.int .i64) (.sc (.int .i64) (.sc (.int .i64) (.sc (.int .i64) (.sl false 5 (.sc (.int .u8) .nil) .nil))))) .nil)
@[reducible] def i3 : Sh := .nil
@[reducible] def o3 : Sh := .sc .bool .nil
abbrev G3 := (((List (Bool × Int × List (Int) × List (Int)))) × (Int × Int × Int × Int × List (Int))) → Unit → Option (Bool × Unit)
def u3 (F : G3) : Un := ⟨129, [4, 9], k3, [], i3, [83], o3, [0, 3, 4, 5, 6, 7, 9, 10, 11, 15, 16, 17], [(.normal, [true])], F⟩
@[reducible] def k4 : Sh := .pt true 51 (.sl true 56 (.sc .bool (.sc (.int .i64) (.sl true 5 (.sc (.int .u8) .nil) (.sl true 5 (.sc (.int .u8) .nil) .nil)))) .nil) (.pt true 38 (.sc (.int .i64) (.sc (.int .i64) (.sc (.int .i64) (.sc (.int .i64) (.sl false 5 (.sc (.int .u8) .nil) .nil))))) .nil)
@[reducible] def i4 : Sh := .nil
@[reducible] def o4 : Sh := .sc .bool (.sc (.int .i64) .nil)
abbrev G4 := (((List (Bool × Int × List (Int) × List (Int)))) × (Int × Int × Int × Int × List (Int))) → Unit → Option ((Bool × Int) × Unit)
def u4 (F : G4) : Un := ⟨129, [4, 9], k4, [], i4, [10, 11], o4, [0, 3, 4, 5, 6, 7, 9, 15, 16, 17], [(.normal, [true, true])], F⟩
@[reducible] def k5 : Sh := .pt true 38 (.sc (.int .i64) (.sc (.int .i64) (.sc (.int .i64) (.sc (.int .i64) (.sl false 5 (.sc (.int .u8) .nil) .nil))))) (.sc .bool (.sc (.int .i64) .nil))
@[reducible] def i5 : Sh := .pt true 59 (.sl true 61 (.sc .bool (.sc (.int .i64) (.sl true 5 (.sc (.int .u8) .nil) (.sl true 5 (.sc (.int .u8) .nil) .nil)))) (.sc .bool .nil)) .nil
@[reducible] def o5 : Sh := .sc .bool .nil
abbrev G5 := ((Int × Int × Int × Int × List (Int)) × Bool × Int) → (((List (Bool × Int × List (Int) × List (Int))) × Bool)) → Option (Bool × (((List (Bool × Int × List (Int) × List (Int))) × Bool)))
def u5 (F : G5) : Un := ⟨129, [9, 10, 11], k5, [3], i5, [115], o5, [0, 3, 4, 5, 6, 7, 15, 16, 17], [(.normal, [true])], F⟩
@[reducible] def k6 : Sh := .sl false 38 (.sc (.int .i64) (.sc (.int .i64) (.sc (.int .i64) (.sc (.int .i64) (.sl false 5 (.sc (.int .u8) .nil) .nil))))) (.sc (.fn 21) (.sl false 38 (.sc (.int .i64) (.sc (.int .i64) (.sc (.int .i64) (.sc (.int .i64) (.sl false 5 (.sc (.int .u8) .nil) .nil))))) (.sc (.int .i64) .nil)))
@[reducible] def i6 : Sh := .pt true 59 (.sl true 61 (.sc .bool (.sc (.int .i64) (.sl true 5 (.sc (.int .u8) .nil) (.sl true 5 (.sc (.int .u8) .nil) .nil)))) (.sc .bool .nil)) (.pt true 51 (.sl true 56 (.sc .bool (.sc (.int .i64) (.sl true 5 (.sc (.int .u8) .nil) (.sl true 5 (.sc (.int .u8) .nil) .nil)))) .nil) (.po true 59 (.sl true 61 (.sc .bool (.sc (.int .i64) (.sl true 5 (.sc (.int .u8) .nil) (.sl true 5 (.sc (.int .u8) .nil) .nil)))) (.sc .bool .nil)) (.pt true 52 (.sc (.int .i64) (.sc (.int .i64) (.sc (.int .i64) .nil))) (.sc (.int .i64) .nil))))
@[reducible] def o6 : Sh := .sc (.int .i64) (.sc .bool (.po true 59 (.sl true 61 (.sc .bool (.sc (.int .i64) (.sl true 5 (.sc (.int .u8) .nil) (.sl true 5 (.sc (.int .u8) .nil) .nil)))) (.sc .bool .nil)) .nil))
abbrev G6 := ((List (Int × Int × Int × Int × List (Int))) × Unit × (List (Int × Int × Int × Int × List (Int))) × Int) → (((List (Bool × Int × List (Int) × List (Int))) × Bool) × ((List (Bool × Int × List (Int) × List (Int)))) × (Option ((List (Bool × Int × List (Int) × List (Int))) × Bool)) × (Int × Int × Int) × Int) → Option ((Int × Bool × (Option ((List (Bool × Int × List (Int) × List (Int))) × Bool))) × (((List (Bool × Int × List (Int) × List (Int))) × Bool) × ((List (Bool × Int × List (Int) × List (Int)))) × (Int × Int × Int)))
def u6 (F : G6) : Un := ⟨129, [0, 7, 15, 16], k6, [3, 4, 5, 6, 17], i6, [2, 5], o6, [0, 3, 4, 6, 7, 15, 16], [(.exit 0, [false, true]), (.ret, [true, false])], F⟩
@[reducible] def i : Sh := .sl false 38 (.sc (.int .i64) (.sc (.int .i64) (.sc (.int .i64) (.sc (.int .i64) (.sl false 5 (.sc (.int .u8) .nil) .nil))))) .nil
@[reducible] def o : Sh := .sc .bool .nil
abbrev FT := ((List (Int × Int × Int × Int × List (Int)))) → Option (Bool × Unit)
theorem tabS : AllS Try.prog (tab F12.f F22.f F23.f F20.f F24.f F25.f F17.f F18.f) := ⟨F12.spec, F22.spec, F23.spec, F20.spec, F24.spec, F25.spec, F17.spec, F18.spec, says_ok (by kernel_rfl) KA.tells, trivial⟩
theorem plsP : AllP Try.prog (pls F12.f F22.f F23.f F20.f F24.f F25.f F17.f F18.f) := trivial
theorem mixed : Try.prog.follows .mixedOrders = true := by kernel_rfl
def r1P (x12 : F12.FT) (x22 : F22.FT) (x23 : F23.FT) (x20 : F20.FT) (x24 : F24.FT) (x25 : F25.FT) (x17 : F17.FT) (x18 : F18.FT) : G1 := fun (l, links, i) ((n0, n1), twin, (kept0, kept1, kept2)) =>
    bif twin.isSome then
      bif i == IntKind.i64.wrap ((↑l.length : Int).tdiv (2 : Int)) then
       (x22 (n0, n1)).bind fun r0 =>
       bif Option.isSome r0.fst then
       bif
       decide
       ((0 : Nat) + (Option.getD r0.fst ([], false)).fst.length ≤
       (Option.getD r0.fst ([], false)).fst.length) &&
       true then
       (x12
       ((List.take (Option.getD r0.fst ([], false)).fst.length
       (List.drop (0 : Nat) (Option.getD r0.fst ([], false)).fst),
       (Option.getD r0.fst ([], false)).snd),
       (0 : Int), (0 : Int))).bind
       fun r1 =>
       (x12 (r1.snd, (0 : Int), (1 : Int))).bind fun r2 =>
       some (some r2.snd, r0.snd, (↑(Option.getD r0.fst ([], false)).fst.length : Int), r1.fst, r2.fst)
       else none
       else none
      else some (some (twin.getD ([], false)), (n0, n1), kept0, kept1, kept2)
    else
      bif i == IntKind.i64.wrap ((↑l.length : Int).tdiv (2 : Int)) then
       (x22 (n0, n1)).bind fun r0 =>
       bif Option.isSome r0.fst then
       bif
       decide
       ((0 : Nat) + (Option.getD r0.fst ([], false)).fst.length ≤
       (Option.getD r0.fst ([], false)).fst.length) &&
       true then
       (x12
       ((List.take (Option.getD r0.fst ([], false)).fst.length
       (List.drop (0 : Nat) (Option.getD r0.fst ([], false)).fst),
       (Option.getD r0.fst ([], false)).snd),
       (0 : Int), (0 : Int))).bind
       fun r1 =>
       (x12 (r1.snd, (0 : Int), (1 : Int))).bind fun r2 =>
       some (some r2.snd, r0.snd, (↑(Option.getD r0.fst ([], false)).fst.length : Int), r1.fst, r2.fst)
       else none
       else none
      else some (none, (n0, n1), kept0, kept1, kept2)
theorem r1e (x12 : F12.FT) (x22 : F22.FT) (x23 : F23.FT) (x20 : F20.FT) (x24 : F24.FT) (x25 : F25.FT) (x17 : F17.FT) (x18 : F18.FT) (kd : (List (Int × Int × Int × Int × List (Int))) × Unit × Int) (d : ((List (Bool × Int × List (Int) × List (Int))) × Bool) × (Option ((List (Bool × Int × List (Int) × List (Int))) × Bool)) × (Int × Int × Int)) : unitF (tabC Try.prog (tab x12 x22 x23 x20 x24 x25 x17 x18) (pls x12 x22 x23 x20 x24 x25 x17 x18) 100 10) 100 .none (u1 fun _ _ => none) (codeAt [1, 1, 1, 1, 1, 0, 1, 0, 0, 1, 1, 0, 0, 1, 1, 0] (bodyOf Try.prog 6)) kd d = r1P x12 x22 x23 x20 x24 x25 x17 x18 kd d := by kernel_rfl
noncomputable def r1 : G1 := r1P F12.f F22.f F23.f F20.f F24.f F25.f F17.f F18.f
noncomputable def l1 : G1 := r1
theorem ok1 : UnOk Try.prog (u1 l1) (codeAt [1, 1, 1, 1, 1, 0, 1, 0, 0, 1, 1, 0, 0, 1, 1, 0] (bodyOf Try.prog 6)) :=
  blockT (p := .none) (fuel := 100) (depth := 10) mixed tabS plsP trivial (fun kd d => r1e F12.f F22.f F23.f F20.f F24.f F25.f F17.f F18.f kd d)
def r2P (x12 : F12.FT) (x22 : F22.FT) (x23 : F23.FT) (x20 : F20.FT) (x24 : F24.FT) (x25 : F25.FT) (x17 : F17.FT) (x18 : F18.FT) : G2 := fun (a0, a1, a2, a3, a4) ((n0, n1), w) =>
    bif decide ((0 : Nat) + n0.length ≤ n0.length) && true then
      bif decide ((0 : Nat) + w.length ≤ w.length) && true then
       bif decide ((0 : Nat) + a4.length ≤ a4.length) && true then
       (x23 ((List.take n0.length n0, n1), List.take w.length w, a0, a1, a2, a3, List.take a4.length a4)).bind
       fun r0 =>
       bif !r0.fst then some (true, r0.snd.fst, r0.snd.snd)
       else
       bif (↑r0.snd.fst.fst.length : Int) != (↑(List.length r0.snd.snd) : Int) then
       bif decide ((0 : Nat) + r0.snd.fst.fst.length ≤ r0.snd.fst.fst.length) && true then
       bif decide ((0 : Nat) + List.length r0.snd.snd ≤ List.length r0.snd.snd) && true then
       some
       (true, (List.take r0.snd.fst.fst.length (List.drop (0 : Nat) r0.snd.fst.fst), r0.snd.fst.snd),
       List.take (List.length r0.snd.snd) (List.drop (0 : Nat) r0.snd.snd))
       else none
       else none
       else
       bif decide ((0 : Nat) + r0.snd.fst.fst.length ≤ r0.snd.fst.fst.length) && true then
       (x20 (List.take r0.snd.fst.fst.length (List.drop (0 : Nat) r0.snd.fst.fst), r0.snd.fst.snd)).bind
       fun r1 =>
       bif decide ((0 : Nat) + List.length r0.snd.snd ≤ List.length r0.snd.snd) && true then
       (x24 (List.take (List.length r0.snd.snd) (List.drop (0 : Nat) r0.snd.snd))).bind fun r2 =>
       bif !r1.fst == r2.fst then some (true, r1.snd, r2.snd)
       else
       (x12 (r1.snd, a1, a2)).bind fun r3 =>
       (x25 (r2.snd, a1, a2)).bind fun r4 => some (r3.fst != r4.fst, r3.snd, r4.snd)
       else none
       else none
       else none
      else none
    else none
theorem r2e (x12 : F12.FT) (x22 : F22.FT) (x23 : F23.FT) (x20 : F20.FT) (x24 : F24.FT) (x25 : F25.FT) (x17 : F17.FT) (x18 : F18.FT) (kd : (Int × Int × Int × Int × List (Int))) (d : ((List (Bool × Int × List (Int) × List (Int))) × Bool) × ((List (Bool × Int × List (Int) × List (Int))))) : unitF (tabC Try.prog (tab x12 x22 x23 x20 x24 x25 x17 x18) (pls x12 x22 x23 x20 x24 x25 x17 x18) 100 10) 100 .none (u2 fun _ _ => none) (codeAt [1, 1, 1, 1, 1, 0, 1, 0, 0, 1, 1, 0, 0, 1, 1, 1, 0, 0] (bodyOf Try.prog 6)) kd d = r2P x12 x22 x23 x20 x24 x25 x17 x18 kd d := by kernel_rfl
noncomputable def r2 : G2 := r2P F12.f F22.f F23.f F20.f F24.f F25.f F17.f F18.f
noncomputable def l2 : G2 := r2
theorem ok2 : UnOk Try.prog (u2 l2) (codeAt [1, 1, 1, 1, 1, 0, 1, 0, 0, 1, 1, 0, 0, 1, 1, 1, 0, 0] (bodyOf Try.prog 6)) :=
  blockT (p := .none) (fuel := 100) (depth := 10) mixed tabS plsP trivial (fun kd d => r2e F12.f F22.f F23.f F20.f F24.f F25.f F17.f F18.f kd d)
def r3P (x12 : F12.FT) (x22 : F22.FT) (x23 : F23.FT) (x20 : F20.FT) (x24 : F24.FT) (x25 : F25.FT) (x17 : F17.FT) (x18 : F18.FT) : G3 := fun (w, (a0, a1, a2, a3, a4)) () =>
    bif decide (a1 ≥ (0 : Int)) then some (decide (a1 < (↑w.length : Int)), PUnit.unit) else some (false, PUnit.unit)
theorem r3e (x12 : F12.FT) (x22 : F22.FT) (x23 : F23.FT) (x20 : F20.FT) (x24 : F24.FT) (x25 : F25.FT) (x17 : F17.FT) (x18 : F18.FT) (kd : ((List (Bool × Int × List (Int) × List (Int)))) × (Int × Int × Int × Int × List (Int))) (d : Unit) : unitF (tabC Try.prog (tab x12 x22 x23 x20 x24 x25 x17 x18) (pls x12 x22 x23 x20 x24 x25 x17 x18) 100 10) 100 .none (u3 fun _ _ => none) (codeAt [1, 1, 1, 1, 1, 0, 1, 0, 0, 1, 1, 0, 0, 1, 1, 1, 1, 1, 0, 0] (bodyOf Try.prog 6)) kd d = r3P x12 x22 x23 x20 x24 x25 x17 x18 kd d := by kernel_rfl
noncomputable def r3 : G3 := r3P F12.f F22.f F23.f F20.f F24.f F25.f F17.f F18.f
noncomputable def l3 : G3 := r3
theorem ok3 : UnOk Try.prog (u3 l3) (codeAt [1, 1, 1, 1, 1, 0, 1, 0, 0, 1, 1, 0, 0, 1, 1, 1, 1, 1, 0, 0] (bodyOf Try.prog 6)) :=
  blockT (p := .none) (fuel := 100) (depth := 10) mixed tabS plsP trivial (fun kd d => r3e F12.f F22.f F23.f F20.f F24.f F25.f F17.f F18.f kd d)
def r4P (x12 : F12.FT) (x22 : F22.FT) (x23 : F23.FT) (x20 : F20.FT) (x24 : F24.FT) (x25 : F25.FT) (x17 : F17.FT) (x18 : F18.FT) : G4 := fun (w, (a0, a1, a2, a3, a4)) () =>
    bif decide ((0 : Int) ≤ a1 ∧ a1 < (↑w.length : Int) ∧ (0 : Nat) < w.length) then
      bif decide ((0 : Nat) + a1.toNat < w.length) then
       bif decide ((0 : Int) ≤ a1 ∧ a1 < (↑w.length : Int) ∧ (0 : Nat) < w.length) then
       bif decide ((0 : Nat) + a1.toNat < w.length) then
       some
       (((w.getD ((0 : Nat) + a1.toNat) (false, (0 : Int), [], [])).fst,
       (w.getD ((0 : Nat) + a1.toNat) (false, (0 : Int), [], [])).snd.fst),
       PUnit.unit)
       else none
       else none
      else none
    else none
theorem r4e (x12 : F12.FT) (x22 : F22.FT) (x23 : F23.FT) (x20 : F20.FT) (x24 : F24.FT) (x25 : F25.FT) (x17 : F17.FT) (x18 : F18.FT) (kd : ((List (Bool × Int × List (Int) × List (Int)))) × (Int × Int × Int × Int × List (Int))) (d : Unit) : unitF (tabC Try.prog (tab x12 x22 x23 x20 x24 x25 x17 x18) (pls x12 x22 x23 x20 x24 x25 x17 x18) 100 10) 100 .none (u4 fun _ _ => none) (codeAt [1, 1, 1, 1, 1, 0, 1, 0, 0, 1, 1, 0, 0, 1, 1, 1, 1, 1, 0, 1, 0] (bodyOf Try.prog 6)) kd d = r4P x12 x22 x23 x20 x24 x25 x17 x18 kd d := by kernel_rfl
noncomputable def r4 : G4 := r4P F12.f F22.f F23.f F20.f F24.f F25.f F17.f F18.f
noncomputable def l4 : G4 := r4
theorem ok4 : UnOk Try.prog (u4 l4) (codeAt [1, 1, 1, 1, 1, 0, 1, 0, 0, 1, 1, 0, 0, 1, 1, 1, 1, 1, 0, 1, 0] (bodyOf Try.prog 6)) :=
  blockT (p := .none) (fuel := 100) (depth := 10) mixed tabS plsP trivial (fun kd d => r4e F12.f F22.f F23.f F20.f F24.f F25.f F17.f F18.f kd d)
def r5P (x12 : F12.FT) (x22 : F22.FT) (x23 : F23.FT) (x20 : F20.FT) (x24 : F24.FT) (x25 : F25.FT) (x17 : F17.FT) (x18 : F18.FT) : G5 := fun ((a0, a1, a2, a3, a4), up, turn) (n0, n1) =>
    (x17 ((n0, n1), a1)).bind fun r0 =>
      bif !r0.fst == up then some (true, r0.snd) else (x18 (r0.snd, a1)).bind fun r1 => some (r1.fst != turn, r1.snd)
theorem r5e (x12 : F12.FT) (x22 : F22.FT) (x23 : F23.FT) (x20 : F20.FT) (x24 : F24.FT) (x25 : F25.FT) (x17 : F17.FT) (x18 : F18.FT) (kd : (Int × Int × Int × Int × List (Int)) × Bool × Int) (d : ((List (Bool × Int × List (Int) × List (Int))) × Bool)) : unitF (tabC Try.prog (tab x12 x22 x23 x20 x24 x25 x17 x18) (pls x12 x22 x23 x20 x24 x25 x17 x18) 100 10) 100 .none (u5 fun _ _ => none) (codeAt [1, 1, 1, 1, 1, 0, 1, 0, 0, 1, 1, 0, 0, 1, 1, 1, 1, 1, 1, 0] (bodyOf Try.prog 6)) kd d = r5P x12 x22 x23 x20 x24 x25 x17 x18 kd d := by kernel_rfl
noncomputable def r5 : G5 := r5P F12.f F22.f F23.f F20.f F24.f F25.f F17.f F18.f
noncomputable def l5 : G5 := r5
theorem ok5 : UnOk Try.prog (u5 l5) (codeAt [1, 1, 1, 1, 1, 0, 1, 0, 0, 1, 1, 0, 0, 1, 1, 1, 1, 1, 1, 0] (bodyOf Try.prog 6)) :=
  blockT (p := .none) (fuel := 100) (depth := 10) mixed tabS plsP trivial (fun kd d => r5e F12.f F22.f F23.f F20.f F24.f F25.f F17.f F18.f kd d)
def r6P (x12 : F12.FT) (x22 : F22.FT) (x23 : F23.FT) (x20 : F20.FT) (x24 : F24.FT) (x25 : F25.FT) (x17 : F17.FT) (x18 : F18.FT) (l1 : G1) (l2 : G2) (l3 : G3) (l4 : G4) (l5 : G5) : ((List (Int × Int × Int × Int × List (Int))) × Unit × (List (Int × Int × Int × Int × List (Int))) × Int) → (((List (Bool × Int × List (Int) × List (Int))) × Bool) × ((List (Bool × Int × List (Int) × List (Int)))) × (Option ((List (Bool × Int × List (Int) × List (Int))) × Bool)) × (Int × Int × Int) × Int) → Option ((((List (Bool × Int × List (Int) × List (Int))) × Bool) × ((List (Bool × Int × List (Int) × List (Int)))) × (Option ((List (Bool × Int × List (Int) × List (Int))) × Bool)) × (Int × Int × Int) × Int) ⊕ ((Int × Bool × (Option ((List (Bool × Int × List (Int) × List (Int))) × Bool))) × (((List (Bool × Int × List (Int) × List (Int))) × Bool) × ((List (Bool × Int × List (Int) × List (Int)))) × (Int × Int × Int)))) := fun (l, links, t15, t16) ((n0, n1), w, twin, (kept0, kept1, kept2), t17) =>
    bif twin.isSome then
      bif decide (t17 < t16) then
       bif decide ((0 : Int) ≤ t17 ∧ t17 < (↑t15.length : Int) ∧ (0 : Nat) < t15.length) then
       bif decide ((0 : Nat) + t17.toNat < t15.length) then
       bif t17 == (60 : Int) then
       some (Sum.inr (((0 : Int), false, some (twin.getD ([], false))), (n0, n1), w, kept0, kept1, kept2))
       else
       bif decide ((0 : Nat) + l.length ≤ l.length) && true then
       (l1 (List.take l.length l, PUnit.unit, t17)
       ((n0, n1), some (twin.getD ([], false)), kept0, kept1, kept2)).bind
       fun r0 =>
       bif Option.isSome r0.fst then
       bif
       decide
       ((0 : Nat) +
       List.length
       (t15.getD ((0 : Nat) + t17.toNat)
       ((0 : Int), (0 : Int), (0 : Int), (0 : Int), [])).snd.snd.snd.snd ≤
       List.length
       (t15.getD ((0 : Nat) + t17.toNat)
       ((0 : Int), (0 : Int), (0 : Int), (0 : Int), [])).snd.snd.snd.snd) &&
       true then
       (l2
       ((t15.getD ((0 : Nat) + t17.toNat) ((0 : Int), (0 : Int), (0 : Int), (0 : Int), [])).fst,
       (t15.getD ((0 : Nat) + t17.toNat) ((0 : Int), (0 : Int), (0 : Int), (0 : Int), [])).snd.fst,
       (t15.getD ((0 : Nat) + t17.toNat)
       ((0 : Int), (0 : Int), (0 : Int), (0 : Int), [])).snd.snd.fst,
       (t15.getD ((0 : Nat) + t17.toNat)
       ((0 : Int), (0 : Int), (0 : Int), (0 : Int), [])).snd.snd.snd.fst,
       List.take
       (List.length
       (t15.getD ((0 : Nat) + t17.toNat)
       ((0 : Int), (0 : Int), (0 : Int), (0 : Int), [])).snd.snd.snd.snd)
       (List.drop (0 : Nat)
       (t15.getD ((0 : Nat) + t17.toNat)
       ((0 : Int), (0 : Int), (0 : Int), (0 : Int), [])).snd.snd.snd.snd))
       (r0.snd.fst, w)).bind
       fun r1 =>
       bif r1.fst then some (Sum.inr (((1 : Int), false, none), r1.snd.fst, r1.snd.snd, r0.snd.snd))
       else
       bif
       decide
       ((0 : Nat) +
       List.length
       (t15.getD ((0 : Nat) + t17.toNat)
       ((0 : Int), (0 : Int), (0 : Int), (0 : Int), [])).snd.snd.snd.snd ≤
       List.length
       (t15.getD ((0 : Nat) + t17.toNat)
       ((0 : Int), (0 : Int), (0 : Int), (0 : Int), [])).snd.snd.snd.snd) &&
       true then
       (l3
       (r1.snd.snd,
       (t15.getD ((0 : Nat) + t17.toNat)
       ((0 : Int), (0 : Int), (0 : Int), (0 : Int), [])).fst,
       (t15.getD ((0 : Nat) + t17.toNat)
       ((0 : Int), (0 : Int), (0 : Int), (0 : Int), [])).snd.fst,
       (t15.getD ((0 : Nat) + t17.toNat)
       ((0 : Int), (0 : Int), (0 : Int), (0 : Int), [])).snd.snd.fst,
       (t15.getD ((0 : Nat) + t17.toNat)
       ((0 : Int), (0 : Int), (0 : Int), (0 : Int), [])).snd.snd.snd.fst,
       List.take
       (List.length
       (t15.getD ((0 : Nat) + t17.toNat)
       ((0 : Int), (0 : Int), (0 : Int), (0 : Int), [])).snd.snd.snd.snd)
       (List.drop (0 : Nat)
       (t15.getD ((0 : Nat) + t17.toNat)
       ((0 : Int), (0 : Int), (0 : Int), (0 : Int), [])).snd.snd.snd.snd))
       PUnit.unit).bind
       fun r2 =>
       bif r2.fst then
       bif
       decide
       ((0 : Nat) +
       List.length
       (t15.getD ((0 : Nat) + t17.toNat)
       ((0 : Int), (0 : Int), (0 : Int), (0 : Int),
       [])).snd.snd.snd.snd ≤
       List.length
       (t15.getD ((0 : Nat) + t17.toNat)
       ((0 : Int), (0 : Int), (0 : Int), (0 : Int),
       [])).snd.snd.snd.snd) &&
       true then
       (l4
       (r1.snd.snd,
       (t15.getD ((0 : Nat) + t17.toNat)
       ((0 : Int), (0 : Int), (0 : Int), (0 : Int), [])).fst,
       (t15.getD ((0 : Nat) + t17.toNat)
       ((0 : Int), (0 : Int), (0 : Int), (0 : Int), [])).snd.fst,
       (t15.getD ((0 : Nat) + t17.toNat)
       ((0 : Int), (0 : Int), (0 : Int), (0 : Int), [])).snd.snd.fst,
       (t15.getD ((0 : Nat) + t17.toNat)
       ((0 : Int), (0 : Int), (0 : Int), (0 : Int), [])).snd.snd.snd.fst,
       List.take
       (List.length
       (t15.getD ((0 : Nat) + t17.toNat)
       ((0 : Int), (0 : Int), (0 : Int), (0 : Int), [])).snd.snd.snd.snd)
       (List.drop (0 : Nat)
       (t15.getD ((0 : Nat) + t17.toNat)
       ((0 : Int), (0 : Int), (0 : Int), (0 : Int),
       [])).snd.snd.snd.snd))
       PUnit.unit).bind
       fun r3 =>
       bif
       decide
       ((0 : Nat) +
       List.length
       (t15.getD ((0 : Nat) + t17.toNat)
       ((0 : Int), (0 : Int), (0 : Int), (0 : Int),
       [])).snd.snd.snd.snd ≤
       List.length
       (t15.getD ((0 : Nat) + t17.toNat)
       ((0 : Int), (0 : Int), (0 : Int), (0 : Int),
       [])).snd.snd.snd.snd) &&
       true then
       (l5
       (((t15.getD ((0 : Nat) + t17.toNat)
       ((0 : Int), (0 : Int), (0 : Int), (0 : Int), [])).fst,
       (t15.getD ((0 : Nat) + t17.toNat)
       ((0 : Int), (0 : Int), (0 : Int), (0 : Int), [])).snd.fst,
       (t15.getD ((0 : Nat) + t17.toNat)
       ((0 : Int), (0 : Int), (0 : Int), (0 : Int), [])).snd.snd.fst,
       (t15.getD ((0 : Nat) + t17.toNat)
       ((0 : Int), (0 : Int), (0 : Int), (0 : Int),
       [])).snd.snd.snd.fst,
       List.take
       (List.length
       (t15.getD ((0 : Nat) + t17.toNat)
       ((0 : Int), (0 : Int), (0 : Int), (0 : Int),
       [])).snd.snd.snd.snd)
       (List.drop (0 : Nat)
       (t15.getD ((0 : Nat) + t17.toNat)
       ((0 : Int), (0 : Int), (0 : Int), (0 : Int),
       [])).snd.snd.snd.snd)),
       r3.fst.fst, r3.fst.snd)
       r1.snd.fst).bind
       fun r4 =>
       bif r4.fst then
       some (Sum.inr (((1 : Int), false, none), r4.snd, r1.snd.snd, r0.snd.snd))
       else
       some
       (Sum.inl
       (r4.snd, r1.snd.snd, some (Option.getD r0.fst ([], false)), r0.snd.snd,
       IntKind.i64.wrap (t17 + (1 : Int))))
       else none
       else none
       else
       bif
       decide
       ((0 : Nat) +
       List.length
       (t15.getD ((0 : Nat) + t17.toNat)
       ((0 : Int), (0 : Int), (0 : Int), (0 : Int),
       [])).snd.snd.snd.snd ≤
       List.length
       (t15.getD ((0 : Nat) + t17.toNat)
       ((0 : Int), (0 : Int), (0 : Int), (0 : Int),
       [])).snd.snd.snd.snd) &&
       true then
       (l5
       (((t15.getD ((0 : Nat) + t17.toNat)
       ((0 : Int), (0 : Int), (0 : Int), (0 : Int), [])).fst,
       (t15.getD ((0 : Nat) + t17.toNat)
       ((0 : Int), (0 : Int), (0 : Int), (0 : Int), [])).snd.fst,
       (t15.getD ((0 : Nat) + t17.toNat)
       ((0 : Int), (0 : Int), (0 : Int), (0 : Int), [])).snd.snd.fst,
       (t15.getD ((0 : Nat) + t17.toNat)
       ((0 : Int), (0 : Int), (0 : Int), (0 : Int), [])).snd.snd.snd.fst,
       List.take
       (List.length
       (t15.getD ((0 : Nat) + t17.toNat)
       ((0 : Int), (0 : Int), (0 : Int), (0 : Int),
       [])).snd.snd.snd.snd)
       (List.drop (0 : Nat)
       (t15.getD ((0 : Nat) + t17.toNat)
       ((0 : Int), (0 : Int), (0 : Int), (0 : Int),
       [])).snd.snd.snd.snd)),
       false, (0 : Int))
       r1.snd.fst).bind
       fun r3 =>
       bif r3.fst then
       some (Sum.inr (((1 : Int), false, none), r3.snd, r1.snd.snd, r0.snd.snd))
       else
       some
       (Sum.inl
       (r3.snd, r1.snd.snd, some (Option.getD r0.fst ([], false)), r0.snd.snd,
       IntKind.i64.wrap (t17 + (1 : Int))))
       else none
       else none
       else none
       else
       bif
       decide
       ((0 : Nat) +
       List.length
       (t15.getD ((0 : Nat) + t17.toNat)
       ((0 : Int), (0 : Int), (0 : Int), (0 : Int), [])).snd.snd.snd.snd ≤
       List.length
       (t15.getD ((0 : Nat) + t17.toNat)
       ((0 : Int), (0 : Int), (0 : Int), (0 : Int), [])).snd.snd.snd.snd) &&
       true then
       (l2
       ((t15.getD ((0 : Nat) + t17.toNat) ((0 : Int), (0 : Int), (0 : Int), (0 : Int), [])).fst,
       (t15.getD ((0 : Nat) + t17.toNat) ((0 : Int), (0 : Int), (0 : Int), (0 : Int), [])).snd.fst,
       (t15.getD ((0 : Nat) + t17.toNat)
       ((0 : Int), (0 : Int), (0 : Int), (0 : Int), [])).snd.snd.fst,
       (t15.getD ((0 : Nat) + t17.toNat)
       ((0 : Int), (0 : Int), (0 : Int), (0 : Int), [])).snd.snd.snd.fst,
       List.take
       (List.length
       (t15.getD ((0 : Nat) + t17.toNat)
       ((0 : Int), (0 : Int), (0 : Int), (0 : Int), [])).snd.snd.snd.snd)
       (List.drop (0 : Nat)
       (t15.getD ((0 : Nat) + t17.toNat)
       ((0 : Int), (0 : Int), (0 : Int), (0 : Int), [])).snd.snd.snd.snd))
       (r0.snd.fst, w)).bind
       fun r1 =>
       bif r1.fst then some (Sum.inr (((1 : Int), false, none), r1.snd.fst, r1.snd.snd, r0.snd.snd))
       else
       bif
       decide
       ((0 : Nat) +
       List.length
       (t15.getD ((0 : Nat) + t17.toNat)
       ((0 : Int), (0 : Int), (0 : Int), (0 : Int), [])).snd.snd.snd.snd ≤
       List.length
       (t15.getD ((0 : Nat) + t17.toNat)
       ((0 : Int), (0 : Int), (0 : Int), (0 : Int), [])).snd.snd.snd.snd) &&
       true then
       (l3
       (r1.snd.snd,
       (t15.getD ((0 : Nat) + t17.toNat)
       ((0 : Int), (0 : Int), (0 : Int), (0 : Int), [])).fst,
       (t15.getD ((0 : Nat) + t17.toNat)
       ((0 : Int), (0 : Int), (0 : Int), (0 : Int), [])).snd.fst,
       (t15.getD ((0 : Nat) + t17.toNat)
       ((0 : Int), (0 : Int), (0 : Int), (0 : Int), [])).snd.snd.fst,
       (t15.getD ((0 : Nat) + t17.toNat)
       ((0 : Int), (0 : Int), (0 : Int), (0 : Int), [])).snd.snd.snd.fst,
       List.take
       (List.length
       (t15.getD ((0 : Nat) + t17.toNat)
       ((0 : Int), (0 : Int), (0 : Int), (0 : Int), [])).snd.snd.snd.snd)
       (List.drop (0 : Nat)
       (t15.getD ((0 : Nat) + t17.toNat)
       ((0 : Int), (0 : Int), (0 : Int), (0 : Int), [])).snd.snd.snd.snd))
       PUnit.unit).bind
       fun r2 =>
       bif r2.fst then
       bif
       decide
       ((0 : Nat) +
       List.length
       (t15.getD ((0 : Nat) + t17.toNat)
       ((0 : Int), (0 : Int), (0 : Int), (0 : Int),
       [])).snd.snd.snd.snd ≤
       List.length
       (t15.getD ((0 : Nat) + t17.toNat)
       ((0 : Int), (0 : Int), (0 : Int), (0 : Int),
       [])).snd.snd.snd.snd) &&
       true then
       (l4
       (r1.snd.snd,
       (t15.getD ((0 : Nat) + t17.toNat)
       ((0 : Int), (0 : Int), (0 : Int), (0 : Int), [])).fst,
       (t15.getD ((0 : Nat) + t17.toNat)
       ((0 : Int), (0 : Int), (0 : Int), (0 : Int), [])).snd.fst,
       (t15.getD ((0 : Nat) + t17.toNat)
       ((0 : Int), (0 : Int), (0 : Int), (0 : Int), [])).snd.snd.fst,
       (t15.getD ((0 : Nat) + t17.toNat)
       ((0 : Int), (0 : Int), (0 : Int), (0 : Int), [])).snd.snd.snd.fst,
       List.take
       (List.length
       (t15.getD ((0 : Nat) + t17.toNat)
       ((0 : Int), (0 : Int), (0 : Int), (0 : Int), [])).snd.snd.snd.snd)
       (List.drop (0 : Nat)
       (t15.getD ((0 : Nat) + t17.toNat)
       ((0 : Int), (0 : Int), (0 : Int), (0 : Int),
       [])).snd.snd.snd.snd))
       PUnit.unit).bind
       fun r3 =>
       bif
       decide
       ((0 : Nat) +
       List.length
       (t15.getD ((0 : Nat) + t17.toNat)
       ((0 : Int), (0 : Int), (0 : Int), (0 : Int),
       [])).snd.snd.snd.snd ≤
       List.length
       (t15.getD ((0 : Nat) + t17.toNat)
       ((0 : Int), (0 : Int), (0 : Int), (0 : Int),
       [])).snd.snd.snd.snd) &&
       true then
       (l5
       (((t15.getD ((0 : Nat) + t17.toNat)
       ((0 : Int), (0 : Int), (0 : Int), (0 : Int), [])).fst,
       (t15.getD ((0 : Nat) + t17.toNat)
       ((0 : Int), (0 : Int), (0 : Int), (0 : Int), [])).snd.fst,
       (t15.getD ((0 : Nat) + t17.toNat)
       ((0 : Int), (0 : Int), (0 : Int), (0 : Int), [])).snd.snd.fst,
       (t15.getD ((0 : Nat) + t17.toNat)
       ((0 : Int), (0 : Int), (0 : Int), (0 : Int),
       [])).snd.snd.snd.fst,
       List.take
       (List.length
       (t15.getD ((0 : Nat) + t17.toNat)
       ((0 : Int), (0 : Int), (0 : Int), (0 : Int),
       [])).snd.snd.snd.snd)
       (List.drop (0 : Nat)
       (t15.getD ((0 : Nat) + t17.toNat)
       ((0 : Int), (0 : Int), (0 : Int), (0 : Int),
       [])).snd.snd.snd.snd)),
       r3.fst.fst, r3.fst.snd)
       r1.snd.fst).bind
       fun r4 =>
       bif r4.fst then
       some (Sum.inr (((1 : Int), false, none), r4.snd, r1.snd.snd, r0.snd.snd))
       else
       some
       (Sum.inl
       (r4.snd, r1.snd.snd, none, r0.snd.snd, IntKind.i64.wrap (t17 + (1 : Int))))
       else none
       else none
       else
       bif
       decide
       ((0 : Nat) +
       List.length
       (t15.getD ((0 : Nat) + t17.toNat)
       ((0 : Int), (0 : Int), (0 : Int), (0 : Int),
       [])).snd.snd.snd.snd ≤
       List.length
       (t15.getD ((0 : Nat) + t17.toNat)
       ((0 : Int), (0 : Int), (0 : Int), (0 : Int),
       [])).snd.snd.snd.snd) &&
       true then
       (l5
       (((t15.getD ((0 : Nat) + t17.toNat)
       ((0 : Int), (0 : Int), (0 : Int), (0 : Int), [])).fst,
       (t15.getD ((0 : Nat) + t17.toNat)
       ((0 : Int), (0 : Int), (0 : Int), (0 : Int), [])).snd.fst,
       (t15.getD ((0 : Nat) + t17.toNat)
       ((0 : Int), (0 : Int), (0 : Int), (0 : Int), [])).snd.snd.fst,
       (t15.getD ((0 : Nat) + t17.toNat)
       ((0 : Int), (0 : Int), (0 : Int), (0 : Int), [])).snd.snd.snd.fst,
       List.take
       (List.length
       (t15.getD ((0 : Nat) + t17.toNat)
       ((0 : Int), (0 : Int), (0 : Int), (0 : Int),
       [])).snd.snd.snd.snd)
       (List.drop (0 : Nat)
       (t15.getD ((0 : Nat) + t17.toNat)
       ((0 : Int), (0 : Int), (0 : Int), (0 : Int),
       [])).snd.snd.snd.snd)),
       false, (0 : Int))
       r1.snd.fst).bind
       fun r3 =>
       bif r3.fst then
       some (Sum.inr (((1 : Int), false, none), r3.snd, r1.snd.snd, r0.snd.snd))
       else
       some
       (Sum.inl
       (r3.snd, r1.snd.snd, none, r0.snd.snd, IntKind.i64.wrap (t17 + (1 : Int))))
       else none
       else none
       else none
       else none
       else none
       else none
      else some (Sum.inr (((0 : Int), false, some (twin.getD ([], false))), (n0, n1), w, kept0, kept1, kept2))
    else
      bif decide (t17 < t16) then
       bif decide ((0 : Int) ≤ t17 ∧ t17 < (↑t15.length : Int) ∧ (0 : Nat) < t15.length) then
       bif decide ((0 : Nat) + t17.toNat < t15.length) then
       bif t17 == (60 : Int) then some (Sum.inr (((0 : Int), false, none), (n0, n1), w, kept0, kept1, kept2))
       else
       bif decide ((0 : Nat) + l.length ≤ l.length) && true then
       (l1 (List.take l.length l, PUnit.unit, t17) ((n0, n1), none, kept0, kept1, kept2)).bind fun r0 =>
       bif Option.isSome r0.fst then
       bif
       decide
       ((0 : Nat) +
       List.length
       (t15.getD ((0 : Nat) + t17.toNat)
       ((0 : Int), (0 : Int), (0 : Int), (0 : Int), [])).snd.snd.snd.snd ≤
       List.length
       (t15.getD ((0 : Nat) + t17.toNat)
       ((0 : Int), (0 : Int), (0 : Int), (0 : Int), [])).snd.snd.snd.snd) &&
       true then
       (l2
       ((t15.getD ((0 : Nat) + t17.toNat) ((0 : Int), (0 : Int), (0 : Int), (0 : Int), [])).fst,
       (t15.getD ((0 : Nat) + t17.toNat) ((0 : Int), (0 : Int), (0 : Int), (0 : Int), [])).snd.fst,
       (t15.getD ((0 : Nat) + t17.toNat)
       ((0 : Int), (0 : Int), (0 : Int), (0 : Int), [])).snd.snd.fst,
       (t15.getD ((0 : Nat) + t17.toNat)
       ((0 : Int), (0 : Int), (0 : Int), (0 : Int), [])).snd.snd.snd.fst,
       List.take
       (List.length
       (t15.getD ((0 : Nat) + t17.toNat)
       ((0 : Int), (0 : Int), (0 : Int), (0 : Int), [])).snd.snd.snd.snd)
       (List.drop (0 : Nat)
       (t15.getD ((0 : Nat) + t17.toNat)
       ((0 : Int), (0 : Int), (0 : Int), (0 : Int), [])).snd.snd.snd.snd))
       (r0.snd.fst, w)).bind
       fun r1 =>
       bif r1.fst then some (Sum.inr (((1 : Int), false, none), r1.snd.fst, r1.snd.snd, r0.snd.snd))
       else
       bif
       decide
       ((0 : Nat) +
       List.length
       (t15.getD ((0 : Nat) + t17.toNat)
       ((0 : Int), (0 : Int), (0 : Int), (0 : Int), [])).snd.snd.snd.snd ≤
       List.length
       (t15.getD ((0 : Nat) + t17.toNat)
       ((0 : Int), (0 : Int), (0 : Int), (0 : Int), [])).snd.snd.snd.snd) &&
       true then
       (l3
       (r1.snd.snd,
       (t15.getD ((0 : Nat) + t17.toNat)
       ((0 : Int), (0 : Int), (0 : Int), (0 : Int), [])).fst,
       (t15.getD ((0 : Nat) + t17.toNat)
       ((0 : Int), (0 : Int), (0 : Int), (0 : Int), [])).snd.fst,
       (t15.getD ((0 : Nat) + t17.toNat)
       ((0 : Int), (0 : Int), (0 : Int), (0 : Int), [])).snd.snd.fst,
       (t15.getD ((0 : Nat) + t17.toNat)
       ((0 : Int), (0 : Int), (0 : Int), (0 : Int), [])).snd.snd.snd.fst,
       List.take
       (List.length
       (t15.getD ((0 : Nat) + t17.toNat)
       ((0 : Int), (0 : Int), (0 : Int), (0 : Int), [])).snd.snd.snd.snd)
       (List.drop (0 : Nat)
       (t15.getD ((0 : Nat) + t17.toNat)
       ((0 : Int), (0 : Int), (0 : Int), (0 : Int), [])).snd.snd.snd.snd))
       PUnit.unit).bind
       fun r2 =>
       bif r2.fst then
       bif
       decide
       ((0 : Nat) +
       List.length
       (t15.getD ((0 : Nat) + t17.toNat)
       ((0 : Int), (0 : Int), (0 : Int), (0 : Int),
       [])).snd.snd.snd.snd ≤
       List.length
       (t15.getD ((0 : Nat) + t17.toNat)
       ((0 : Int), (0 : Int), (0 : Int), (0 : Int),
       [])).snd.snd.snd.snd) &&
       true then
       (l4
       (r1.snd.snd,
       (t15.getD ((0 : Nat) + t17.toNat)
       ((0 : Int), (0 : Int), (0 : Int), (0 : Int), [])).fst,
       (t15.getD ((0 : Nat) + t17.toNat)
       ((0 : Int), (0 : Int), (0 : Int), (0 : Int), [])).snd.fst,
       (t15.getD ((0 : Nat) + t17.toNat)
       ((0 : Int), (0 : Int), (0 : Int), (0 : Int), [])).snd.snd.fst,
       (t15.getD ((0 : Nat) + t17.toNat)
       ((0 : Int), (0 : Int), (0 : Int), (0 : Int), [])).snd.snd.snd.fst,
       List.take
       (List.length
       (t15.getD ((0 : Nat) + t17.toNat)
       ((0 : Int), (0 : Int), (0 : Int), (0 : Int), [])).snd.snd.snd.snd)
       (List.drop (0 : Nat)
       (t15.getD ((0 : Nat) + t17.toNat)
       ((0 : Int), (0 : Int), (0 : Int), (0 : Int),
       [])).snd.snd.snd.snd))
       PUnit.unit).bind
       fun r3 =>
       bif
       decide
       ((0 : Nat) +
       List.length
       (t15.getD ((0 : Nat) + t17.toNat)
       ((0 : Int), (0 : Int), (0 : Int), (0 : Int),
       [])).snd.snd.snd.snd ≤
       List.length
       (t15.getD ((0 : Nat) + t17.toNat)
       ((0 : Int), (0 : Int), (0 : Int), (0 : Int),
       [])).snd.snd.snd.snd) &&
       true then
       (l5
       (((t15.getD ((0 : Nat) + t17.toNat)
       ((0 : Int), (0 : Int), (0 : Int), (0 : Int), [])).fst,
       (t15.getD ((0 : Nat) + t17.toNat)
       ((0 : Int), (0 : Int), (0 : Int), (0 : Int), [])).snd.fst,
       (t15.getD ((0 : Nat) + t17.toNat)
       ((0 : Int), (0 : Int), (0 : Int), (0 : Int), [])).snd.snd.fst,
       (t15.getD ((0 : Nat) + t17.toNat)
       ((0 : Int), (0 : Int), (0 : Int), (0 : Int),
       [])).snd.snd.snd.fst,
       List.take
       (List.length
       (t15.getD ((0 : Nat) + t17.toNat)
       ((0 : Int), (0 : Int), (0 : Int), (0 : Int),
       [])).snd.snd.snd.snd)
       (List.drop (0 : Nat)
       (t15.getD ((0 : Nat) + t17.toNat)
       ((0 : Int), (0 : Int), (0 : Int), (0 : Int),
       [])).snd.snd.snd.snd)),
       r3.fst.fst, r3.fst.snd)
       r1.snd.fst).bind
       fun r4 =>
       bif r4.fst then
       some (Sum.inr (((1 : Int), false, none), r4.snd, r1.snd.snd, r0.snd.snd))
       else
       some
       (Sum.inl
       (r4.snd, r1.snd.snd, some (Option.getD r0.fst ([], false)), r0.snd.snd,
       IntKind.i64.wrap (t17 + (1 : Int))))
       else none
       else none
       else
       bif
       decide
       ((0 : Nat) +
       List.length
       (t15.getD ((0 : Nat) + t17.toNat)
       ((0 : Int), (0 : Int), (0 : Int), (0 : Int),
       [])).snd.snd.snd.snd ≤
       List.length
       (t15.getD ((0 : Nat) + t17.toNat)
       ((0 : Int), (0 : Int), (0 : Int), (0 : Int),
       [])).snd.snd.snd.snd) &&
       true then
       (l5
       (((t15.getD ((0 : Nat) + t17.toNat)
       ((0 : Int), (0 : Int), (0 : Int), (0 : Int), [])).fst,
       (t15.getD ((0 : Nat) + t17.toNat)
       ((0 : Int), (0 : Int), (0 : Int), (0 : Int), [])).snd.fst,
       (t15.getD ((0 : Nat) + t17.toNat)
       ((0 : Int), (0 : Int), (0 : Int), (0 : Int), [])).snd.snd.fst,
       (t15.getD ((0 : Nat) + t17.toNat)
       ((0 : Int), (0 : Int), (0 : Int), (0 : Int), [])).snd.snd.snd.fst,
       List.take
       (List.length
       (t15.getD ((0 : Nat) + t17.toNat)
       ((0 : Int), (0 : Int), (0 : Int), (0 : Int),
       [])).snd.snd.snd.snd)
       (List.drop (0 : Nat)
       (t15.getD ((0 : Nat) + t17.toNat)
       ((0 : Int), (0 : Int), (0 : Int), (0 : Int),
       [])).snd.snd.snd.snd)),
       false, (0 : Int))
       r1.snd.fst).bind
       fun r3 =>
       bif r3.fst then
       some (Sum.inr (((1 : Int), false, none), r3.snd, r1.snd.snd, r0.snd.snd))
       else
       some
       (Sum.inl
       (r3.snd, r1.snd.snd, some (Option.getD r0.fst ([], false)), r0.snd.snd,
       IntKind.i64.wrap (t17 + (1 : Int))))
       else none
       else none
       else none
       else
       bif
       decide
       ((0 : Nat) +
       List.length
       (t15.getD ((0 : Nat) + t17.toNat)
       ((0 : Int), (0 : Int), (0 : Int), (0 : Int), [])).snd.snd.snd.snd ≤
       List.length
       (t15.getD ((0 : Nat) + t17.toNat)
       ((0 : Int), (0 : Int), (0 : Int), (0 : Int), [])).snd.snd.snd.snd) &&
       true then
       (l2
       ((t15.getD ((0 : Nat) + t17.toNat) ((0 : Int), (0 : Int), (0 : Int), (0 : Int), [])).fst,
       (t15.getD ((0 : Nat) + t17.toNat) ((0 : Int), (0 : Int), (0 : Int), (0 : Int), [])).snd.fst,
       (t15.getD ((0 : Nat) + t17.toNat)
       ((0 : Int), (0 : Int), (0 : Int), (0 : Int), [])).snd.snd.fst,
       (t15.getD ((0 : Nat) + t17.toNat)
       ((0 : Int), (0 : Int), (0 : Int), (0 : Int), [])).snd.snd.snd.fst,
       List.take
       (List.length
       (t15.getD ((0 : Nat) + t17.toNat)
       ((0 : Int), (0 : Int), (0 : Int), (0 : Int), [])).snd.snd.snd.snd)
       (List.drop (0 : Nat)
       (t15.getD ((0 : Nat) + t17.toNat)
       ((0 : Int), (0 : Int), (0 : Int), (0 : Int), [])).snd.snd.snd.snd))
       (r0.snd.fst, w)).bind
       fun r1 =>
       bif r1.fst then some (Sum.inr (((1 : Int), false, none), r1.snd.fst, r1.snd.snd, r0.snd.snd))
       else
       bif
       decide
       ((0 : Nat) +
       List.length
       (t15.getD ((0 : Nat) + t17.toNat)
       ((0 : Int), (0 : Int), (0 : Int), (0 : Int), [])).snd.snd.snd.snd ≤
       List.length
       (t15.getD ((0 : Nat) + t17.toNat)
       ((0 : Int), (0 : Int), (0 : Int), (0 : Int), [])).snd.snd.snd.snd) &&
       true then
       (l3
       (r1.snd.snd,
       (t15.getD ((0 : Nat) + t17.toNat)
       ((0 : Int), (0 : Int), (0 : Int), (0 : Int), [])).fst,
       (t15.getD ((0 : Nat) + t17.toNat)
       ((0 : Int), (0 : Int), (0 : Int), (0 : Int), [])).snd.fst,
       (t15.getD ((0 : Nat) + t17.toNat)
       ((0 : Int), (0 : Int), (0 : Int), (0 : Int), [])).snd.snd.fst,
       (t15.getD ((0 : Nat) + t17.toNat)
       ((0 : Int), (0 : Int), (0 : Int), (0 : Int), [])).snd.snd.snd.fst,
       List.take
       (List.length
       (t15.getD ((0 : Nat) + t17.toNat)
       ((0 : Int), (0 : Int), (0 : Int), (0 : Int), [])).snd.snd.snd.snd)
       (List.drop (0 : Nat)
       (t15.getD ((0 : Nat) + t17.toNat)
       ((0 : Int), (0 : Int), (0 : Int), (0 : Int), [])).snd.snd.snd.snd))
       PUnit.unit).bind
       fun r2 =>
       bif r2.fst then
       bif
       decide
       ((0 : Nat) +
       List.length
       (t15.getD ((0 : Nat) + t17.toNat)
       ((0 : Int), (0 : Int), (0 : Int), (0 : Int),
       [])).snd.snd.snd.snd ≤
       List.length
       (t15.getD ((0 : Nat) + t17.toNat)
       ((0 : Int), (0 : Int), (0 : Int), (0 : Int),
       [])).snd.snd.snd.snd) &&
       true then
       (l4
       (r1.snd.snd,
       (t15.getD ((0 : Nat) + t17.toNat)
       ((0 : Int), (0 : Int), (0 : Int), (0 : Int), [])).fst,
       (t15.getD ((0 : Nat) + t17.toNat)
       ((0 : Int), (0 : Int), (0 : Int), (0 : Int), [])).snd.fst,
       (t15.getD ((0 : Nat) + t17.toNat)
       ((0 : Int), (0 : Int), (0 : Int), (0 : Int), [])).snd.snd.fst,
       (t15.getD ((0 : Nat) + t17.toNat)
       ((0 : Int), (0 : Int), (0 : Int), (0 : Int), [])).snd.snd.snd.fst,
       List.take
       (List.length
       (t15.getD ((0 : Nat) + t17.toNat)
       ((0 : Int), (0 : Int), (0 : Int), (0 : Int), [])).snd.snd.snd.snd)
       (List.drop (0 : Nat)
       (t15.getD ((0 : Nat) + t17.toNat)
       ((0 : Int), (0 : Int), (0 : Int), (0 : Int),
       [])).snd.snd.snd.snd))
       PUnit.unit).bind
       fun r3 =>
       bif
       decide
       ((0 : Nat) +
       List.length
       (t15.getD ((0 : Nat) + t17.toNat)
       ((0 : Int), (0 : Int), (0 : Int), (0 : Int),
       [])).snd.snd.snd.snd ≤
       List.length
       (t15.getD ((0 : Nat) + t17.toNat)
       ((0 : Int), (0 : Int), (0 : Int), (0 : Int),
       [])).snd.snd.snd.snd) &&
       true then
       (l5
       (((t15.getD ((0 : Nat) + t17.toNat)
       ((0 : Int), (0 : Int), (0 : Int), (0 : Int), [])).fst,
       (t15.getD ((0 : Nat) + t17.toNat)
       ((0 : Int), (0 : Int), (0 : Int), (0 : Int), [])).snd.fst,
       (t15.getD ((0 : Nat) + t17.toNat)
       ((0 : Int), (0 : Int), (0 : Int), (0 : Int), [])).snd.snd.fst,
       (t15.getD ((0 : Nat) + t17.toNat)
       ((0 : Int), (0 : Int), (0 : Int), (0 : Int),
       [])).snd.snd.snd.fst,
       List.take
       (List.length
       (t15.getD ((0 : Nat) + t17.toNat)
       ((0 : Int), (0 : Int), (0 : Int), (0 : Int),
       [])).snd.snd.snd.snd)
       (List.drop (0 : Nat)
       (t15.getD ((0 : Nat) + t17.toNat)
       ((0 : Int), (0 : Int), (0 : Int), (0 : Int),
       [])).snd.snd.snd.snd)),
       r3.fst.fst, r3.fst.snd)
       r1.snd.fst).bind
       fun r4 =>
       bif r4.fst then
       some (Sum.inr (((1 : Int), false, none), r4.snd, r1.snd.snd, r0.snd.snd))
       else
       some
       (Sum.inl
       (r4.snd, r1.snd.snd, none, r0.snd.snd, IntKind.i64.wrap (t17 + (1 : Int))))
       else none
       else none
       else
       bif
       decide
       ((0 : Nat) +
       List.length
       (t15.getD ((0 : Nat) + t17.toNat)
       ((0 : Int), (0 : Int), (0 : Int), (0 : Int),
       [])).snd.snd.snd.snd ≤
       List.length
       (t15.getD ((0 : Nat) + t17.toNat)
       ((0 : Int), (0 : Int), (0 : Int), (0 : Int),
       [])).snd.snd.snd.snd) &&
       true then
       (l5
       (((t15.getD ((0 : Nat) + t17.toNat)
       ((0 : Int), (0 : Int), (0 : Int), (0 : Int), [])).fst,
       (t15.getD ((0 : Nat) + t17.toNat)
       ((0 : Int), (0 : Int), (0 : Int), (0 : Int), [])).snd.fst,
       (t15.getD ((0 : Nat) + t17.toNat)
       ((0 : Int), (0 : Int), (0 : Int), (0 : Int), [])).snd.snd.fst,
       (t15.getD ((0 : Nat) + t17.toNat)
       ((0 : Int), (0 : Int), (0 : Int), (0 : Int), [])).snd.snd.snd.fst,
       List.take
       (List.length
       (t15.getD ((0 : Nat) + t17.toNat)
       ((0 : Int), (0 : Int), (0 : Int), (0 : Int),
       [])).snd.snd.snd.snd)
       (List.drop (0 : Nat)
       (t15.getD ((0 : Nat) + t17.toNat)
       ((0 : Int), (0 : Int), (0 : Int), (0 : Int),
       [])).snd.snd.snd.snd)),
       false, (0 : Int))
       r1.snd.fst).bind
       fun r3 =>
       bif r3.fst then
       some (Sum.inr (((1 : Int), false, none), r3.snd, r1.snd.snd, r0.snd.snd))
       else
       some
       (Sum.inl
       (r3.snd, r1.snd.snd, none, r0.snd.snd, IntKind.i64.wrap (t17 + (1 : Int))))
       else none
       else none
       else none
       else none
       else none
       else none
      else some (Sum.inr (((0 : Int), false, none), (n0, n1), w, kept0, kept1, kept2))
theorem r6e (x12 : F12.FT) (x22 : F22.FT) (x23 : F23.FT) (x20 : F20.FT) (x24 : F24.FT) (x25 : F25.FT) (x17 : F17.FT) (x18 : F18.FT) (l1 : G1) (l2 : G2) (l3 : G3) (l4 : G4) (l5 : G5) (kd : (List (Int × Int × Int × Int × List (Int))) × Unit × (List (Int × Int × Int × Int × List (Int))) × Int) (d : ((List (Bool × Int × List (Int) × List (Int))) × Bool) × ((List (Bool × Int × List (Int) × List (Int)))) × (Option ((List (Bool × Int × List (Int) × List (Int))) × Bool)) × (Int × Int × Int) × Int) : roundF (tabC Try.prog (tab x12 x22 x23 x20 x24 x25 x17 x18) (pls x12 x22 x23 x20 x24 x25 x17 x18) 100 10) 100 (.node .none (.node .none (.node (.node (.node .none (.node .none (.node (.unit (u1 l1)) (.node (.node (.unit (u2 l2)) .none) (.node .none (.node (.node (.unit (u3 l3)) (.node (.unit (u4 l4)) .none)) (.node (.unit (u5 l5)) .none))))))) .none) .none))) (u6 fun _ _ => none) (codeAt [1, 1, 1, 1, 1, 0, 1, 0, 0] (bodyOf Try.prog 6)) kd d = r6P x12 x22 x23 x20 x24 x25 x17 x18 l1 l2 l3 l4 l5 kd d := by kernel_rfl
noncomputable def r6 : ((List (Int × Int × Int × Int × List (Int))) × Unit × (List (Int × Int × Int × Int × List (Int))) × Int) → (((List (Bool × Int × List (Int) × List (Int))) × Bool) × ((List (Bool × Int × List (Int) × List (Int)))) × (Option ((List (Bool × Int × List (Int) × List (Int))) × Bool)) × (Int × Int × Int) × Int) → Option ((((List (Bool × Int × List (Int) × List (Int))) × Bool) × ((List (Bool × Int × List (Int) × List (Int)))) × (Option ((List (Bool × Int × List (Int) × List (Int))) × Bool)) × (Int × Int × Int) × Int) ⊕ ((Int × Bool × (Option ((List (Bool × Int × List (Int) × List (Int))) × Bool))) × (((List (Bool × Int × List (Int) × List (Int))) × Bool) × ((List (Bool × Int × List (Int) × List (Int)))) × (Int × Int × Int)))) := r6P F12.f F22.f F23.f F20.f F24.f F25.f F17.f F18.f l1 l2 l3 l4 l5
noncomputable def l6 : G6 := fun kd d => iterO (r6 kd) d
theorem ok6 : UnOk Try.prog (u6 l6) (codeAt [1, 1, 1, 1, 1, 0, 1, 0] (bodyOf Try.prog 6)) :=
  loopT (p := (.node .none (.node .none (.node (.node (.node .none (.node .none (.node (.unit (u1 l1)) (.node (.node (.unit (u2 l2)) .none) (.node .none (.node (.node (.unit (u3 l3)) (.node (.unit (u4 l4)) .none)) (.node (.unit (u5 l5)) .none))))))) .none) .none)))) (c := codeAt [1, 1, 1, 1, 1, 0, 1, 0, 0] (bodyOf Try.prog 6)) (fuel := 100) (depth := 10) mixed tabS plsP (by kernel_rfl) (planOk_of (.node .none (.node .none (.node (.node (.node .none (.node .none (.node (.unit (u1 l1)) (.node (.node (.unit (u2 l2)) .none) (.node .none (.node (.node (.unit (u3 l3)) (.node (.unit (u4 l4)) .none)) (.node (.unit (u5 l5)) .none))))))) .none) .none))) _ [([1, 1, 0, 0, 1, 1, 0], u1 l1), ([1, 1, 0, 0, 1, 1, 1, 0, 0], u2 l2), ([1, 1, 0, 0, 1, 1, 1, 1, 1, 0, 0], u3 l3), ([1, 1, 0, 0, 1, 1, 1, 1, 1, 0, 1, 0], u4 l4), ([1, 1, 0, 0, 1, 1, 1, 1, 1, 1, 0], u5 l5)] rfl ⟨ok1, ok2, ok3, ok4, ok5, trivial⟩) (by kernel_rfl) (fun kd d => r6e F12.f F22.f F23.f F20.f F24.f F25.f F17.f F18.f l1 l2 l3 l4 l5 kd d) rfl
def fP (x12 : F12.FT) (x22 : F22.FT) (x23 : F23.FT) (x20 : F20.FT) (x24 : F24.FT) (x25 : F25.FT) (x17 : F17.FT) (x18 : F18.FT) (l6 : G6) : FT := fun l =>
    bif decide ((0 : Nat) + l.length ≤ l.length) && true then
      bif decide ((0 : Nat) + l.length ≤ l.length) && true then
       (l6 (List.take l.length l, PUnit.unit, List.take l.length l, (↑l.length : Int))
       (([], true), [], none, ((0 : Int), (0 : Int), (0 : Int)), (0 : Int))).bind
       fun r0 =>
       bif Option.isSome r0.fst.snd.snd then
       bif decide (r0.fst.fst = (0 : Int)) then
       bif
       decide
       ((0 : Nat) + (Option.getD r0.fst.snd.snd ([], false)).fst.length ≤
       (Option.getD r0.fst.snd.snd ([], false)).fst.length) &&
       true then
       (x12
       ((List.take (Option.getD r0.fst.snd.snd ([], false)).fst.length
       (List.drop (0 : Nat) (Option.getD r0.fst.snd.snd ([], false)).fst),
       (Option.getD r0.fst.snd.snd ([], false)).snd),
       (0 : Int), (0 : Int))).bind
       fun r1 =>
       (x12 (r1.snd, (0 : Int), (1 : Int))).bind fun r2 =>
       bif
       (↑(Option.getD r0.fst.snd.snd ([], false)).fst.length : Int) == r0.snd.snd.snd.fst &&
       (r1.fst == r0.snd.snd.snd.snd.fst && (r2.fst == r0.snd.snd.snd.snd.snd && true)) then
       some (true, PUnit.unit)
       else some (false, PUnit.unit)
       else none
       else bif decide (r0.fst.fst = (1 : Int)) then some (r0.fst.snd.fst, PUnit.unit) else none
       else
       bif decide (r0.fst.fst = (0 : Int)) then some (true, PUnit.unit)
       else bif decide (r0.fst.fst = (1 : Int)) then some (r0.fst.snd.fst, PUnit.unit) else none
      else none
    else none
theorem fe (x12 : F12.FT) (x22 : F22.FT) (x23 : F23.FT) (x20 : F20.FT) (x24 : F24.FT) (x25 : F25.FT) (x17 : F17.FT) (x18 : F18.FT) (l6 : G6) (d : (List (Int × Int × Int × Int × List (Int)))) : bodyF (tabC Try.prog (tab x12 x22 x23 x20 x24 x25 x17 x18) ((6, (.node .none (.node .none (.node .none (.node .none (.node .none (.node (.node .none (.node (.unit (u6 l6)) .none)) .none))))))) :: pls x12 x22 x23 x20 x24 x25 x17 x18) 100 10) 100 6 i o d = fP x12 x22 x23 x20 x24 x25 x17 x18 l6 d := by kernel_rfl
noncomputable def f : FT := fP F12.f F22.f F23.f F20.f F24.f F25.f F17.f F18.f l6
def plan (l6 : G6) : Plan := (.node .none (.node .none (.node .none (.node .none (.node .none (.node (.node .none (.node (.unit (u6 l6)) .none)) .none))))))
theorem planOk : PlanOk Try.prog (plan l6) (bodyOf Try.prog 6) := (planOk_of (plan l6) _ [([1, 1, 1, 1, 1, 0, 1, 0], u6 l6)] rfl ⟨ok6, trivial⟩)
theorem meets : MeetsF Try.prog 6 ⟨i, o, f⟩ :=
  funcT (fuel := 100) (depth := 10) (pl := (6, plan l6) :: pls F12.f F22.f F23.f F20.f F24.f F25.f F17.f F18.f) mixed tabS ⟨planOk, plsP⟩ (fun d => fe F12.f F22.f F23.f F20.f F24.f F25.f F17.f F18.f l6 d)
theorem spec : SpecOk Try.prog (fun _ => none) 6 (specF ⟨i, o, f⟩) := specF_ok (by kernel_rfl) meets
end Go.Proofs.Yteoiaihjapddoaa.F6
