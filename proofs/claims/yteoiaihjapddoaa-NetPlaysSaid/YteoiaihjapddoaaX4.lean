/- What comes of function 35 of this program, (*consulate.consulateref29.Net).Deliver, as the engine gives it. -/
import Derived.Test.YteoiaihjapddoaaChecked
import Derived.Test.YteoiaihjapddoaaZO
import Derived.Test.YteoiaihjapddoaaX1
import Derived.Test.YteoiaihjapddoaaX3
import Derived.Test.YteoiaihjapddoaaX2
namespace Go.Proofs.Yteoiaihjapddoaa.F35
open Go Go.Proofs Go.Proofs.Yteoiaihjapddoaa Go.RowKit Go.Proofs.Yteoiaihjapddoaa.Sx
set_option linter.unusedVariables false
set_option maxRecDepth 100000
def tab : List (FuncId × Sx.Spec) := []
def pls : List (FuncId × Plan) := []
@[reducible] def k1 : Sh := .sc (.int .i64) (.sl false 5 (.sc (.int .u8) .nil) .nil)
@[reducible] def i1 : Sh := .sl true 5 (.sc (.int .u8) .nil) (.sl true 5 (.sc (.int .u8) .nil) (.sc (.int .i64) .nil))
@[reducible] def o1 : Sh := .sl true 5 (.sc (.int .u8) .nil) (.sl true 5 (.sc (.int .u8) .nil) .nil)
abbrev G1 := (Int × List (Int)) → (List (Int) × List (Int) × Int) → Option ((List (Int) × List (Int)) × Unit)
def u1 (F : G1) : Un := ⟨81, [3, 12], k1, [10, 11, 13], i1, [10, 11], o1, [0, 1, 2, 3, 12], [(.exit 0, [true, true])], F⟩
@[reducible] def k2 : Sh := .sc (.int .i64) (.sc (.int .i64) .nil)
@[reducible] def i2 : Sh := .pt true 51 (.sl true 56 (.sc .bool (.sc (.int .i64) (.sl true 5 (.sc (.int .u8) .nil) (.sl true 5 (.sc (.int .u8) .nil) .nil)))) .nil) (.sl true 5 (.sc (.int .u8) .nil) .nil)
@[reducible] def o2 : Sh := .nil
abbrev G2 := (Int × Int) → (((List (Bool × Int × List (Int) × List (Int)))) × List (Int)) → Option (Unit × (((List (Bool × Int × List (Int) × List (Int))))))
def u2 (F : G2) : Un := ⟨81, [1, 2], k2, [0, 11], i2, [], o2, [10], [(.normal, [])], F⟩
@[reducible] def i : Sh := .pt true 51 (.sl true 56 (.sc .bool (.sc (.int .i64) (.sl true 5 (.sc (.int .u8) .nil) (.sl true 5 (.sc (.int .u8) .nil) .nil)))) .nil) (.sc (.int .i64) (.sc (.int .i64) (.sc (.int .i64) .nil)))
@[reducible] def o : Sh := .sl true 5 (.sc (.int .u8) .nil) (.sc (.int .i64) .nil)
abbrev FT := (((List (Bool × Int × List (Int) × List (Int)))) × Int × Int × Int) → Option ((List (Int) × Int) × (((List (Bool × Int × List (Int) × List (Int))))))
theorem tabS : AllS Try.prog (tab) := trivial
theorem plsP : AllP Try.prog (pls) := trivial
theorem mixed : Try.prog.follows .mixedOrders = true := by kernel_rfl
def r1P : (Int × List (Int)) → (List (Int) × List (Int) × Int) → Option ((List (Int) × List (Int) × Int) ⊕ ((List (Int) × List (Int)) × Unit)) := fun (many, q) (out, rest, i) => bif decide (i < (↑q.length : Int)) then
 bif decide (i < many) then
 bif decide ((0 : Int) ≤ i ∧ i < (↑q.length : Int) ∧ (0 : Nat) < q.length) then
 bif decide ((0 : Nat) + i.toNat < q.length) then
 bif decide (out.length + (1 : Nat) ≤ (1073741824 : Nat)) then
 bif decide ((0 : Nat) + out.length ≤ out.length) then
 bif decide ((0 : Nat) + (out.length + (1 : Nat)) ≤ (List.take out.length out ++ [q.getD ((0 : Nat) + i.toNat) (0 : Int)]).length) && true then
 bif decide ((0 : Nat) + rest.length ≤ rest.length) && true then
 some (Sum.inl (List.take (out.length + (1 : Nat)) (List.drop (0 : Nat) (List.take out.length out ++ [q.getD ((0 : Nat) + i.toNat) (0 : Int)])), List.take rest.length rest, IntKind.i64.wrap (i + (1 : Int)))) else none else none else none else none else none else none else bif decide ((0 : Int) ≤ i ∧ i < (↑q.length : Int) ∧ (0 : Nat) < q.length) then
 bif decide ((0 : Nat) + i.toNat < q.length) then
 bif decide (rest.length + (1 : Nat) ≤ (1073741824 : Nat)) then
 bif decide ((0 : Nat) + rest.length ≤ rest.length) then
 bif decide ((0 : Nat) + out.length ≤ out.length) && true then
 bif decide ((0 : Nat) + (rest.length + (1 : Nat)) ≤ (List.take rest.length rest ++ [q.getD ((0 : Nat) + i.toNat) (0 : Int)]).length) && true then
 some (Sum.inl (List.take out.length out, List.take (rest.length + (1 : Nat)) (List.drop (0 : Nat) (List.take rest.length rest ++ [q.getD ((0 : Nat) + i.toNat) (0 : Int)])), IntKind.i64.wrap (i + (1 : Int)))) else none else none else none else none else none else none else bif decide ((0 : Nat) + out.length ≤ out.length) && true then
 bif decide ((0 : Nat) + rest.length ≤ rest.length) && true then
 some (Sum.inr ((List.take out.length out, List.take rest.length rest), PUnit.unit)) else none else none
theorem r1e (kd : Int × List (Int)) (d : List (Int) × List (Int) × Int) : roundF (tabC Try.prog (tab) (pls) 100 10) 100 .none (u1 fun _ _ => none) (codeAt [1, 1, 1, 1, 1, 1, 0, 1, 0, 0] (bodyOf Try.prog 35)) kd d = r1P kd d := by kernel_rfl
noncomputable def r1 : (Int × List (Int)) → (List (Int) × List (Int) × Int) → Option ((List (Int) × List (Int) × Int) ⊕ ((List (Int) × List (Int)) × Unit)) := r1P
noncomputable def l1 : G1 := fun kd d => iterO (r1 kd) d
theorem ok1 : UnOk Try.prog (u1 l1) (codeAt [1, 1, 1, 1, 1, 1, 0, 1, 0] (bodyOf Try.prog 35)) :=
  loopT (p := .none) (c := codeAt [1, 1, 1, 1, 1, 1, 0, 1, 0, 0] (bodyOf Try.prog 35)) (fuel := 100) (depth := 10) mixed tabS plsP (by kernel_rfl) trivial (by kernel_rfl) (fun kd d => r1e  kd d) rfl
def r2P : G2 := fun (k, end0) (n, rest) => bif decide ((0 : Int) ≤ k ∧ k < (↑n.length : Int) ∧ (0 : Nat) < n.length) then
 bif decide ((0 : Nat) + k.toNat < n.length) then
 bif decide ((0 : Int) ≤ end0 ∧ end0 < (2 : Int)) then
 bif end0.toNat.beq (0 : Nat) then
 bif decide ((0 : Nat) + rest.length ≤ rest.length) && true then
 bif decide ((0 : Nat) + List.length (n.getD ((0 : Nat) + k.toNat) (false, (0 : Int), [], [])).snd.snd.snd ≤ List.length (n.getD ((0 : Nat) + k.toNat) (false, (0 : Int), [], [])).snd.snd.snd) && true then
 bif decide ((0 : Nat) + n.length ≤ (n.set ((0 : Nat) + k.toNat) ((n.getD ((0 : Nat) + k.toNat) (false, (0 : Int), [], [])).fst, (n.getD ((0 : Nat) + k.toNat) (false, (0 : Int), [], [])).snd.fst, List.take rest.length rest, List.take (List.length (n.getD ((0 : Nat) + k.toNat) (false, (0 : Int), [], [])).snd.snd.snd) (List.drop (0 : Nat) (n.getD ((0 : Nat) + k.toNat) (false, (0 : Int), [], [])).snd.snd.snd))).length) && true then
 some (PUnit.unit, List.take n.length (List.drop (0 : Nat) (n.set ((0 : Nat) + k.toNat) ((n.getD ((0 : Nat) + k.toNat) (false, (0 : Int), [], [])).fst, (n.getD ((0 : Nat) + k.toNat) (false, (0 : Int), [], [])).snd.fst, List.take rest.length rest, List.take (List.length (n.getD ((0 : Nat) + k.toNat) (false, (0 : Int), [], [])).snd.snd.snd) (List.drop (0 : Nat) (n.getD ((0 : Nat) + k.toNat) (false, (0 : Int), [], [])).snd.snd.snd))))) else none else none else none else bif end0.toNat.beq (1 : Nat) then
 bif decide ((0 : Nat) + (n.getD ((0 : Nat) + k.toNat) (false, (0 : Int), [], [])).snd.snd.fst.length ≤ (n.getD ((0 : Nat) + k.toNat) (false, (0 : Int), [], [])).snd.snd.fst.length) && true then
 bif decide ((0 : Nat) + rest.length ≤ rest.length) && true then
 bif decide ((0 : Nat) + n.length ≤ (n.set ((0 : Nat) + k.toNat) ((n.getD ((0 : Nat) + k.toNat) (false, (0 : Int), [], [])).fst, (n.getD ((0 : Nat) + k.toNat) (false, (0 : Int), [], [])).snd.fst, List.take (n.getD ((0 : Nat) + k.toNat) (false, (0 : Int), [], [])).snd.snd.fst.length (List.drop (0 : Nat) (n.getD ((0 : Nat) + k.toNat) (false, (0 : Int), [], [])).snd.snd.fst), List.take rest.length rest)).length) && true then
 some (PUnit.unit, List.take n.length (List.drop (0 : Nat) (n.set ((0 : Nat) + k.toNat) ((n.getD ((0 : Nat) + k.toNat) (false, (0 : Int), [], [])).fst, (n.getD ((0 : Nat) + k.toNat) (false, (0 : Int), [], [])).snd.fst, List.take (n.getD ((0 : Nat) + k.toNat) (false, (0 : Int), [], [])).snd.snd.fst.length (List.drop (0 : Nat) (n.getD ((0 : Nat) + k.toNat) (false, (0 : Int), [], [])).snd.snd.fst), List.take rest.length rest)))) else none else none else none else none else none else none else none
theorem r2e (kd : Int × Int) (d : ((List (Bool × Int × List (Int) × List (Int)))) × List (Int)) : unitF (tabC Try.prog (tab) (pls) 100 10) 100 .none (u2 fun _ _ => none) (codeAt [1, 1, 1, 1, 1, 1, 1, 0] (bodyOf Try.prog 35)) kd d = r2P kd d := by kernel_rfl
noncomputable def r2 : G2 := r2P
noncomputable def l2 : G2 := r2
theorem ok2 : UnOk Try.prog (u2 l2) (codeAt [1, 1, 1, 1, 1, 1, 1, 0] (bodyOf Try.prog 35)) :=
  blockT (p := .none) (fuel := 100) (depth := 10) mixed tabS plsP trivial (fun kd d => r2e  kd d)
def fP (l1 : G1) (l2 : G2) : FT := fun (n, k, end0, many) => bif decide (k ≥ (0 : Int)) then
 bif !decide (k < (↑n.length : Int)) then
 bif decide ((0 : Nat) + n.length ≤ n.length) && true then
 some (([], (6 : Int)), List.take n.length n) else none else bif end0 != (0 : Int) then
 bif end0 != (1 : Int) then
 bif decide ((0 : Nat) + n.length ≤ n.length) && true then
 some (([], (1 : Int)), List.take n.length n) else none else bif decide (many < (0 : Int)) then
 bif decide ((0 : Nat) + n.length ≤ n.length) && true then
 some (([], (1 : Int)), List.take n.length n) else none else bif decide ((0 : Int) ≤ k ∧ k < (↑n.length : Int) ∧ (0 : Nat) < n.length) then
 bif decide ((0 : Nat) + k.toNat < n.length) then
 bif !(n.getD ((0 : Nat) + k.toNat) (false, (0 : Int), [], [])).fst then
 bif decide ((0 : Nat) + (n.getD ((0 : Nat) + k.toNat) (false, (0 : Int), [], [])).snd.snd.fst.length ≤ (n.getD ((0 : Nat) + k.toNat) (false, (0 : Int), [], [])).snd.snd.fst.length) && true then
 bif decide ((0 : Nat) + List.length (n.getD ((0 : Nat) + k.toNat) (false, (0 : Int), [], [])).snd.snd.snd ≤ List.length (n.getD ((0 : Nat) + k.toNat) (false, (0 : Int), [], [])).snd.snd.snd) && true then
 bif decide ((0 : Nat) + n.length ≤ (n.set ((0 : Nat) + k.toNat) ((n.getD ((0 : Nat) + k.toNat) (false, (0 : Int), [], [])).fst, (n.getD ((0 : Nat) + k.toNat) (false, (0 : Int), [], [])).snd.fst, List.take (n.getD ((0 : Nat) + k.toNat) (false, (0 : Int), [], [])).snd.snd.fst.length (List.drop (0 : Nat) (n.getD ((0 : Nat) + k.toNat) (false, (0 : Int), [], [])).snd.snd.fst), List.take (List.length (n.getD ((0 : Nat) + k.toNat) (false, (0 : Int), [], [])).snd.snd.snd) (List.drop (0 : Nat) (n.getD ((0 : Nat) + k.toNat) (false, (0 : Int), [], [])).snd.snd.snd))).length) && true then
 some (([], (10 : Int)), List.take n.length (List.drop (0 : Nat) (n.set ((0 : Nat) + k.toNat) ((n.getD ((0 : Nat) + k.toNat) (false, (0 : Int), [], [])).fst, (n.getD ((0 : Nat) + k.toNat) (false, (0 : Int), [], [])).snd.fst, List.take (n.getD ((0 : Nat) + k.toNat) (false, (0 : Int), [], [])).snd.snd.fst.length (List.drop (0 : Nat) (n.getD ((0 : Nat) + k.toNat) (false, (0 : Int), [], [])).snd.snd.fst), List.take (List.length (n.getD ((0 : Nat) + k.toNat) (false, (0 : Int), [], [])).snd.snd.snd) (List.drop (0 : Nat) (n.getD ((0 : Nat) + k.toNat) (false, (0 : Int), [], [])).snd.snd.snd))))) else none else none else none else bif decide ((0 : Int) ≤ k ∧ k < (↑n.length : Int) ∧ (0 : Nat) < n.length) then
 bif decide ((0 : Nat) + k.toNat = (0 : Nat) + k.toNat) then
 bif decide ((0 : Int) ≤ end0 ∧ end0 < (2 : Int)) then
 bif end0.toNat.beq (0 : Nat) then
 bif decide ((0 : Nat) + (n.getD ((0 : Nat) + k.toNat) (false, (0 : Int), [], [])).snd.snd.fst.length ≤ (n.getD ((0 : Nat) + k.toNat) (false, (0 : Int), [], [])).snd.snd.fst.length) && true then
 (l1 (many, List.take (n.getD ((0 : Nat) + k.toNat) (false, (0 : Int), [], [])).snd.snd.fst.length (List.drop (0 : Nat) (n.getD ((0 : Nat) + k.toNat) (false, (0 : Int), [], [])).snd.snd.fst)) ([], [], (0 : Int))).bind fun r0 => bif decide ((0 : Nat) + (n.getD ((0 : Nat) + k.toNat) (false, (0 : Int), [], [])).snd.snd.fst.length ≤ (n.getD ((0 : Nat) + k.toNat) (false, (0 : Int), [], [])).snd.snd.fst.length) && true then
 bif decide ((0 : Nat) + List.length (n.getD ((0 : Nat) + k.toNat) (false, (0 : Int), [], [])).snd.snd.snd ≤ List.length (n.getD ((0 : Nat) + k.toNat) (false, (0 : Int), [], [])).snd.snd.snd) && true then
 bif decide ((0 : Nat) + n.length ≤ (n.set ((0 : Nat) + k.toNat) ((n.getD ((0 : Nat) + k.toNat) (false, (0 : Int), [], [])).fst, (n.getD ((0 : Nat) + k.toNat) (false, (0 : Int), [], [])).snd.fst, List.take (n.getD ((0 : Nat) + k.toNat) (false, (0 : Int), [], [])).snd.snd.fst.length (List.drop (0 : Nat) (n.getD ((0 : Nat) + k.toNat) (false, (0 : Int), [], [])).snd.snd.fst), List.take (List.length (n.getD ((0 : Nat) + k.toNat) (false, (0 : Int), [], [])).snd.snd.snd) (List.drop (0 : Nat) (n.getD ((0 : Nat) + k.toNat) (false, (0 : Int), [], [])).snd.snd.snd))).length) && true then
 bif decide ((0 : Nat) + List.length r0.fst.snd ≤ List.length r0.fst.snd) && true then
 (l2 (k, end0) (List.take n.length (List.drop (0 : Nat) (n.set ((0 : Nat) + k.toNat) ((n.getD ((0 : Nat) + k.toNat) (false, (0 : Int), [], [])).fst, (n.getD ((0 : Nat) + k.toNat) (false, (0 : Int), [], [])).snd.fst, List.take (n.getD ((0 : Nat) + k.toNat) (false, (0 : Int), [], [])).snd.snd.fst.length (List.drop (0 : Nat) (n.getD ((0 : Nat) + k.toNat) (false, (0 : Int), [], [])).snd.snd.fst), List.take (List.length (n.getD ((0 : Nat) + k.toNat) (false, (0 : Int), [], [])).snd.snd.snd) (List.drop (0 : Nat) (n.getD ((0 : Nat) + k.toNat) (false, (0 : Int), [], [])).snd.snd.snd)))), List.take (List.length r0.fst.snd) (List.drop (0 : Nat) r0.fst.snd))).bind fun r1 => bif decide ((0 : Nat) + r0.fst.fst.length ≤ r0.fst.fst.length) && true then
 some ((List.take r0.fst.fst.length (List.drop (0 : Nat) r0.fst.fst), (0 : Int)), r1.snd) else none else none else none else none else none else none else bif end0.toNat.beq (1 : Nat) then
 bif decide ((0 : Nat) + List.length (n.getD ((0 : Nat) + k.toNat) (false, (0 : Int), [], [])).snd.snd.snd ≤ List.length (n.getD ((0 : Nat) + k.toNat) (false, (0 : Int), [], [])).snd.snd.snd) && true then
 (l1 (many, List.take (List.length (n.getD ((0 : Nat) + k.toNat) (false, (0 : Int), [], [])).snd.snd.snd) (List.drop (0 : Nat) (n.getD ((0 : Nat) + k.toNat) (false, (0 : Int), [], [])).snd.snd.snd)) ([], [], (0 : Int))).bind fun r0 => bif decide ((0 : Nat) + (n.getD ((0 : Nat) + k.toNat) (false, (0 : Int), [], [])).snd.snd.fst.length ≤ (n.getD ((0 : Nat) + k.toNat) (false, (0 : Int), [], [])).snd.snd.fst.length) && true then
 bif decide ((0 : Nat) + List.length (n.getD ((0 : Nat) + k.toNat) (false, (0 : Int), [], [])).snd.snd.snd ≤ List.length (n.getD ((0 : Nat) + k.toNat) (false, (0 : Int), [], [])).snd.snd.snd) && true then
 bif decide ((0 : Nat) + n.length ≤ (n.set ((0 : Nat) + k.toNat) ((n.getD ((0 : Nat) + k.toNat) (false, (0 : Int), [], [])).fst, (n.getD ((0 : Nat) + k.toNat) (false, (0 : Int), [], [])).snd.fst, List.take (n.getD ((0 : Nat) + k.toNat) (false, (0 : Int), [], [])).snd.snd.fst.length (List.drop (0 : Nat) (n.getD ((0 : Nat) + k.toNat) (false, (0 : Int), [], [])).snd.snd.fst), List.take (List.length (n.getD ((0 : Nat) + k.toNat) (false, (0 : Int), [], [])).snd.snd.snd) (List.drop (0 : Nat) (n.getD ((0 : Nat) + k.toNat) (false, (0 : Int), [], [])).snd.snd.snd))).length) && true then
 bif decide ((0 : Nat) + List.length r0.fst.snd ≤ List.length r0.fst.snd) && true then
 (l2 (k, end0) (List.take n.length (List.drop (0 : Nat) (n.set ((0 : Nat) + k.toNat) ((n.getD ((0 : Nat) + k.toNat) (false, (0 : Int), [], [])).fst, (n.getD ((0 : Nat) + k.toNat) (false, (0 : Int), [], [])).snd.fst, List.take (n.getD ((0 : Nat) + k.toNat) (false, (0 : Int), [], [])).snd.snd.fst.length (List.drop (0 : Nat) (n.getD ((0 : Nat) + k.toNat) (false, (0 : Int), [], [])).snd.snd.fst), List.take (List.length (n.getD ((0 : Nat) + k.toNat) (false, (0 : Int), [], [])).snd.snd.snd) (List.drop (0 : Nat) (n.getD ((0 : Nat) + k.toNat) (false, (0 : Int), [], [])).snd.snd.snd)))), List.take (List.length r0.fst.snd) (List.drop (0 : Nat) r0.fst.snd))).bind fun r1 => bif decide ((0 : Nat) + r0.fst.fst.length ≤ r0.fst.fst.length) && true then
 some ((List.take r0.fst.fst.length (List.drop (0 : Nat) r0.fst.fst), (0 : Int)), r1.snd) else none else none else none else none else none else none else none else none else bif decide ((0 : Nat) + (n.getD ((0 : Nat) + k.toNat) (false, (0 : Int), [], [])).snd.snd.fst.length ≤ (n.getD ((0 : Nat) + k.toNat) (false, (0 : Int), [], [])).snd.snd.fst.length) && true then
 bif decide ((0 : Nat) + List.length (n.getD ((0 : Nat) + k.toNat) (false, (0 : Int), [], [])).snd.snd.snd ≤ List.length (n.getD ((0 : Nat) + k.toNat) (false, (0 : Int), [], [])).snd.snd.snd) && true then
 bif decide ((0 : Nat) + k.toNat < (n.set ((0 : Nat) + k.toNat) ((n.getD ((0 : Nat) + k.toNat) (false, (0 : Int), [], [])).fst, (n.getD ((0 : Nat) + k.toNat) (false, (0 : Int), [], [])).snd.fst, List.take (n.getD ((0 : Nat) + k.toNat) (false, (0 : Int), [], [])).snd.snd.fst.length (List.drop (0 : Nat) (n.getD ((0 : Nat) + k.toNat) (false, (0 : Int), [], [])).snd.snd.fst), List.take (List.length (n.getD ((0 : Nat) + k.toNat) (false, (0 : Int), [], [])).snd.snd.snd) (List.drop (0 : Nat) (n.getD ((0 : Nat) + k.toNat) (false, (0 : Int), [], [])).snd.snd.snd))).length) then
 bif decide ((0 : Int) ≤ end0 ∧ end0 < (2 : Int)) then
 bif end0.toNat.beq (0 : Nat) then
 bif decide ((0 : Nat) + ((n.set ((0 : Nat) + k.toNat) ((n.getD ((0 : Nat) + k.toNat) (false, (0 : Int), [], [])).fst, (n.getD ((0 : Nat) + k.toNat) (false, (0 : Int), [], [])).snd.fst, List.take (n.getD ((0 : Nat) + k.toNat) (false, (0 : Int), [], [])).snd.snd.fst.length (List.drop (0 : Nat) (n.getD ((0 : Nat) + k.toNat) (false, (0 : Int), [], [])).snd.snd.fst), List.take (List.length (n.getD ((0 : Nat) + k.toNat) (false, (0 : Int), [], [])).snd.snd.snd) (List.drop (0 : Nat) (n.getD ((0 : Nat) + k.toNat) (false, (0 : Int), [], [])).snd.snd.snd))).getD ((0 : Nat) + k.toNat) (false, (0 : Int), [], [])).snd.snd.fst.length ≤ ((n.set ((0 : Nat) + k.toNat) ((n.getD ((0 : Nat) + k.toNat) (false, (0 : Int), [], [])).fst, (n.getD ((0 : Nat) + k.toNat) (false, (0 : Int), [], [])).snd.fst, List.take (n.getD ((0 : Nat) + k.toNat) (false, (0 : Int), [], [])).snd.snd.fst.length (List.drop (0 : Nat) (n.getD ((0 : Nat) + k.toNat) (false, (0 : Int), [], [])).snd.snd.fst), List.take (List.length (n.getD ((0 : Nat) + k.toNat) (false, (0 : Int), [], [])).snd.snd.snd) (List.drop (0 : Nat) (n.getD ((0 : Nat) + k.toNat) (false, (0 : Int), [], [])).snd.snd.snd))).getD ((0 : Nat) + k.toNat) (false, (0 : Int), [], [])).snd.snd.fst.length) && true then
 (l1 (many, List.take ((n.set ((0 : Nat) + k.toNat) ((n.getD ((0 : Nat) + k.toNat) (false, (0 : Int), [], [])).fst, (n.getD ((0 : Nat) + k.toNat) (false, (0 : Int), [], [])).snd.fst, List.take (n.getD ((0 : Nat) + k.toNat) (false, (0 : Int), [], [])).snd.snd.fst.length (List.drop (0 : Nat) (n.getD ((0 : Nat) + k.toNat) (false, (0 : Int), [], [])).snd.snd.fst), List.take (List.length (n.getD ((0 : Nat) + k.toNat) (false, (0 : Int), [], [])).snd.snd.snd) (List.drop (0 : Nat) (n.getD ((0 : Nat) + k.toNat) (false, (0 : Int), [], [])).snd.snd.snd))).getD ((0 : Nat) + k.toNat) (false, (0 : Int), [], [])).snd.snd.fst.length (List.drop (0 : Nat) ((n.set ((0 : Nat) + k.toNat) ((n.getD ((0 : Nat) + k.toNat) (false, (0 : Int), [], [])).fst, (n.getD ((0 : Nat) + k.toNat) (false, (0 : Int), [], [])).snd.fst, List.take (n.getD ((0 : Nat) + k.toNat) (false, (0 : Int), [], [])).snd.snd.fst.length (List.drop (0 : Nat) (n.getD ((0 : Nat) + k.toNat) (false, (0 : Int), [], [])).snd.snd.fst), List.take (List.length (n.getD ((0 : Nat) + k.toNat) (false, (0 : Int), [], [])).snd.snd.snd) (List.drop (0 : Nat) (n.getD ((0 : Nat) + k.toNat) (false, (0 : Int), [], [])).snd.snd.snd))).getD ((0 : Nat) + k.toNat) (false, (0 : Int), [], [])).snd.snd.fst)) ([], [], (0 : Int))).bind fun r0 => bif decide ((0 : Nat) + ((n.set ((0 : Nat) + k.toNat) ((n.getD ((0 : Nat) + k.toNat) (false, (0 : Int), [], [])).fst, (n.getD ((0 : Nat) + k.toNat) (false, (0 : Int), [], [])).snd.fst, List.take (n.getD ((0 : Nat) + k.toNat) (false, (0 : Int), [], [])).snd.snd.fst.length (List.drop (0 : Nat) (n.getD ((0 : Nat) + k.toNat) (false, (0 : Int), [], [])).snd.snd.fst), List.take (List.length (n.getD ((0 : Nat) + k.toNat) (false, (0 : Int), [], [])).snd.snd.snd) (List.drop (0 : Nat) (n.getD ((0 : Nat) + k.toNat) (false, (0 : Int), [], [])).snd.snd.snd))).getD ((0 : Nat) + k.toNat) (false, (0 : Int), [], [])).snd.snd.fst.length ≤ ((n.set ((0 : Nat) + k.toNat) ((n.getD ((0 : Nat) + k.toNat) (false, (0 : Int), [], [])).fst, (n.getD ((0 : Nat) + k.toNat) (false, (0 : Int), [], [])).snd.fst, List.take (n.getD ((0 : Nat) + k.toNat) (false, (0 : Int), [], [])).snd.snd.fst.length (List.drop (0 : Nat) (n.getD ((0 : Nat) + k.toNat) (false, (0 : Int), [], [])).snd.snd.fst), List.take (List.length (n.getD ((0 : Nat) + k.toNat) (false, (0 : Int), [], [])).snd.snd.snd) (List.drop (0 : Nat) (n.getD ((0 : Nat) + k.toNat) (false, (0 : Int), [], [])).snd.snd.snd))).getD ((0 : Nat) + k.toNat) (false, (0 : Int), [], [])).snd.snd.fst.length) && true then
 bif decide ((0 : Nat) + List.length ((n.set ((0 : Nat) + k.toNat) ((n.getD ((0 : Nat) + k.toNat) (false, (0 : Int), [], [])).fst, (n.getD ((0 : Nat) + k.toNat) (false, (0 : Int), [], [])).snd.fst, List.take (n.getD ((0 : Nat) + k.toNat) (false, (0 : Int), [], [])).snd.snd.fst.length (List.drop (0 : Nat) (n.getD ((0 : Nat) + k.toNat) (false, (0 : Int), [], [])).snd.snd.fst), List.take (List.length (n.getD ((0 : Nat) + k.toNat) (false, (0 : Int), [], [])).snd.snd.snd) (List.drop (0 : Nat) (n.getD ((0 : Nat) + k.toNat) (false, (0 : Int), [], [])).snd.snd.snd))).getD ((0 : Nat) + k.toNat) (false, (0 : Int), [], [])).snd.snd.snd ≤ List.length ((n.set ((0 : Nat) + k.toNat) ((n.getD ((0 : Nat) + k.toNat) (false, (0 : Int), [], [])).fst, (n.getD ((0 : Nat) + k.toNat) (false, (0 : Int), [], [])).snd.fst, List.take (n.getD ((0 : Nat) + k.toNat) (false, (0 : Int), [], [])).snd.snd.fst.length (List.drop (0 : Nat) (n.getD ((0 : Nat) + k.toNat) (false, (0 : Int), [], [])).snd.snd.fst), List.take (List.length (n.getD ((0 : Nat) + k.toNat) (false, (0 : Int), [], [])).snd.snd.snd) (List.drop (0 : Nat) (n.getD ((0 : Nat) + k.toNat) (false, (0 : Int), [], [])).snd.snd.snd))).getD ((0 : Nat) + k.toNat) (false, (0 : Int), [], [])).snd.snd.snd) && true then
 bif decide ((0 : Nat) + n.length ≤ ((n.set ((0 : Nat) + k.toNat) ((n.getD ((0 : Nat) + k.toNat) (false, (0 : Int), [], [])).fst, (n.getD ((0 : Nat) + k.toNat) (false, (0 : Int), [], [])).snd.fst, List.take (n.getD ((0 : Nat) + k.toNat) (false, (0 : Int), [], [])).snd.snd.fst.length (List.drop (0 : Nat) (n.getD ((0 : Nat) + k.toNat) (false, (0 : Int), [], [])).snd.snd.fst), List.take (List.length (n.getD ((0 : Nat) + k.toNat) (false, (0 : Int), [], [])).snd.snd.snd) (List.drop (0 : Nat) (n.getD ((0 : Nat) + k.toNat) (false, (0 : Int), [], [])).snd.snd.snd))).set ((0 : Nat) + k.toNat) (((n.set ((0 : Nat) + k.toNat) ((n.getD ((0 : Nat) + k.toNat) (false, (0 : Int), [], [])).fst, (n.getD ((0 : Nat) + k.toNat) (false, (0 : Int), [], [])).snd.fst, List.take (n.getD ((0 : Nat) + k.toNat) (false, (0 : Int), [], [])).snd.snd.fst.length (List.drop (0 : Nat) (n.getD ((0 : Nat) + k.toNat) (false, (0 : Int), [], [])).snd.snd.fst), List.take (List.length (n.getD ((0 : Nat) + k.toNat) (false, (0 : Int), [], [])).snd.snd.snd) (List.drop (0 : Nat) (n.getD ((0 : Nat) + k.toNat) (false, (0 : Int), [], [])).snd.snd.snd))).getD ((0 : Nat) + k.toNat) (false, (0 : Int), [], [])).fst, ((n.set ((0 : Nat) + k.toNat) ((n.getD ((0 : Nat) + k.toNat) (false, (0 : Int), [], [])).fst, (n.getD ((0 : Nat) + k.toNat) (false, (0 : Int), [], [])).snd.fst, List.take (n.getD ((0 : Nat) + k.toNat) (false, (0 : Int), [], [])).snd.snd.fst.length (List.drop (0 : Nat) (n.getD ((0 : Nat) + k.toNat) (false, (0 : Int), [], [])).snd.snd.fst), List.take (List.length (n.getD ((0 : Nat) + k.toNat) (false, (0 : Int), [], [])).snd.snd.snd) (List.drop (0 : Nat) (n.getD ((0 : Nat) + k.toNat) (false, (0 : Int), [], [])).snd.snd.snd))).getD ((0 : Nat) + k.toNat) (false, (0 : Int), [], [])).snd.fst, List.take ((n.set ((0 : Nat) + k.toNat) ((n.getD ((0 : Nat) + k.toNat) (false, (0 : Int), [], [])).fst, (n.getD ((0 : Nat) + k.toNat) (false, (0 : Int), [], [])).snd.fst, List.take (n.getD ((0 : Nat) + k.toNat) (false, (0 : Int), [], [])).snd.snd.fst.length (List.drop (0 : Nat) (n.getD ((0 : Nat) + k.toNat) (false, (0 : Int), [], [])).snd.snd.fst), List.take (List.length (n.getD ((0 : Nat) + k.toNat) (false, (0 : Int), [], [])).snd.snd.snd) (List.drop (0 : Nat) (n.getD ((0 : Nat) + k.toNat) (false, (0 : Int), [], [])).snd.snd.snd))).getD ((0 : Nat) + k.toNat) (false, (0 : Int), [], [])).snd.snd.fst.length (List.drop (0 : Nat) ((n.set ((0 : Nat) + k.toNat) ((n.getD ((0 : Nat) + k.toNat) (false, (0 : Int), [], [])).fst, (n.getD ((0 : Nat) + k.toNat) (false, (0 : Int), [], [])).snd.fst, List.take (n.getD ((0 : Nat) + k.toNat) (false, (0 : Int), [], [])).snd.snd.fst.length (List.drop (0 : Nat) (n.getD ((0 : Nat) + k.toNat) (false, (0 : Int), [], [])).snd.snd.fst), List.take (List.length (n.getD ((0 : Nat) + k.toNat) (false, (0 : Int), [], [])).snd.snd.snd) (List.drop (0 : Nat) (n.getD ((0 : Nat) + k.toNat) (false, (0 : Int), [], [])).snd.snd.snd))).getD ((0 : Nat) + k.toNat) (false, (0 : Int), [], [])).snd.snd.fst), List.take (List.length ((n.set ((0 : Nat) + k.toNat) ((n.getD ((0 : Nat) + k.toNat) (false, (0 : Int), [], [])).fst, (n.getD ((0 : Nat) + k.toNat) (false, (0 : Int), [], [])).snd.fst, List.take (n.getD ((0 : Nat) + k.toNat) (false, (0 : Int), [], [])).snd.snd.fst.length (List.drop (0 : Nat) (n.getD ((0 : Nat) + k.toNat) (false, (0 : Int), [], [])).snd.snd.fst), List.take (List.length (n.getD ((0 : Nat) + k.toNat) (false, (0 : Int), [], [])).snd.snd.snd) (List.drop (0 : Nat) (n.getD ((0 : Nat) + k.toNat) (false, (0 : Int), [], [])).snd.snd.snd))).getD ((0 : Nat) + k.toNat) (false, (0 : Int), [], [])).snd.snd.snd) (List.drop (0 : Nat) ((n.set ((0 : Nat) + k.toNat) ((n.getD ((0 : Nat) + k.toNat) (false, (0 : Int), [], [])).fst, (n.getD ((0 : Nat) + k.toNat) (false, (0 : Int), [], [])).snd.fst, List.take (n.getD ((0 : Nat) + k.toNat) (false, (0 : Int), [], [])).snd.snd.fst.length (List.drop (0 : Nat) (n.getD ((0 : Nat) + k.toNat) (false, (0 : Int), [], [])).snd.snd.fst), List.take (List.length (n.getD ((0 : Nat) + k.toNat) (false, (0 : Int), [], [])).snd.snd.snd) (List.drop (0 : Nat) (n.getD ((0 : Nat) + k.toNat) (false, (0 : Int), [], [])).snd.snd.snd))).getD ((0 : Nat) + k.toNat) (false, (0 : Int), [], [])).snd.snd.snd))).length) && true then
 bif decide ((0 : Nat) + List.length r0.fst.snd ≤ List.length r0.fst.snd) && true then
 (l2 (k, end0) (List.take n.length (List.drop (0 : Nat) ((n.set ((0 : Nat) + k.toNat) ((n.getD ((0 : Nat) + k.toNat) (false, (0 : Int), [], [])).fst, (n.getD ((0 : Nat) + k.toNat) (false, (0 : Int), [], [])).snd.fst, List.take (n.getD ((0 : Nat) + k.toNat) (false, (0 : Int), [], [])).snd.snd.fst.length (List.drop (0 : Nat) (n.getD ((0 : Nat) + k.toNat) (false, (0 : Int), [], [])).snd.snd.fst), List.take (List.length (n.getD ((0 : Nat) + k.toNat) (false, (0 : Int), [], [])).snd.snd.snd) (List.drop (0 : Nat) (n.getD ((0 : Nat) + k.toNat) (false, (0 : Int), [], [])).snd.snd.snd))).set ((0 : Nat) + k.toNat) (((n.set ((0 : Nat) + k.toNat) ((n.getD ((0 : Nat) + k.toNat) (false, (0 : Int), [], [])).fst, (n.getD ((0 : Nat) + k.toNat) (false, (0 : Int), [], [])).snd.fst, List.take (n.getD ((0 : Nat) + k.toNat) (false, (0 : Int), [], [])).snd.snd.fst.length (List.drop (0 : Nat) (n.getD ((0 : Nat) + k.toNat) (false, (0 : Int), [], [])).snd.snd.fst), List.take (List.length (n.getD ((0 : Nat) + k.toNat) (false, (0 : Int), [], [])).snd.snd.snd) (List.drop (0 : Nat) (n.getD ((0 : Nat) + k.toNat) (false, (0 : Int), [], [])).snd.snd.snd))).getD ((0 : Nat) + k.toNat) (false, (0 : Int), [], [])).fst, ((n.set ((0 : Nat) + k.toNat) ((n.getD ((0 : Nat) + k.toNat) (false, (0 : Int), [], [])).fst, (n.getD ((0 : Nat) + k.toNat) (false, (0 : Int), [], [])).snd.fst, List.take (n.getD ((0 : Nat) + k.toNat) (false, (0 : Int), [], [])).snd.snd.fst.length (List.drop (0 : Nat) (n.getD ((0 : Nat) + k.toNat) (false, (0 : Int), [], [])).snd.snd.fst), List.take (List.length (n.getD ((0 : Nat) + k.toNat) (false, (0 : Int), [], [])).snd.snd.snd) (List.drop (0 : Nat) (n.getD ((0 : Nat) + k.toNat) (false, (0 : Int), [], [])).snd.snd.snd))).getD ((0 : Nat) + k.toNat) (false, (0 : Int), [], [])).snd.fst, List.take ((n.set ((0 : Nat) + k.toNat) ((n.getD ((0 : Nat) + k.toNat) (false, (0 : Int), [], [])).fst, (n.getD ((0 : Nat) + k.toNat) (false, (0 : Int), [], [])).snd.fst, List.take (n.getD ((0 : Nat) + k.toNat) (false, (0 : Int), [], [])).snd.snd.fst.length (List.drop (0 : Nat) (n.getD ((0 : Nat) + k.toNat) (false, (0 : Int), [], [])).snd.snd.fst), List.take (List.length (n.getD ((0 : Nat) + k.toNat) (false, (0 : Int), [], [])).snd.snd.snd) (List.drop (0 : Nat) (n.getD ((0 : Nat) + k.toNat) (false, (0 : Int), [], [])).snd.snd.snd))).getD ((0 : Nat) + k.toNat) (false, (0 : Int), [], [])).snd.snd.fst.length (List.drop (0 : Nat) ((n.set ((0 : Nat) + k.toNat) ((n.getD ((0 : Nat) + k.toNat) (false, (0 : Int), [], [])).fst, (n.getD ((0 : Nat) + k.toNat) (false, (0 : Int), [], [])).snd.fst, List.take (n.getD ((0 : Nat) + k.toNat) (false, (0 : Int), [], [])).snd.snd.fst.length (List.drop (0 : Nat) (n.getD ((0 : Nat) + k.toNat) (false, (0 : Int), [], [])).snd.snd.fst), List.take (List.length (n.getD ((0 : Nat) + k.toNat) (false, (0 : Int), [], [])).snd.snd.snd) (List.drop (0 : Nat) (n.getD ((0 : Nat) + k.toNat) (false, (0 : Int), [], [])).snd.snd.snd))).getD ((0 : Nat) + k.toNat) (false, (0 : Int), [], [])).snd.snd.fst), List.take (List.length ((n.set ((0 : Nat) + k.toNat) ((n.getD ((0 : Nat) + k.toNat) (false, (0 : Int), [], [])).fst, (n.getD ((0 : Nat) + k.toNat) (false, (0 : Int), [], [])).snd.fst, List.take (n.getD ((0 : Nat) + k.toNat) (false, (0 : Int), [], [])).snd.snd.fst.length (List.drop (0 : Nat) (n.getD ((0 : Nat) + k.toNat) (false, (0 : Int), [], [])).snd.snd.fst), List.take (List.length (n.getD ((0 : Nat) + k.toNat) (false, (0 : Int), [], [])).snd.snd.snd) (List.drop (0 : Nat) (n.getD ((0 : Nat) + k.toNat) (false, (0 : Int), [], [])).snd.snd.snd))).getD ((0 : Nat) + k.toNat) (false, (0 : Int), [], [])).snd.snd.snd) (List.drop (0 : Nat) ((n.set ((0 : Nat) + k.toNat) ((n.getD ((0 : Nat) + k.toNat) (false, (0 : Int), [], [])).fst, (n.getD ((0 : Nat) + k.toNat) (false, (0 : Int), [], [])).snd.fst, List.take (n.getD ((0 : Nat) + k.toNat) (false, (0 : Int), [], [])).snd.snd.fst.length (List.drop (0 : Nat) (n.getD ((0 : Nat) + k.toNat) (false, (0 : Int), [], [])).snd.snd.fst), List.take (List.length (n.getD ((0 : Nat) + k.toNat) (false, (0 : Int), [], [])).snd.snd.snd) (List.drop (0 : Nat) (n.getD ((0 : Nat) + k.toNat) (false, (0 : Int), [], [])).snd.snd.snd))).getD ((0 : Nat) + k.toNat) (false, (0 : Int), [], [])).snd.snd.snd)))), List.take (List.length r0.fst.snd) (List.drop (0 : Nat) r0.fst.snd))).bind fun r1 => bif decide ((0 : Nat) + r0.fst.fst.length ≤ r0.fst.fst.length) && true then
 some ((List.take r0.fst.fst.length (List.drop (0 : Nat) r0.fst.fst), (0 : Int)), r1.snd) else none else none else none else none else none else none else bif end0.toNat.beq (1 : Nat) then
 bif decide ((0 : Nat) + List.length ((n.set ((0 : Nat) + k.toNat) ((n.getD ((0 : Nat) + k.toNat) (false, (0 : Int), [], [])).fst, (n.getD ((0 : Nat) + k.toNat) (false, (0 : Int), [], [])).snd.fst, List.take (n.getD ((0 : Nat) + k.toNat) (false, (0 : Int), [], [])).snd.snd.fst.length (List.drop (0 : Nat) (n.getD ((0 : Nat) + k.toNat) (false, (0 : Int), [], [])).snd.snd.fst), List.take (List.length (n.getD ((0 : Nat) + k.toNat) (false, (0 : Int), [], [])).snd.snd.snd) (List.drop (0 : Nat) (n.getD ((0 : Nat) + k.toNat) (false, (0 : Int), [], [])).snd.snd.snd))).getD ((0 : Nat) + k.toNat) (false, (0 : Int), [], [])).snd.snd.snd ≤ List.length ((n.set ((0 : Nat) + k.toNat) ((n.getD ((0 : Nat) + k.toNat) (false, (0 : Int), [], [])).fst, (n.getD ((0 : Nat) + k.toNat) (false, (0 : Int), [], [])).snd.fst, List.take (n.getD ((0 : Nat) + k.toNat) (false, (0 : Int), [], [])).snd.snd.fst.length (List.drop (0 : Nat) (n.getD ((0 : Nat) + k.toNat) (false, (0 : Int), [], [])).snd.snd.fst), List.take (List.length (n.getD ((0 : Nat) + k.toNat) (false, (0 : Int), [], [])).snd.snd.snd) (List.drop (0 : Nat) (n.getD ((0 : Nat) + k.toNat) (false, (0 : Int), [], [])).snd.snd.snd))).getD ((0 : Nat) + k.toNat) (false, (0 : Int), [], [])).snd.snd.snd) && true then
 (l1 (many, List.take (List.length ((n.set ((0 : Nat) + k.toNat) ((n.getD ((0 : Nat) + k.toNat) (false, (0 : Int), [], [])).fst, (n.getD ((0 : Nat) + k.toNat) (false, (0 : Int), [], [])).snd.fst, List.take (n.getD ((0 : Nat) + k.toNat) (false, (0 : Int), [], [])).snd.snd.fst.length (List.drop (0 : Nat) (n.getD ((0 : Nat) + k.toNat) (false, (0 : Int), [], [])).snd.snd.fst), List.take (List.length (n.getD ((0 : Nat) + k.toNat) (false, (0 : Int), [], [])).snd.snd.snd) (List.drop (0 : Nat) (n.getD ((0 : Nat) + k.toNat) (false, (0 : Int), [], [])).snd.snd.snd))).getD ((0 : Nat) + k.toNat) (false, (0 : Int), [], [])).snd.snd.snd) (List.drop (0 : Nat) ((n.set ((0 : Nat) + k.toNat) ((n.getD ((0 : Nat) + k.toNat) (false, (0 : Int), [], [])).fst, (n.getD ((0 : Nat) + k.toNat) (false, (0 : Int), [], [])).snd.fst, List.take (n.getD ((0 : Nat) + k.toNat) (false, (0 : Int), [], [])).snd.snd.fst.length (List.drop (0 : Nat) (n.getD ((0 : Nat) + k.toNat) (false, (0 : Int), [], [])).snd.snd.fst), List.take (List.length (n.getD ((0 : Nat) + k.toNat) (false, (0 : Int), [], [])).snd.snd.snd) (List.drop (0 : Nat) (n.getD ((0 : Nat) + k.toNat) (false, (0 : Int), [], [])).snd.snd.snd))).getD ((0 : Nat) + k.toNat) (false, (0 : Int), [], [])).snd.snd.snd)) ([], [], (0 : Int))).bind fun r0 => bif decide ((0 : Nat) + ((n.set ((0 : Nat) + k.toNat) ((n.getD ((0 : Nat) + k.toNat) (false, (0 : Int), [], [])).fst, (n.getD ((0 : Nat) + k.toNat) (false, (0 : Int), [], [])).snd.fst, List.take (n.getD ((0 : Nat) + k.toNat) (false, (0 : Int), [], [])).snd.snd.fst.length (List.drop (0 : Nat) (n.getD ((0 : Nat) + k.toNat) (false, (0 : Int), [], [])).snd.snd.fst), List.take (List.length (n.getD ((0 : Nat) + k.toNat) (false, (0 : Int), [], [])).snd.snd.snd) (List.drop (0 : Nat) (n.getD ((0 : Nat) + k.toNat) (false, (0 : Int), [], [])).snd.snd.snd))).getD ((0 : Nat) + k.toNat) (false, (0 : Int), [], [])).snd.snd.fst.length ≤ ((n.set ((0 : Nat) + k.toNat) ((n.getD ((0 : Nat) + k.toNat) (false, (0 : Int), [], [])).fst, (n.getD ((0 : Nat) + k.toNat) (false, (0 : Int), [], [])).snd.fst, List.take (n.getD ((0 : Nat) + k.toNat) (false, (0 : Int), [], [])).snd.snd.fst.length (List.drop (0 : Nat) (n.getD ((0 : Nat) + k.toNat) (false, (0 : Int), [], [])).snd.snd.fst), List.take (List.length (n.getD ((0 : Nat) + k.toNat) (false, (0 : Int), [], [])).snd.snd.snd) (List.drop (0 : Nat) (n.getD ((0 : Nat) + k.toNat) (false, (0 : Int), [], [])).snd.snd.snd))).getD ((0 : Nat) + k.toNat) (false, (0 : Int), [], [])).snd.snd.fst.length) && true then
 bif decide ((0 : Nat) + List.length ((n.set ((0 : Nat) + k.toNat) ((n.getD ((0 : Nat) + k.toNat) (false, (0 : Int), [], [])).fst, (n.getD ((0 : Nat) + k.toNat) (false, (0 : Int), [], [])).snd.fst, List.take (n.getD ((0 : Nat) + k.toNat) (false, (0 : Int), [], [])).snd.snd.fst.length (List.drop (0 : Nat) (n.getD ((0 : Nat) + k.toNat) (false, (0 : Int), [], [])).snd.snd.fst), List.take (List.length (n.getD ((0 : Nat) + k.toNat) (false, (0 : Int), [], [])).snd.snd.snd) (List.drop (0 : Nat) (n.getD ((0 : Nat) + k.toNat) (false, (0 : Int), [], [])).snd.snd.snd))).getD ((0 : Nat) + k.toNat) (false, (0 : Int), [], [])).snd.snd.snd ≤ List.length ((n.set ((0 : Nat) + k.toNat) ((n.getD ((0 : Nat) + k.toNat) (false, (0 : Int), [], [])).fst, (n.getD ((0 : Nat) + k.toNat) (false, (0 : Int), [], [])).snd.fst, List.take (n.getD ((0 : Nat) + k.toNat) (false, (0 : Int), [], [])).snd.snd.fst.length (List.drop (0 : Nat) (n.getD ((0 : Nat) + k.toNat) (false, (0 : Int), [], [])).snd.snd.fst), List.take (List.length (n.getD ((0 : Nat) + k.toNat) (false, (0 : Int), [], [])).snd.snd.snd) (List.drop (0 : Nat) (n.getD ((0 : Nat) + k.toNat) (false, (0 : Int), [], [])).snd.snd.snd))).getD ((0 : Nat) + k.toNat) (false, (0 : Int), [], [])).snd.snd.snd) && true then
 bif decide ((0 : Nat) + n.length ≤ ((n.set ((0 : Nat) + k.toNat) ((n.getD ((0 : Nat) + k.toNat) (false, (0 : Int), [], [])).fst, (n.getD ((0 : Nat) + k.toNat) (false, (0 : Int), [], [])).snd.fst, List.take (n.getD ((0 : Nat) + k.toNat) (false, (0 : Int), [], [])).snd.snd.fst.length (List.drop (0 : Nat) (n.getD ((0 : Nat) + k.toNat) (false, (0 : Int), [], [])).snd.snd.fst), List.take (List.length (n.getD ((0 : Nat) + k.toNat) (false, (0 : Int), [], [])).snd.snd.snd) (List.drop (0 : Nat) (n.getD ((0 : Nat) + k.toNat) (false, (0 : Int), [], [])).snd.snd.snd))).set ((0 : Nat) + k.toNat) (((n.set ((0 : Nat) + k.toNat) ((n.getD ((0 : Nat) + k.toNat) (false, (0 : Int), [], [])).fst, (n.getD ((0 : Nat) + k.toNat) (false, (0 : Int), [], [])).snd.fst, List.take (n.getD ((0 : Nat) + k.toNat) (false, (0 : Int), [], [])).snd.snd.fst.length (List.drop (0 : Nat) (n.getD ((0 : Nat) + k.toNat) (false, (0 : Int), [], [])).snd.snd.fst), List.take (List.length (n.getD ((0 : Nat) + k.toNat) (false, (0 : Int), [], [])).snd.snd.snd) (List.drop (0 : Nat) (n.getD ((0 : Nat) + k.toNat) (false, (0 : Int), [], [])).snd.snd.snd))).getD ((0 : Nat) + k.toNat) (false, (0 : Int), [], [])).fst, ((n.set ((0 : Nat) + k.toNat) ((n.getD ((0 : Nat) + k.toNat) (false, (0 : Int), [], [])).fst, (n.getD ((0 : Nat) + k.toNat) (false, (0 : Int), [], [])).snd.fst, List.take (n.getD ((0 : Nat) + k.toNat) (false, (0 : Int), [], [])).snd.snd.fst.length (List.drop (0 : Nat) (n.getD ((0 : Nat) + k.toNat) (false, (0 : Int), [], [])).snd.snd.fst), List.take (List.length (n.getD ((0 : Nat) + k.toNat) (false, (0 : Int), [], [])).snd.snd.snd) (List.drop (0 : Nat) (n.getD ((0 : Nat) + k.toNat) (false, (0 : Int), [], [])).snd.snd.snd))).getD ((0 : Nat) + k.toNat) (false, (0 : Int), [], [])).snd.fst, List.take ((n.set ((0 : Nat) + k.toNat) ((n.getD ((0 : Nat) + k.toNat) (false, (0 : Int), [], [])).fst, (n.getD ((0 : Nat) + k.toNat) (false, (0 : Int), [], [])).snd.fst, List.take (n.getD ((0 : Nat) + k.toNat) (false, (0 : Int), [], [])).snd.snd.fst.length (List.drop (0 : Nat) (n.getD ((0 : Nat) + k.toNat) (false, (0 : Int), [], [])).snd.snd.fst), List.take (List.length (n.getD ((0 : Nat) + k.toNat) (false, (0 : Int), [], [])).snd.snd.snd) (List.drop (0 : Nat) (n.getD ((0 : Nat) + k.toNat) (false, (0 : Int), [], [])).snd.snd.snd))).getD ((0 : Nat) + k.toNat) (false, (0 : Int), [], [])).snd.snd.fst.length (List.drop (0 : Nat) ((n.set ((0 : Nat) + k.toNat) ((n.getD ((0 : Nat) + k.toNat) (false, (0 : Int), [], [])).fst, (n.getD ((0 : Nat) + k.toNat) (false, (0 : Int), [], [])).snd.fst, List.take (n.getD ((0 : Nat) + k.toNat) (false, (0 : Int), [], [])).snd.snd.fst.length (List.drop (0 : Nat) (n.getD ((0 : Nat) + k.toNat) (false, (0 : Int), [], [])).snd.snd.fst), List.take (List.length (n.getD ((0 : Nat) + k.toNat) (false, (0 : Int), [], [])).snd.snd.snd) (List.drop (0 : Nat) (n.getD ((0 : Nat) + k.toNat) (false, (0 : Int), [], [])).snd.snd.snd))).getD ((0 : Nat) + k.toNat) (false, (0 : Int), [], [])).snd.snd.fst), List.take (List.length ((n.set ((0 : Nat) + k.toNat) ((n.getD ((0 : Nat) + k.toNat) (false, (0 : Int), [], [])).fst, (n.getD ((0 : Nat) + k.toNat) (false, (0 : Int), [], [])).snd.fst, List.take (n.getD ((0 : Nat) + k.toNat) (false, (0 : Int), [], [])).snd.snd.fst.length (List.drop (0 : Nat) (n.getD ((0 : Nat) + k.toNat) (false, (0 : Int), [], [])).snd.snd.fst), List.take (List.length (n.getD ((0 : Nat) + k.toNat) (false, (0 : Int), [], [])).snd.snd.snd) (List.drop (0 : Nat) (n.getD ((0 : Nat) + k.toNat) (false, (0 : Int), [], [])).snd.snd.snd))).getD ((0 : Nat) + k.toNat) (false, (0 : Int), [], [])).snd.snd.snd) (List.drop (0 : Nat) ((n.set ((0 : Nat) + k.toNat) ((n.getD ((0 : Nat) + k.toNat) (false, (0 : Int), [], [])).fst, (n.getD ((0 : Nat) + k.toNat) (false, (0 : Int), [], [])).snd.fst, List.take (n.getD ((0 : Nat) + k.toNat) (false, (0 : Int), [], [])).snd.snd.fst.length (List.drop (0 : Nat) (n.getD ((0 : Nat) + k.toNat) (false, (0 : Int), [], [])).snd.snd.fst), List.take (List.length (n.getD ((0 : Nat) + k.toNat) (false, (0 : Int), [], [])).snd.snd.snd) (List.drop (0 : Nat) (n.getD ((0 : Nat) + k.toNat) (false, (0 : Int), [], [])).snd.snd.snd))).getD ((0 : Nat) + k.toNat) (false, (0 : Int), [], [])).snd.snd.snd))).length) && true then
 bif decide ((0 : Nat) + List.length r0.fst.snd ≤ List.length r0.fst.snd) && true then
 (l2 (k, end0) (List.take n.length (List.drop (0 : Nat) ((n.set ((0 : Nat) + k.toNat) ((n.getD ((0 : Nat) + k.toNat) (false, (0 : Int), [], [])).fst, (n.getD ((0 : Nat) + k.toNat) (false, (0 : Int), [], [])).snd.fst, List.take (n.getD ((0 : Nat) + k.toNat) (false, (0 : Int), [], [])).snd.snd.fst.length (List.drop (0 : Nat) (n.getD ((0 : Nat) + k.toNat) (false, (0 : Int), [], [])).snd.snd.fst), List.take (List.length (n.getD ((0 : Nat) + k.toNat) (false, (0 : Int), [], [])).snd.snd.snd) (List.drop (0 : Nat) (n.getD ((0 : Nat) + k.toNat) (false, (0 : Int), [], [])).snd.snd.snd))).set ((0 : Nat) + k.toNat) (((n.set ((0 : Nat) + k.toNat) ((n.getD ((0 : Nat) + k.toNat) (false, (0 : Int), [], [])).fst, (n.getD ((0 : Nat) + k.toNat) (false, (0 : Int), [], [])).snd.fst, List.take (n.getD ((0 : Nat) + k.toNat) (false, (0 : Int), [], [])).snd.snd.fst.length (List.drop (0 : Nat) (n.getD ((0 : Nat) + k.toNat) (false, (0 : Int), [], [])).snd.snd.fst), List.take (List.length (n.getD ((0 : Nat) + k.toNat) (false, (0 : Int), [], [])).snd.snd.snd) (List.drop (0 : Nat) (n.getD ((0 : Nat) + k.toNat) (false, (0 : Int), [], [])).snd.snd.snd))).getD ((0 : Nat) + k.toNat) (false, (0 : Int), [], [])).fst, ((n.set ((0 : Nat) + k.toNat) ((n.getD ((0 : Nat) + k.toNat) (false, (0 : Int), [], [])).fst, (n.getD ((0 : Nat) + k.toNat) (false, (0 : Int), [], [])).snd.fst, List.take (n.getD ((0 : Nat) + k.toNat) (false, (0 : Int), [], [])).snd.snd.fst.length (List.drop (0 : Nat) (n.getD ((0 : Nat) + k.toNat) (false, (0 : Int), [], [])).snd.snd.fst), List.take (List.length (n.getD ((0 : Nat) + k.toNat) (false, (0 : Int), [], [])).snd.snd.snd) (List.drop (0 : Nat) (n.getD ((0 : Nat) + k.toNat) (false, (0 : Int), [], [])).snd.snd.snd))).getD ((0 : Nat) + k.toNat) (false, (0 : Int), [], [])).snd.fst, List.take ((n.set ((0 : Nat) + k.toNat) ((n.getD ((0 : Nat) + k.toNat) (false, (0 : Int), [], [])).fst, (n.getD ((0 : Nat) + k.toNat) (false, (0 : Int), [], [])).snd.fst, List.take (n.getD ((0 : Nat) + k.toNat) (false, (0 : Int), [], [])).snd.snd.fst.length (List.drop (0 : Nat) (n.getD ((0 : Nat) + k.toNat) (false, (0 : Int), [], [])).snd.snd.fst), List.take (List.length (n.getD ((0 : Nat) + k.toNat) (false, (0 : Int), [], [])).snd.snd.snd) (List.drop (0 : Nat) (n.getD ((0 : Nat) + k.toNat) (false, (0 : Int), [], [])).snd.snd.snd))).getD ((0 : Nat) + k.toNat) (false, (0 : Int), [], [])).snd.snd.fst.length (List.drop (0 : Nat) ((n.set ((0 : Nat) + k.toNat) ((n.getD ((0 : Nat) + k.toNat) (false, (0 : Int), [], [])).fst, (n.getD ((0 : Nat) + k.toNat) (false, (0 : Int), [], [])).snd.fst, List.take (n.getD ((0 : Nat) + k.toNat) (false, (0 : Int), [], [])).snd.snd.fst.length (List.drop (0 : Nat) (n.getD ((0 : Nat) + k.toNat) (false, (0 : Int), [], [])).snd.snd.fst), List.take (List.length (n.getD ((0 : Nat) + k.toNat) (false, (0 : Int), [], [])).snd.snd.snd) (List.drop (0 : Nat) (n.getD ((0 : Nat) + k.toNat) (false, (0 : Int), [], [])).snd.snd.snd))).getD ((0 : Nat) + k.toNat) (false, (0 : Int), [], [])).snd.snd.fst), List.take (List.length ((n.set ((0 : Nat) + k.toNat) ((n.getD ((0 : Nat) + k.toNat) (false, (0 : Int), [], [])).fst, (n.getD ((0 : Nat) + k.toNat) (false, (0 : Int), [], [])).snd.fst, List.take (n.getD ((0 : Nat) + k.toNat) (false, (0 : Int), [], [])).snd.snd.fst.length (List.drop (0 : Nat) (n.getD ((0 : Nat) + k.toNat) (false, (0 : Int), [], [])).snd.snd.fst), List.take (List.length (n.getD ((0 : Nat) + k.toNat) (false, (0 : Int), [], [])).snd.snd.snd) (List.drop (0 : Nat) (n.getD ((0 : Nat) + k.toNat) (false, (0 : Int), [], [])).snd.snd.snd))).getD ((0 : Nat) + k.toNat) (false, (0 : Int), [], [])).snd.snd.snd) (List.drop (0 : Nat) ((n.set ((0 : Nat) + k.toNat) ((n.getD ((0 : Nat) + k.toNat) (false, (0 : Int), [], [])).fst, (n.getD ((0 : Nat) + k.toNat) (false, (0 : Int), [], [])).snd.fst, List.take (n.getD ((0 : Nat) + k.toNat) (false, (0 : Int), [], [])).snd.snd.fst.length (List.drop (0 : Nat) (n.getD ((0 : Nat) + k.toNat) (false, (0 : Int), [], [])).snd.snd.fst), List.take (List.length (n.getD ((0 : Nat) + k.toNat) (false, (0 : Int), [], [])).snd.snd.snd) (List.drop (0 : Nat) (n.getD ((0 : Nat) + k.toNat) (false, (0 : Int), [], [])).snd.snd.snd))).getD ((0 : Nat) + k.toNat) (false, (0 : Int), [], [])).snd.snd.snd)))), List.take (List.length r0.fst.snd) (List.drop (0 : Nat) r0.fst.snd))).bind fun r1 => bif decide ((0 : Nat) + r0.fst.fst.length ≤ r0.fst.fst.length) && true then
 some ((List.take r0.fst.fst.length (List.drop (0 : Nat) r0.fst.fst), (0 : Int)), r1.snd) else none else none else none else none else none else none else none else none else none else none else none else none else none else none else bif decide (many < (0 : Int)) then
 bif decide ((0 : Nat) + n.length ≤ n.length) && true then
 some (([], (1 : Int)), List.take n.length n) else none else bif decide ((0 : Int) ≤ k ∧ k < (↑n.length : Int) ∧ (0 : Nat) < n.length) then
 bif decide ((0 : Nat) + k.toNat < n.length) then
 bif !(n.getD ((0 : Nat) + k.toNat) (false, (0 : Int), [], [])).fst then
 bif decide ((0 : Nat) + (n.getD ((0 : Nat) + k.toNat) (false, (0 : Int), [], [])).snd.snd.fst.length ≤ (n.getD ((0 : Nat) + k.toNat) (false, (0 : Int), [], [])).snd.snd.fst.length) && true then
 bif decide ((0 : Nat) + List.length (n.getD ((0 : Nat) + k.toNat) (false, (0 : Int), [], [])).snd.snd.snd ≤ List.length (n.getD ((0 : Nat) + k.toNat) (false, (0 : Int), [], [])).snd.snd.snd) && true then
 bif decide ((0 : Nat) + n.length ≤ (n.set ((0 : Nat) + k.toNat) ((n.getD ((0 : Nat) + k.toNat) (false, (0 : Int), [], [])).fst, (n.getD ((0 : Nat) + k.toNat) (false, (0 : Int), [], [])).snd.fst, List.take (n.getD ((0 : Nat) + k.toNat) (false, (0 : Int), [], [])).snd.snd.fst.length (List.drop (0 : Nat) (n.getD ((0 : Nat) + k.toNat) (false, (0 : Int), [], [])).snd.snd.fst), List.take (List.length (n.getD ((0 : Nat) + k.toNat) (false, (0 : Int), [], [])).snd.snd.snd) (List.drop (0 : Nat) (n.getD ((0 : Nat) + k.toNat) (false, (0 : Int), [], [])).snd.snd.snd))).length) && true then
 some (([], (10 : Int)), List.take n.length (List.drop (0 : Nat) (n.set ((0 : Nat) + k.toNat) ((n.getD ((0 : Nat) + k.toNat) (false, (0 : Int), [], [])).fst, (n.getD ((0 : Nat) + k.toNat) (false, (0 : Int), [], [])).snd.fst, List.take (n.getD ((0 : Nat) + k.toNat) (false, (0 : Int), [], [])).snd.snd.fst.length (List.drop (0 : Nat) (n.getD ((0 : Nat) + k.toNat) (false, (0 : Int), [], [])).snd.snd.fst), List.take (List.length (n.getD ((0 : Nat) + k.toNat) (false, (0 : Int), [], [])).snd.snd.snd) (List.drop (0 : Nat) (n.getD ((0 : Nat) + k.toNat) (false, (0 : Int), [], [])).snd.snd.snd))))) else none else none else none else bif decide ((0 : Int) ≤ k ∧ k < (↑n.length : Int) ∧ (0 : Nat) < n.length) then
 bif decide ((0 : Nat) + k.toNat = (0 : Nat) + k.toNat) then
 bif decide ((0 : Int) ≤ end0 ∧ end0 < (2 : Int)) then
 bif end0.toNat.beq (0 : Nat) then
 bif decide ((0 : Nat) + (n.getD ((0 : Nat) + k.toNat) (false, (0 : Int), [], [])).snd.snd.fst.length ≤ (n.getD ((0 : Nat) + k.toNat) (false, (0 : Int), [], [])).snd.snd.fst.length) && true then
 (l1 (many, List.take (n.getD ((0 : Nat) + k.toNat) (false, (0 : Int), [], [])).snd.snd.fst.length (List.drop (0 : Nat) (n.getD ((0 : Nat) + k.toNat) (false, (0 : Int), [], [])).snd.snd.fst)) ([], [], (0 : Int))).bind fun r0 => bif decide ((0 : Nat) + (n.getD ((0 : Nat) + k.toNat) (false, (0 : Int), [], [])).snd.snd.fst.length ≤ (n.getD ((0 : Nat) + k.toNat) (false, (0 : Int), [], [])).snd.snd.fst.length) && true then
 bif decide ((0 : Nat) + List.length (n.getD ((0 : Nat) + k.toNat) (false, (0 : Int), [], [])).snd.snd.snd ≤ List.length (n.getD ((0 : Nat) + k.toNat) (false, (0 : Int), [], [])).snd.snd.snd) && true then
 bif decide ((0 : Nat) + n.length ≤ (n.set ((0 : Nat) + k.toNat) ((n.getD ((0 : Nat) + k.toNat) (false, (0 : Int), [], [])).fst, (n.getD ((0 : Nat) + k.toNat) (false, (0 : Int), [], [])).snd.fst, List.take (n.getD ((0 : Nat) + k.toNat) (false, (0 : Int), [], [])).snd.snd.fst.length (List.drop (0 : Nat) (n.getD ((0 : Nat) + k.toNat) (false, (0 : Int), [], [])).snd.snd.fst), List.take (List.length (n.getD ((0 : Nat) + k.toNat) (false, (0 : Int), [], [])).snd.snd.snd) (List.drop (0 : Nat) (n.getD ((0 : Nat) + k.toNat) (false, (0 : Int), [], [])).snd.snd.snd))).length) && true then
 bif decide ((0 : Nat) + List.length r0.fst.snd ≤ List.length r0.fst.snd) && true then
 (l2 (k, end0) (List.take n.length (List.drop (0 : Nat) (n.set ((0 : Nat) + k.toNat) ((n.getD ((0 : Nat) + k.toNat) (false, (0 : Int), [], [])).fst, (n.getD ((0 : Nat) + k.toNat) (false, (0 : Int), [], [])).snd.fst, List.take (n.getD ((0 : Nat) + k.toNat) (false, (0 : Int), [], [])).snd.snd.fst.length (List.drop (0 : Nat) (n.getD ((0 : Nat) + k.toNat) (false, (0 : Int), [], [])).snd.snd.fst), List.take (List.length (n.getD ((0 : Nat) + k.toNat) (false, (0 : Int), [], [])).snd.snd.snd) (List.drop (0 : Nat) (n.getD ((0 : Nat) + k.toNat) (false, (0 : Int), [], [])).snd.snd.snd)))), List.take (List.length r0.fst.snd) (List.drop (0 : Nat) r0.fst.snd))).bind fun r1 => bif decide ((0 : Nat) + r0.fst.fst.length ≤ r0.fst.fst.length) && true then
 some ((List.take r0.fst.fst.length (List.drop (0 : Nat) r0.fst.fst), (0 : Int)), r1.snd) else none else none else none else none else none else none else bif end0.toNat.beq (1 : Nat) then
 bif decide ((0 : Nat) + List.length (n.getD ((0 : Nat) + k.toNat) (false, (0 : Int), [], [])).snd.snd.snd ≤ List.length (n.getD ((0 : Nat) + k.toNat) (false, (0 : Int), [], [])).snd.snd.snd) && true then
 (l1 (many, List.take (List.length (n.getD ((0 : Nat) + k.toNat) (false, (0 : Int), [], [])).snd.snd.snd) (List.drop (0 : Nat) (n.getD ((0 : Nat) + k.toNat) (false, (0 : Int), [], [])).snd.snd.snd)) ([], [], (0 : Int))).bind fun r0 => bif decide ((0 : Nat) + (n.getD ((0 : Nat) + k.toNat) (false, (0 : Int), [], [])).snd.snd.fst.length ≤ (n.getD ((0 : Nat) + k.toNat) (false, (0 : Int), [], [])).snd.snd.fst.length) && true then
 bif decide ((0 : Nat) + List.length (n.getD ((0 : Nat) + k.toNat) (false, (0 : Int), [], [])).snd.snd.snd ≤ List.length (n.getD ((0 : Nat) + k.toNat) (false, (0 : Int), [], [])).snd.snd.snd) && true then
 bif decide ((0 : Nat) + n.length ≤ (n.set ((0 : Nat) + k.toNat) ((n.getD ((0 : Nat) + k.toNat) (false, (0 : Int), [], [])).fst, (n.getD ((0 : Nat) + k.toNat) (false, (0 : Int), [], [])).snd.fst, List.take (n.getD ((0 : Nat) + k.toNat) (false, (0 : Int), [], [])).snd.snd.fst.length (List.drop (0 : Nat) (n.getD ((0 : Nat) + k.toNat) (false, (0 : Int), [], [])).snd.snd.fst), List.take (List.length (n.getD ((0 : Nat) + k.toNat) (false, (0 : Int), [], [])).snd.snd.snd) (List.drop (0 : Nat) (n.getD ((0 : Nat) + k.toNat) (false, (0 : Int), [], [])).snd.snd.snd))).length) && true then
 bif decide ((0 : Nat) + List.length r0.fst.snd ≤ List.length r0.fst.snd) && true then
 (l2 (k, end0) (List.take n.length (List.drop (0 : Nat) (n.set ((0 : Nat) + k.toNat) ((n.getD ((0 : Nat) + k.toNat) (false, (0 : Int), [], [])).fst, (n.getD ((0 : Nat) + k.toNat) (false, (0 : Int), [], [])).snd.fst, List.take (n.getD ((0 : Nat) + k.toNat) (false, (0 : Int), [], [])).snd.snd.fst.length (List.drop (0 : Nat) (n.getD ((0 : Nat) + k.toNat) (false, (0 : Int), [], [])).snd.snd.fst), List.take (List.length (n.getD ((0 : Nat) + k.toNat) (false, (0 : Int), [], [])).snd.snd.snd) (List.drop (0 : Nat) (n.getD ((0 : Nat) + k.toNat) (false, (0 : Int), [], [])).snd.snd.snd)))), List.take (List.length r0.fst.snd) (List.drop (0 : Nat) r0.fst.snd))).bind fun r1 => bif decide ((0 : Nat) + r0.fst.fst.length ≤ r0.fst.fst.length) && true then
 some ((List.take r0.fst.fst.length (List.drop (0 : Nat) r0.fst.fst), (0 : Int)), r1.snd) else none else none else none else none else none else none else none else none else bif decide ((0 : Nat) + (n.getD ((0 : Nat) + k.toNat) (false, (0 : Int), [], [])).snd.snd.fst.length ≤ (n.getD ((0 : Nat) + k.toNat) (false, (0 : Int), [], [])).snd.snd.fst.length) && true then
 bif decide ((0 : Nat) + List.length (n.getD ((0 : Nat) + k.toNat) (false, (0 : Int), [], [])).snd.snd.snd ≤ List.length (n.getD ((0 : Nat) + k.toNat) (false, (0 : Int), [], [])).snd.snd.snd) && true then
 bif decide ((0 : Nat) + k.toNat < (n.set ((0 : Nat) + k.toNat) ((n.getD ((0 : Nat) + k.toNat) (false, (0 : Int), [], [])).fst, (n.getD ((0 : Nat) + k.toNat) (false, (0 : Int), [], [])).snd.fst, List.take (n.getD ((0 : Nat) + k.toNat) (false, (0 : Int), [], [])).snd.snd.fst.length (List.drop (0 : Nat) (n.getD ((0 : Nat) + k.toNat) (false, (0 : Int), [], [])).snd.snd.fst), List.take (List.length (n.getD ((0 : Nat) + k.toNat) (false, (0 : Int), [], [])).snd.snd.snd) (List.drop (0 : Nat) (n.getD ((0 : Nat) + k.toNat) (false, (0 : Int), [], [])).snd.snd.snd))).length) then
 bif decide ((0 : Int) ≤ end0 ∧ end0 < (2 : Int)) then
 bif end0.toNat.beq (0 : Nat) then
 bif decide ((0 : Nat) + ((n.set ((0 : Nat) + k.toNat) ((n.getD ((0 : Nat) + k.toNat) (false, (0 : Int), [], [])).fst, (n.getD ((0 : Nat) + k.toNat) (false, (0 : Int), [], [])).snd.fst, List.take (n.getD ((0 : Nat) + k.toNat) (false, (0 : Int), [], [])).snd.snd.fst.length (List.drop (0 : Nat) (n.getD ((0 : Nat) + k.toNat) (false, (0 : Int), [], [])).snd.snd.fst), List.take (List.length (n.getD ((0 : Nat) + k.toNat) (false, (0 : Int), [], [])).snd.snd.snd) (List.drop (0 : Nat) (n.getD ((0 : Nat) + k.toNat) (false, (0 : Int), [], [])).snd.snd.snd))).getD ((0 : Nat) + k.toNat) (false, (0 : Int), [], [])).snd.snd.fst.length ≤ ((n.set ((0 : Nat) + k.toNat) ((n.getD ((0 : Nat) + k.toNat) (false, (0 : Int), [], [])).fst, (n.getD ((0 : Nat) + k.toNat) (false, (0 : Int), [], [])).snd.fst, List.take (n.getD ((0 : Nat) + k.toNat) (false, (0 : Int), [], [])).snd.snd.fst.length (List.drop (0 : Nat) (n.getD ((0 : Nat) + k.toNat) (false, (0 : Int), [], [])).snd.snd.fst), List.take (List.length (n.getD ((0 : Nat) + k.toNat) (false, (0 : Int), [], [])).snd.snd.snd) (List.drop (0 : Nat) (n.getD ((0 : Nat) + k.toNat) (false, (0 : Int), [], [])).snd.snd.snd))).getD ((0 : Nat) + k.toNat) (false, (0 : Int), [], [])).snd.snd.fst.length) && true then
 (l1 (many, List.take ((n.set ((0 : Nat) + k.toNat) ((n.getD ((0 : Nat) + k.toNat) (false, (0 : Int), [], [])).fst, (n.getD ((0 : Nat) + k.toNat) (false, (0 : Int), [], [])).snd.fst, List.take (n.getD ((0 : Nat) + k.toNat) (false, (0 : Int), [], [])).snd.snd.fst.length (List.drop (0 : Nat) (n.getD ((0 : Nat) + k.toNat) (false, (0 : Int), [], [])).snd.snd.fst), List.take (List.length (n.getD ((0 : Nat) + k.toNat) (false, (0 : Int), [], [])).snd.snd.snd) (List.drop (0 : Nat) (n.getD ((0 : Nat) + k.toNat) (false, (0 : Int), [], [])).snd.snd.snd))).getD ((0 : Nat) + k.toNat) (false, (0 : Int), [], [])).snd.snd.fst.length (List.drop (0 : Nat) ((n.set ((0 : Nat) + k.toNat) ((n.getD ((0 : Nat) + k.toNat) (false, (0 : Int), [], [])).fst, (n.getD ((0 : Nat) + k.toNat) (false, (0 : Int), [], [])).snd.fst, List.take (n.getD ((0 : Nat) + k.toNat) (false, (0 : Int), [], [])).snd.snd.fst.length (List.drop (0 : Nat) (n.getD ((0 : Nat) + k.toNat) (false, (0 : Int), [], [])).snd.snd.fst), List.take (List.length (n.getD ((0 : Nat) + k.toNat) (false, (0 : Int), [], [])).snd.snd.snd) (List.drop (0 : Nat) (n.getD ((0 : Nat) + k.toNat) (false, (0 : Int), [], [])).snd.snd.snd))).getD ((0 : Nat) + k.toNat) (false, (0 : Int), [], [])).snd.snd.fst)) ([], [], (0 : Int))).bind fun r0 => bif decide ((0 : Nat) + ((n.set ((0 : Nat) + k.toNat) ((n.getD ((0 : Nat) + k.toNat) (false, (0 : Int), [], [])).fst, (n.getD ((0 : Nat) + k.toNat) (false, (0 : Int), [], [])).snd.fst, List.take (n.getD ((0 : Nat) + k.toNat) (false, (0 : Int), [], [])).snd.snd.fst.length (List.drop (0 : Nat) (n.getD ((0 : Nat) + k.toNat) (false, (0 : Int), [], [])).snd.snd.fst), List.take (List.length (n.getD ((0 : Nat) + k.toNat) (false, (0 : Int), [], [])).snd.snd.snd) (List.drop (0 : Nat) (n.getD ((0 : Nat) + k.toNat) (false, (0 : Int), [], [])).snd.snd.snd))).getD ((0 : Nat) + k.toNat) (false, (0 : Int), [], [])).snd.snd.fst.length ≤ ((n.set ((0 : Nat) + k.toNat) ((n.getD ((0 : Nat) + k.toNat) (false, (0 : Int), [], [])).fst, (n.getD ((0 : Nat) + k.toNat) (false, (0 : Int), [], [])).snd.fst, List.take (n.getD ((0 : Nat) + k.toNat) (false, (0 : Int), [], [])).snd.snd.fst.length (List.drop (0 : Nat) (n.getD ((0 : Nat) + k.toNat) (false, (0 : Int), [], [])).snd.snd.fst), List.take (List.length (n.getD ((0 : Nat) + k.toNat) (false, (0 : Int), [], [])).snd.snd.snd) (List.drop (0 : Nat) (n.getD ((0 : Nat) + k.toNat) (false, (0 : Int), [], [])).snd.snd.snd))).getD ((0 : Nat) + k.toNat) (false, (0 : Int), [], [])).snd.snd.fst.length) && true then
 bif decide ((0 : Nat) + List.length ((n.set ((0 : Nat) + k.toNat) ((n.getD ((0 : Nat) + k.toNat) (false, (0 : Int), [], [])).fst, (n.getD ((0 : Nat) + k.toNat) (false, (0 : Int), [], [])).snd.fst, List.take (n.getD ((0 : Nat) + k.toNat) (false, (0 : Int), [], [])).snd.snd.fst.length (List.drop (0 : Nat) (n.getD ((0 : Nat) + k.toNat) (false, (0 : Int), [], [])).snd.snd.fst), List.take (List.length (n.getD ((0 : Nat) + k.toNat) (false, (0 : Int), [], [])).snd.snd.snd) (List.drop (0 : Nat) (n.getD ((0 : Nat) + k.toNat) (false, (0 : Int), [], [])).snd.snd.snd))).getD ((0 : Nat) + k.toNat) (false, (0 : Int), [], [])).snd.snd.snd ≤ List.length ((n.set ((0 : Nat) + k.toNat) ((n.getD ((0 : Nat) + k.toNat) (false, (0 : Int), [], [])).fst, (n.getD ((0 : Nat) + k.toNat) (false, (0 : Int), [], [])).snd.fst, List.take (n.getD ((0 : Nat) + k.toNat) (false, (0 : Int), [], [])).snd.snd.fst.length (List.drop (0 : Nat) (n.getD ((0 : Nat) + k.toNat) (false, (0 : Int), [], [])).snd.snd.fst), List.take (List.length (n.getD ((0 : Nat) + k.toNat) (false, (0 : Int), [], [])).snd.snd.snd) (List.drop (0 : Nat) (n.getD ((0 : Nat) + k.toNat) (false, (0 : Int), [], [])).snd.snd.snd))).getD ((0 : Nat) + k.toNat) (false, (0 : Int), [], [])).snd.snd.snd) && true then
 bif decide ((0 : Nat) + n.length ≤ ((n.set ((0 : Nat) + k.toNat) ((n.getD ((0 : Nat) + k.toNat) (false, (0 : Int), [], [])).fst, (n.getD ((0 : Nat) + k.toNat) (false, (0 : Int), [], [])).snd.fst, List.take (n.getD ((0 : Nat) + k.toNat) (false, (0 : Int), [], [])).snd.snd.fst.length (List.drop (0 : Nat) (n.getD ((0 : Nat) + k.toNat) (false, (0 : Int), [], [])).snd.snd.fst), List.take (List.length (n.getD ((0 : Nat) + k.toNat) (false, (0 : Int), [], [])).snd.snd.snd) (List.drop (0 : Nat) (n.getD ((0 : Nat) + k.toNat) (false, (0 : Int), [], [])).snd.snd.snd))).set ((0 : Nat) + k.toNat) (((n.set ((0 : Nat) + k.toNat) ((n.getD ((0 : Nat) + k.toNat) (false, (0 : Int), [], [])).fst, (n.getD ((0 : Nat) + k.toNat) (false, (0 : Int), [], [])).snd.fst, List.take (n.getD ((0 : Nat) + k.toNat) (false, (0 : Int), [], [])).snd.snd.fst.length (List.drop (0 : Nat) (n.getD ((0 : Nat) + k.toNat) (false, (0 : Int), [], [])).snd.snd.fst), List.take (List.length (n.getD ((0 : Nat) + k.toNat) (false, (0 : Int), [], [])).snd.snd.snd) (List.drop (0 : Nat) (n.getD ((0 : Nat) + k.toNat) (false, (0 : Int), [], [])).snd.snd.snd))).getD ((0 : Nat) + k.toNat) (false, (0 : Int), [], [])).fst, ((n.set ((0 : Nat) + k.toNat) ((n.getD ((0 : Nat) + k.toNat) (false, (0 : Int), [], [])).fst, (n.getD ((0 : Nat) + k.toNat) (false, (0 : Int), [], [])).snd.fst, List.take (n.getD ((0 : Nat) + k.toNat) (false, (0 : Int), [], [])).snd.snd.fst.length (List.drop (0 : Nat) (n.getD ((0 : Nat) + k.toNat) (false, (0 : Int), [], [])).snd.snd.fst), List.take (List.length (n.getD ((0 : Nat) + k.toNat) (false, (0 : Int), [], [])).snd.snd.snd) (List.drop (0 : Nat) (n.getD ((0 : Nat) + k.toNat) (false, (0 : Int), [], [])).snd.snd.snd))).getD ((0 : Nat) + k.toNat) (false, (0 : Int), [], [])).snd.fst, List.take ((n.set ((0 : Nat) + k.toNat) ((n.getD ((0 : Nat) + k.toNat) (false, (0 : Int), [], [])).fst, (n.getD ((0 : Nat) + k.toNat) (false, (0 : Int), [], [])).snd.fst, List.take (n.getD ((0 : Nat) + k.toNat) (false, (0 : Int), [], [])).snd.snd.fst.length (List.drop (0 : Nat) (n.getD ((0 : Nat) + k.toNat) (false, (0 : Int), [], [])).snd.snd.fst), List.take (List.length (n.getD ((0 : Nat) + k.toNat) (false, (0 : Int), [], [])).snd.snd.snd) (List.drop (0 : Nat) (n.getD ((0 : Nat) + k.toNat) (false, (0 : Int), [], [])).snd.snd.snd))).getD ((0 : Nat) + k.toNat) (false, (0 : Int), [], [])).snd.snd.fst.length (List.drop (0 : Nat) ((n.set ((0 : Nat) + k.toNat) ((n.getD ((0 : Nat) + k.toNat) (false, (0 : Int), [], [])).fst, (n.getD ((0 : Nat) + k.toNat) (false, (0 : Int), [], [])).snd.fst, List.take (n.getD ((0 : Nat) + k.toNat) (false, (0 : Int), [], [])).snd.snd.fst.length (List.drop (0 : Nat) (n.getD ((0 : Nat) + k.toNat) (false, (0 : Int), [], [])).snd.snd.fst), List.take (List.length (n.getD ((0 : Nat) + k.toNat) (false, (0 : Int), [], [])).snd.snd.snd) (List.drop (0 : Nat) (n.getD ((0 : Nat) + k.toNat) (false, (0 : Int), [], [])).snd.snd.snd))).getD ((0 : Nat) + k.toNat) (false, (0 : Int), [], [])).snd.snd.fst), List.take (List.length ((n.set ((0 : Nat) + k.toNat) ((n.getD ((0 : Nat) + k.toNat) (false, (0 : Int), [], [])).fst, (n.getD ((0 : Nat) + k.toNat) (false, (0 : Int), [], [])).snd.fst, List.take (n.getD ((0 : Nat) + k.toNat) (false, (0 : Int), [], [])).snd.snd.fst.length (List.drop (0 : Nat) (n.getD ((0 : Nat) + k.toNat) (false, (0 : Int), [], [])).snd.snd.fst), List.take (List.length (n.getD ((0 : Nat) + k.toNat) (false, (0 : Int), [], [])).snd.snd.snd) (List.drop (0 : Nat) (n.getD ((0 : Nat) + k.toNat) (false, (0 : Int), [], [])).snd.snd.snd))).getD ((0 : Nat) + k.toNat) (false, (0 : Int), [], [])).snd.snd.snd) (List.drop (0 : Nat) ((n.set ((0 : Nat) + k.toNat) ((n.getD ((0 : Nat) + k.toNat) (false, (0 : Int), [], [])).fst, (n.getD ((0 : Nat) + k.toNat) (false, (0 : Int), [], [])).snd.fst, List.take (n.getD ((0 : Nat) + k.toNat) (false, (0 : Int), [], [])).snd.snd.fst.length (List.drop (0 : Nat) (n.getD ((0 : Nat) + k.toNat) (false, (0 : Int), [], [])).snd.snd.fst), List.take (List.length (n.getD ((0 : Nat) + k.toNat) (false, (0 : Int), [], [])).snd.snd.snd) (List.drop (0 : Nat) (n.getD ((0 : Nat) + k.toNat) (false, (0 : Int), [], [])).snd.snd.snd))).getD ((0 : Nat) + k.toNat) (false, (0 : Int), [], [])).snd.snd.snd))).length) && true then
 bif decide ((0 : Nat) + List.length r0.fst.snd ≤ List.length r0.fst.snd) && true then
 (l2 (k, end0) (List.take n.length (List.drop (0 : Nat) ((n.set ((0 : Nat) + k.toNat) ((n.getD ((0 : Nat) + k.toNat) (false, (0 : Int), [], [])).fst, (n.getD ((0 : Nat) + k.toNat) (false, (0 : Int), [], [])).snd.fst, List.take (n.getD ((0 : Nat) + k.toNat) (false, (0 : Int), [], [])).snd.snd.fst.length (List.drop (0 : Nat) (n.getD ((0 : Nat) + k.toNat) (false, (0 : Int), [], [])).snd.snd.fst), List.take (List.length (n.getD ((0 : Nat) + k.toNat) (false, (0 : Int), [], [])).snd.snd.snd) (List.drop (0 : Nat) (n.getD ((0 : Nat) + k.toNat) (false, (0 : Int), [], [])).snd.snd.snd))).set ((0 : Nat) + k.toNat) (((n.set ((0 : Nat) + k.toNat) ((n.getD ((0 : Nat) + k.toNat) (false, (0 : Int), [], [])).fst, (n.getD ((0 : Nat) + k.toNat) (false, (0 : Int), [], [])).snd.fst, List.take (n.getD ((0 : Nat) + k.toNat) (false, (0 : Int), [], [])).snd.snd.fst.length (List.drop (0 : Nat) (n.getD ((0 : Nat) + k.toNat) (false, (0 : Int), [], [])).snd.snd.fst), List.take (List.length (n.getD ((0 : Nat) + k.toNat) (false, (0 : Int), [], [])).snd.snd.snd) (List.drop (0 : Nat) (n.getD ((0 : Nat) + k.toNat) (false, (0 : Int), [], [])).snd.snd.snd))).getD ((0 : Nat) + k.toNat) (false, (0 : Int), [], [])).fst, ((n.set ((0 : Nat) + k.toNat) ((n.getD ((0 : Nat) + k.toNat) (false, (0 : Int), [], [])).fst, (n.getD ((0 : Nat) + k.toNat) (false, (0 : Int), [], [])).snd.fst, List.take (n.getD ((0 : Nat) + k.toNat) (false, (0 : Int), [], [])).snd.snd.fst.length (List.drop (0 : Nat) (n.getD ((0 : Nat) + k.toNat) (false, (0 : Int), [], [])).snd.snd.fst), List.take (List.length (n.getD ((0 : Nat) + k.toNat) (false, (0 : Int), [], [])).snd.snd.snd) (List.drop (0 : Nat) (n.getD ((0 : Nat) + k.toNat) (false, (0 : Int), [], [])).snd.snd.snd))).getD ((0 : Nat) + k.toNat) (false, (0 : Int), [], [])).snd.fst, List.take ((n.set ((0 : Nat) + k.toNat) ((n.getD ((0 : Nat) + k.toNat) (false, (0 : Int), [], [])).fst, (n.getD ((0 : Nat) + k.toNat) (false, (0 : Int), [], [])).snd.fst, List.take (n.getD ((0 : Nat) + k.toNat) (false, (0 : Int), [], [])).snd.snd.fst.length (List.drop (0 : Nat) (n.getD ((0 : Nat) + k.toNat) (false, (0 : Int), [], [])).snd.snd.fst), List.take (List.length (n.getD ((0 : Nat) + k.toNat) (false, (0 : Int), [], [])).snd.snd.snd) (List.drop (0 : Nat) (n.getD ((0 : Nat) + k.toNat) (false, (0 : Int), [], [])).snd.snd.snd))).getD ((0 : Nat) + k.toNat) (false, (0 : Int), [], [])).snd.snd.fst.length (List.drop (0 : Nat) ((n.set ((0 : Nat) + k.toNat) ((n.getD ((0 : Nat) + k.toNat) (false, (0 : Int), [], [])).fst, (n.getD ((0 : Nat) + k.toNat) (false, (0 : Int), [], [])).snd.fst, List.take (n.getD ((0 : Nat) + k.toNat) (false, (0 : Int), [], [])).snd.snd.fst.length (List.drop (0 : Nat) (n.getD ((0 : Nat) + k.toNat) (false, (0 : Int), [], [])).snd.snd.fst), List.take (List.length (n.getD ((0 : Nat) + k.toNat) (false, (0 : Int), [], [])).snd.snd.snd) (List.drop (0 : Nat) (n.getD ((0 : Nat) + k.toNat) (false, (0 : Int), [], [])).snd.snd.snd))).getD ((0 : Nat) + k.toNat) (false, (0 : Int), [], [])).snd.snd.fst), List.take (List.length ((n.set ((0 : Nat) + k.toNat) ((n.getD ((0 : Nat) + k.toNat) (false, (0 : Int), [], [])).fst, (n.getD ((0 : Nat) + k.toNat) (false, (0 : Int), [], [])).snd.fst, List.take (n.getD ((0 : Nat) + k.toNat) (false, (0 : Int), [], [])).snd.snd.fst.length (List.drop (0 : Nat) (n.getD ((0 : Nat) + k.toNat) (false, (0 : Int), [], [])).snd.snd.fst), List.take (List.length (n.getD ((0 : Nat) + k.toNat) (false, (0 : Int), [], [])).snd.snd.snd) (List.drop (0 : Nat) (n.getD ((0 : Nat) + k.toNat) (false, (0 : Int), [], [])).snd.snd.snd))).getD ((0 : Nat) + k.toNat) (false, (0 : Int), [], [])).snd.snd.snd) (List.drop (0 : Nat) ((n.set ((0 : Nat) + k.toNat) ((n.getD ((0 : Nat) + k.toNat) (false, (0 : Int), [], [])).fst, (n.getD ((0 : Nat) + k.toNat) (false, (0 : Int), [], [])).snd.fst, List.take (n.getD ((0 : Nat) + k.toNat) (false, (0 : Int), [], [])).snd.snd.fst.length (List.drop (0 : Nat) (n.getD ((0 : Nat) + k.toNat) (false, (0 : Int), [], [])).snd.snd.fst), List.take (List.length (n.getD ((0 : Nat) + k.toNat) (false, (0 : Int), [], [])).snd.snd.snd) (List.drop (0 : Nat) (n.getD ((0 : Nat) + k.toNat) (false, (0 : Int), [], [])).snd.snd.snd))).getD ((0 : Nat) + k.toNat) (false, (0 : Int), [], [])).snd.snd.snd)))), List.take (List.length r0.fst.snd) (List.drop (0 : Nat) r0.fst.snd))).bind fun r1 => bif decide ((0 : Nat) + r0.fst.fst.length ≤ r0.fst.fst.length) && true then
 some ((List.take r0.fst.fst.length (List.drop (0 : Nat) r0.fst.fst), (0 : Int)), r1.snd) else none else none else none else none else none else none else bif end0.toNat.beq (1 : Nat) then
 bif decide ((0 : Nat) + List.length ((n.set ((0 : Nat) + k.toNat) ((n.getD ((0 : Nat) + k.toNat) (false, (0 : Int), [], [])).fst, (n.getD ((0 : Nat) + k.toNat) (false, (0 : Int), [], [])).snd.fst, List.take (n.getD ((0 : Nat) + k.toNat) (false, (0 : Int), [], [])).snd.snd.fst.length (List.drop (0 : Nat) (n.getD ((0 : Nat) + k.toNat) (false, (0 : Int), [], [])).snd.snd.fst), List.take (List.length (n.getD ((0 : Nat) + k.toNat) (false, (0 : Int), [], [])).snd.snd.snd) (List.drop (0 : Nat) (n.getD ((0 : Nat) + k.toNat) (false, (0 : Int), [], [])).snd.snd.snd))).getD ((0 : Nat) + k.toNat) (false, (0 : Int), [], [])).snd.snd.snd ≤ List.length ((n.set ((0 : Nat) + k.toNat) ((n.getD ((0 : Nat) + k.toNat) (false, (0 : Int), [], [])).fst, (n.getD ((0 : Nat) + k.toNat) (false, (0 : Int), [], [])).snd.fst, List.take (n.getD ((0 : Nat) + k.toNat) (false, (0 : Int), [], [])).snd.snd.fst.length (List.drop (0 : Nat) (n.getD ((0 : Nat) + k.toNat) (false, (0 : Int), [], [])).snd.snd.fst), List.take (List.length (n.getD ((0 : Nat) + k.toNat) (false, (0 : Int), [], [])).snd.snd.snd) (List.drop (0 : Nat) (n.getD ((0 : Nat) + k.toNat) (false, (0 : Int), [], [])).snd.snd.snd))).getD ((0 : Nat) + k.toNat) (false, (0 : Int), [], [])).snd.snd.snd) && true then
 (l1 (many, List.take (List.length ((n.set ((0 : Nat) + k.toNat) ((n.getD ((0 : Nat) + k.toNat) (false, (0 : Int), [], [])).fst, (n.getD ((0 : Nat) + k.toNat) (false, (0 : Int), [], [])).snd.fst, List.take (n.getD ((0 : Nat) + k.toNat) (false, (0 : Int), [], [])).snd.snd.fst.length (List.drop (0 : Nat) (n.getD ((0 : Nat) + k.toNat) (false, (0 : Int), [], [])).snd.snd.fst), List.take (List.length (n.getD ((0 : Nat) + k.toNat) (false, (0 : Int), [], [])).snd.snd.snd) (List.drop (0 : Nat) (n.getD ((0 : Nat) + k.toNat) (false, (0 : Int), [], [])).snd.snd.snd))).getD ((0 : Nat) + k.toNat) (false, (0 : Int), [], [])).snd.snd.snd) (List.drop (0 : Nat) ((n.set ((0 : Nat) + k.toNat) ((n.getD ((0 : Nat) + k.toNat) (false, (0 : Int), [], [])).fst, (n.getD ((0 : Nat) + k.toNat) (false, (0 : Int), [], [])).snd.fst, List.take (n.getD ((0 : Nat) + k.toNat) (false, (0 : Int), [], [])).snd.snd.fst.length (List.drop (0 : Nat) (n.getD ((0 : Nat) + k.toNat) (false, (0 : Int), [], [])).snd.snd.fst), List.take (List.length (n.getD ((0 : Nat) + k.toNat) (false, (0 : Int), [], [])).snd.snd.snd) (List.drop (0 : Nat) (n.getD ((0 : Nat) + k.toNat) (false, (0 : Int), [], [])).snd.snd.snd))).getD ((0 : Nat) + k.toNat) (false, (0 : Int), [], [])).snd.snd.snd)) ([], [], (0 : Int))).bind fun r0 => bif decide ((0 : Nat) + ((n.set ((0 : Nat) + k.toNat) ((n.getD ((0 : Nat) + k.toNat) (false, (0 : Int), [], [])).fst, (n.getD ((0 : Nat) + k.toNat) (false, (0 : Int), [], [])).snd.fst, List.take (n.getD ((0 : Nat) + k.toNat) (false, (0 : Int), [], [])).snd.snd.fst.length (List.drop (0 : Nat) (n.getD ((0 : Nat) + k.toNat) (false, (0 : Int), [], [])).snd.snd.fst), List.take (List.length (n.getD ((0 : Nat) + k.toNat) (false, (0 : Int), [], [])).snd.snd.snd) (List.drop (0 : Nat) (n.getD ((0 : Nat) + k.toNat) (false, (0 : Int), [], [])).snd.snd.snd))).getD ((0 : Nat) + k.toNat) (false, (0 : Int), [], [])).snd.snd.fst.length ≤ ((n.set ((0 : Nat) + k.toNat) ((n.getD ((0 : Nat) + k.toNat) (false, (0 : Int), [], [])).fst, (n.getD ((0 : Nat) + k.toNat) (false, (0 : Int), [], [])).snd.fst, List.take (n.getD ((0 : Nat) + k.toNat) (false, (0 : Int), [], [])).snd.snd.fst.length (List.drop (0 : Nat) (n.getD ((0 : Nat) + k.toNat) (false, (0 : Int), [], [])).snd.snd.fst), List.take (List.length (n.getD ((0 : Nat) + k.toNat) (false, (0 : Int), [], [])).snd.snd.snd) (List.drop (0 : Nat) (n.getD ((0 : Nat) + k.toNat) (false, (0 : Int), [], [])).snd.snd.snd))).getD ((0 : Nat) + k.toNat) (false, (0 : Int), [], [])).snd.snd.fst.length) && true then
 bif decide ((0 : Nat) + List.length ((n.set ((0 : Nat) + k.toNat) ((n.getD ((0 : Nat) + k.toNat) (false, (0 : Int), [], [])).fst, (n.getD ((0 : Nat) + k.toNat) (false, (0 : Int), [], [])).snd.fst, List.take (n.getD ((0 : Nat) + k.toNat) (false, (0 : Int), [], [])).snd.snd.fst.length (List.drop (0 : Nat) (n.getD ((0 : Nat) + k.toNat) (false, (0 : Int), [], [])).snd.snd.fst), List.take (List.length (n.getD ((0 : Nat) + k.toNat) (false, (0 : Int), [], [])).snd.snd.snd) (List.drop (0 : Nat) (n.getD ((0 : Nat) + k.toNat) (false, (0 : Int), [], [])).snd.snd.snd))).getD ((0 : Nat) + k.toNat) (false, (0 : Int), [], [])).snd.snd.snd ≤ List.length ((n.set ((0 : Nat) + k.toNat) ((n.getD ((0 : Nat) + k.toNat) (false, (0 : Int), [], [])).fst, (n.getD ((0 : Nat) + k.toNat) (false, (0 : Int), [], [])).snd.fst, List.take (n.getD ((0 : Nat) + k.toNat) (false, (0 : Int), [], [])).snd.snd.fst.length (List.drop (0 : Nat) (n.getD ((0 : Nat) + k.toNat) (false, (0 : Int), [], [])).snd.snd.fst), List.take (List.length (n.getD ((0 : Nat) + k.toNat) (false, (0 : Int), [], [])).snd.snd.snd) (List.drop (0 : Nat) (n.getD ((0 : Nat) + k.toNat) (false, (0 : Int), [], [])).snd.snd.snd))).getD ((0 : Nat) + k.toNat) (false, (0 : Int), [], [])).snd.snd.snd) && true then
 bif decide ((0 : Nat) + n.length ≤ ((n.set ((0 : Nat) + k.toNat) ((n.getD ((0 : Nat) + k.toNat) (false, (0 : Int), [], [])).fst, (n.getD ((0 : Nat) + k.toNat) (false, (0 : Int), [], [])).snd.fst, List.take (n.getD ((0 : Nat) + k.toNat) (false, (0 : Int), [], [])).snd.snd.fst.length (List.drop (0 : Nat) (n.getD ((0 : Nat) + k.toNat) (false, (0 : Int), [], [])).snd.snd.fst), List.take (List.length (n.getD ((0 : Nat) + k.toNat) (false, (0 : Int), [], [])).snd.snd.snd) (List.drop (0 : Nat) (n.getD ((0 : Nat) + k.toNat) (false, (0 : Int), [], [])).snd.snd.snd))).set ((0 : Nat) + k.toNat) (((n.set ((0 : Nat) + k.toNat) ((n.getD ((0 : Nat) + k.toNat) (false, (0 : Int), [], [])).fst, (n.getD ((0 : Nat) + k.toNat) (false, (0 : Int), [], [])).snd.fst, List.take (n.getD ((0 : Nat) + k.toNat) (false, (0 : Int), [], [])).snd.snd.fst.length (List.drop (0 : Nat) (n.getD ((0 : Nat) + k.toNat) (false, (0 : Int), [], [])).snd.snd.fst), List.take (List.length (n.getD ((0 : Nat) + k.toNat) (false, (0 : Int), [], [])).snd.snd.snd) (List.drop (0 : Nat) (n.getD ((0 : Nat) + k.toNat) (false, (0 : Int), [], [])).snd.snd.snd))).getD ((0 : Nat) + k.toNat) (false, (0 : Int), [], [])).fst, ((n.set ((0 : Nat) + k.toNat) ((n.getD ((0 : Nat) + k.toNat) (false, (0 : Int), [], [])).fst, (n.getD ((0 : Nat) + k.toNat) (false, (0 : Int), [], [])).snd.fst, List.take (n.getD ((0 : Nat) + k.toNat) (false, (0 : Int), [], [])).snd.snd.fst.length (List.drop (0 : Nat) (n.getD ((0 : Nat) + k.toNat) (false, (0 : Int), [], [])).snd.snd.fst), List.take (List.length (n.getD ((0 : Nat) + k.toNat) (false, (0 : Int), [], [])).snd.snd.snd) (List.drop (0 : Nat) (n.getD ((0 : Nat) + k.toNat) (false, (0 : Int), [], [])).snd.snd.snd))).getD ((0 : Nat) + k.toNat) (false, (0 : Int), [], [])).snd.fst, List.take ((n.set ((0 : Nat) + k.toNat) ((n.getD ((0 : Nat) + k.toNat) (false, (0 : Int), [], [])).fst, (n.getD ((0 : Nat) + k.toNat) (false, (0 : Int), [], [])).snd.fst, List.take (n.getD ((0 : Nat) + k.toNat) (false, (0 : Int), [], [])).snd.snd.fst.length (List.drop (0 : Nat) (n.getD ((0 : Nat) + k.toNat) (false, (0 : Int), [], [])).snd.snd.fst), List.take (List.length (n.getD ((0 : Nat) + k.toNat) (false, (0 : Int), [], [])).snd.snd.snd) (List.drop (0 : Nat) (n.getD ((0 : Nat) + k.toNat) (false, (0 : Int), [], [])).snd.snd.snd))).getD ((0 : Nat) + k.toNat) (false, (0 : Int), [], [])).snd.snd.fst.length (List.drop (0 : Nat) ((n.set ((0 : Nat) + k.toNat) ((n.getD ((0 : Nat) + k.toNat) (false, (0 : Int), [], [])).fst, (n.getD ((0 : Nat) + k.toNat) (false, (0 : Int), [], [])).snd.fst, List.take (n.getD ((0 : Nat) + k.toNat) (false, (0 : Int), [], [])).snd.snd.fst.length (List.drop (0 : Nat) (n.getD ((0 : Nat) + k.toNat) (false, (0 : Int), [], [])).snd.snd.fst), List.take (List.length (n.getD ((0 : Nat) + k.toNat) (false, (0 : Int), [], [])).snd.snd.snd) (List.drop (0 : Nat) (n.getD ((0 : Nat) + k.toNat) (false, (0 : Int), [], [])).snd.snd.snd))).getD ((0 : Nat) + k.toNat) (false, (0 : Int), [], [])).snd.snd.fst), List.take (List.length ((n.set ((0 : Nat) + k.toNat) ((n.getD ((0 : Nat) + k.toNat) (false, (0 : Int), [], [])).fst, (n.getD ((0 : Nat) + k.toNat) (false, (0 : Int), [], [])).snd.fst, List.take (n.getD ((0 : Nat) + k.toNat) (false, (0 : Int), [], [])).snd.snd.fst.length (List.drop (0 : Nat) (n.getD ((0 : Nat) + k.toNat) (false, (0 : Int), [], [])).snd.snd.fst), List.take (List.length (n.getD ((0 : Nat) + k.toNat) (false, (0 : Int), [], [])).snd.snd.snd) (List.drop (0 : Nat) (n.getD ((0 : Nat) + k.toNat) (false, (0 : Int), [], [])).snd.snd.snd))).getD ((0 : Nat) + k.toNat) (false, (0 : Int), [], [])).snd.snd.snd) (List.drop (0 : Nat) ((n.set ((0 : Nat) + k.toNat) ((n.getD ((0 : Nat) + k.toNat) (false, (0 : Int), [], [])).fst, (n.getD ((0 : Nat) + k.toNat) (false, (0 : Int), [], [])).snd.fst, List.take (n.getD ((0 : Nat) + k.toNat) (false, (0 : Int), [], [])).snd.snd.fst.length (List.drop (0 : Nat) (n.getD ((0 : Nat) + k.toNat) (false, (0 : Int), [], [])).snd.snd.fst), List.take (List.length (n.getD ((0 : Nat) + k.toNat) (false, (0 : Int), [], [])).snd.snd.snd) (List.drop (0 : Nat) (n.getD ((0 : Nat) + k.toNat) (false, (0 : Int), [], [])).snd.snd.snd))).getD ((0 : Nat) + k.toNat) (false, (0 : Int), [], [])).snd.snd.snd))).length) && true then
 bif decide ((0 : Nat) + List.length r0.fst.snd ≤ List.length r0.fst.snd) && true then
 (l2 (k, end0) (List.take n.length (List.drop (0 : Nat) ((n.set ((0 : Nat) + k.toNat) ((n.getD ((0 : Nat) + k.toNat) (false, (0 : Int), [], [])).fst, (n.getD ((0 : Nat) + k.toNat) (false, (0 : Int), [], [])).snd.fst, List.take (n.getD ((0 : Nat) + k.toNat) (false, (0 : Int), [], [])).snd.snd.fst.length (List.drop (0 : Nat) (n.getD ((0 : Nat) + k.toNat) (false, (0 : Int), [], [])).snd.snd.fst), List.take (List.length (n.getD ((0 : Nat) + k.toNat) (false, (0 : Int), [], [])).snd.snd.snd) (List.drop (0 : Nat) (n.getD ((0 : Nat) + k.toNat) (false, (0 : Int), [], [])).snd.snd.snd))).set ((0 : Nat) + k.toNat) (((n.set ((0 : Nat) + k.toNat) ((n.getD ((0 : Nat) + k.toNat) (false, (0 : Int), [], [])).fst, (n.getD ((0 : Nat) + k.toNat) (false, (0 : Int), [], [])).snd.fst, List.take (n.getD ((0 : Nat) + k.toNat) (false, (0 : Int), [], [])).snd.snd.fst.length (List.drop (0 : Nat) (n.getD ((0 : Nat) + k.toNat) (false, (0 : Int), [], [])).snd.snd.fst), List.take (List.length (n.getD ((0 : Nat) + k.toNat) (false, (0 : Int), [], [])).snd.snd.snd) (List.drop (0 : Nat) (n.getD ((0 : Nat) + k.toNat) (false, (0 : Int), [], [])).snd.snd.snd))).getD ((0 : Nat) + k.toNat) (false, (0 : Int), [], [])).fst, ((n.set ((0 : Nat) + k.toNat) ((n.getD ((0 : Nat) + k.toNat) (false, (0 : Int), [], [])).fst, (n.getD ((0 : Nat) + k.toNat) (false, (0 : Int), [], [])).snd.fst, List.take (n.getD ((0 : Nat) + k.toNat) (false, (0 : Int), [], [])).snd.snd.fst.length (List.drop (0 : Nat) (n.getD ((0 : Nat) + k.toNat) (false, (0 : Int), [], [])).snd.snd.fst), List.take (List.length (n.getD ((0 : Nat) + k.toNat) (false, (0 : Int), [], [])).snd.snd.snd) (List.drop (0 : Nat) (n.getD ((0 : Nat) + k.toNat) (false, (0 : Int), [], [])).snd.snd.snd))).getD ((0 : Nat) + k.toNat) (false, (0 : Int), [], [])).snd.fst, List.take ((n.set ((0 : Nat) + k.toNat) ((n.getD ((0 : Nat) + k.toNat) (false, (0 : Int), [], [])).fst, (n.getD ((0 : Nat) + k.toNat) (false, (0 : Int), [], [])).snd.fst, List.take (n.getD ((0 : Nat) + k.toNat) (false, (0 : Int), [], [])).snd.snd.fst.length (List.drop (0 : Nat) (n.getD ((0 : Nat) + k.toNat) (false, (0 : Int), [], [])).snd.snd.fst), List.take (List.length (n.getD ((0 : Nat) + k.toNat) (false, (0 : Int), [], [])).snd.snd.snd) (List.drop (0 : Nat) (n.getD ((0 : Nat) + k.toNat) (false, (0 : Int), [], [])).snd.snd.snd))).getD ((0 : Nat) + k.toNat) (false, (0 : Int), [], [])).snd.snd.fst.length (List.drop (0 : Nat) ((n.set ((0 : Nat) + k.toNat) ((n.getD ((0 : Nat) + k.toNat) (false, (0 : Int), [], [])).fst, (n.getD ((0 : Nat) + k.toNat) (false, (0 : Int), [], [])).snd.fst, List.take (n.getD ((0 : Nat) + k.toNat) (false, (0 : Int), [], [])).snd.snd.fst.length (List.drop (0 : Nat) (n.getD ((0 : Nat) + k.toNat) (false, (0 : Int), [], [])).snd.snd.fst), List.take (List.length (n.getD ((0 : Nat) + k.toNat) (false, (0 : Int), [], [])).snd.snd.snd) (List.drop (0 : Nat) (n.getD ((0 : Nat) + k.toNat) (false, (0 : Int), [], [])).snd.snd.snd))).getD ((0 : Nat) + k.toNat) (false, (0 : Int), [], [])).snd.snd.fst), List.take (List.length ((n.set ((0 : Nat) + k.toNat) ((n.getD ((0 : Nat) + k.toNat) (false, (0 : Int), [], [])).fst, (n.getD ((0 : Nat) + k.toNat) (false, (0 : Int), [], [])).snd.fst, List.take (n.getD ((0 : Nat) + k.toNat) (false, (0 : Int), [], [])).snd.snd.fst.length (List.drop (0 : Nat) (n.getD ((0 : Nat) + k.toNat) (false, (0 : Int), [], [])).snd.snd.fst), List.take (List.length (n.getD ((0 : Nat) + k.toNat) (false, (0 : Int), [], [])).snd.snd.snd) (List.drop (0 : Nat) (n.getD ((0 : Nat) + k.toNat) (false, (0 : Int), [], [])).snd.snd.snd))).getD ((0 : Nat) + k.toNat) (false, (0 : Int), [], [])).snd.snd.snd) (List.drop (0 : Nat) ((n.set ((0 : Nat) + k.toNat) ((n.getD ((0 : Nat) + k.toNat) (false, (0 : Int), [], [])).fst, (n.getD ((0 : Nat) + k.toNat) (false, (0 : Int), [], [])).snd.fst, List.take (n.getD ((0 : Nat) + k.toNat) (false, (0 : Int), [], [])).snd.snd.fst.length (List.drop (0 : Nat) (n.getD ((0 : Nat) + k.toNat) (false, (0 : Int), [], [])).snd.snd.fst), List.take (List.length (n.getD ((0 : Nat) + k.toNat) (false, (0 : Int), [], [])).snd.snd.snd) (List.drop (0 : Nat) (n.getD ((0 : Nat) + k.toNat) (false, (0 : Int), [], [])).snd.snd.snd))).getD ((0 : Nat) + k.toNat) (false, (0 : Int), [], [])).snd.snd.snd)))), List.take (List.length r0.fst.snd) (List.drop (0 : Nat) r0.fst.snd))).bind fun r1 => bif decide ((0 : Nat) + r0.fst.fst.length ≤ r0.fst.fst.length) && true then
 some ((List.take r0.fst.fst.length (List.drop (0 : Nat) r0.fst.fst), (0 : Int)), r1.snd) else none else none else none else none else none else none else none else none else none else none else none else none else none else none else some (([], (6 : Int)), n)
theorem fe (l1 : G1) (l2 : G2) (d : ((List (Bool × Int × List (Int) × List (Int)))) × Int × Int × Int) : bodyF (tabC Try.prog (tab) ((35, (.node .none (.node .none (.node .none (.node .none (.node .none (.node .none (.node (.node .none (.node (.unit (u1 l1)) .none)) (.node (.unit (u2 l2)) .none))))))))) :: pls) 100 10) 100 35 i o d = fP l1 l2 d := by kernel_rfl
noncomputable def f : FT := fP l1 l2
def plan (l1 : G1) (l2 : G2) : Plan := (.node .none (.node .none (.node .none (.node .none (.node .none (.node .none (.node (.node .none (.node (.unit (u1 l1)) .none)) (.node (.unit (u2 l2)) .none))))))))
theorem planOk : PlanOk Try.prog (plan l1 l2) (bodyOf Try.prog 35) := (planOk_of (plan l1 l2) _ [([1, 1, 1, 1, 1, 1, 0, 1, 0], u1 l1), ([1, 1, 1, 1, 1, 1, 1, 0], u2 l2)] rfl ⟨ok1, ok2, trivial⟩)
theorem meets : MeetsF Try.prog 35 ⟨i, o, f⟩ :=
  funcT (fuel := 100) (depth := 10) (pl := (35, plan l1 l2) :: pls) mixed tabS ⟨planOk, plsP⟩ (fun d => fe l1 l2 d)
theorem spec : SpecOk Try.prog (fun _ => none) 35 (specF ⟨i, o, f⟩) := specF_ok (by kernel_rfl) meets
end Go.Proofs.Yteoiaihjapddoaa.F35

/- What comes of function 25 of this program, (*consulate.consulateref29.Net).Waits, as the engine gives it. -/
namespace Go.Proofs.Yteoiaihjapddoaa.F25
open Go Go.Proofs Go.Proofs.Yteoiaihjapddoaa Go.RowKit Go.Proofs.Yteoiaihjapddoaa.Sx
set_option linter.unusedVariables false
set_option maxRecDepth 100000
def tab : List (FuncId × Sx.Spec) := []
def pls : List (FuncId × Plan) := []
@[reducible] def i : Sh := .pt true 51 (.sl true 56 (.sc .bool (.sc (.int .i64) (.sl true 5 (.sc (.int .u8) .nil) (.sl true 5 (.sc (.int .u8) .nil) .nil)))) .nil) (.sc (.int .i64) (.sc (.int .i64) .nil))
@[reducible] def o : Sh := .sc (.int .i64) .nil
abbrev FT := (((List (Bool × Int × List (Int) × List (Int)))) × Int × Int) → Option (Int × (((List (Bool × Int × List (Int) × List (Int))))))
theorem tabS : AllS Try.prog (tab) := trivial
theorem plsP : AllP Try.prog (pls) := trivial
theorem mixed : Try.prog.follows .mixedOrders = true := by kernel_rfl
def fP : FT := fun (n, k, end0) =>
    bif decide (k ≥ 0) then
      bif !decide (k < (↑n.length : Int)) then
       bif decide (0 + n.length ≤ n.length) && true then some (0, List.take n.length n) else none
      else
       bif end0 != 0 then
       bif end0 != 1 then bif decide (0 + n.length ≤ n.length) && true then some (0, List.take n.length n) else none
       else
       bif decide (0 ≤ k ∧ k < (↑n.length : Int) ∧ 0 < n.length) then
       bif decide (0 + k.toNat < n.length) then
       bif decide (0 ≤ end0 ∧ end0 < 2) then
       bif end0.toNat.beq 0 then
       bif
       decide
       (0 + (n.getD (0 + k.toNat) (false, 0, [], [])).snd.snd.fst.length ≤
       (n.getD (0 + k.toNat) (false, 0, [], [])).snd.snd.fst.length) &&
       true then
       bif
       decide
       (0 + List.length (n.getD (0 + k.toNat) (false, 0, [], [])).snd.snd.snd ≤
       List.length (n.getD (0 + k.toNat) (false, 0, [], [])).snd.snd.snd) &&
       true then
       bif
       decide
       (0 + n.length ≤
       (n.set (0 + k.toNat)
       ((n.getD (0 + k.toNat) (false, 0, [], [])).fst,
       (n.getD (0 + k.toNat) (false, 0, [], [])).snd.fst,
       List.take (n.getD (0 + k.toNat) (false, 0, [], [])).snd.snd.fst.length
       (List.drop 0 (n.getD (0 + k.toNat) (false, 0, [], [])).snd.snd.fst),
       List.take (List.length (n.getD (0 + k.toNat) (false, 0, [], [])).snd.snd.snd)
       (List.drop 0 (n.getD (0 + k.toNat) (false, 0, [], [])).snd.snd.snd))).length) &&
       true then
       some
       ((↑(n.getD (0 + k.toNat) (false, 0, [], [])).snd.snd.fst.length : Int),
       List.take n.length
       (List.drop 0
       (n.set (0 + k.toNat)
       ((n.getD (0 + k.toNat) (false, 0, [], [])).fst,
       (n.getD (0 + k.toNat) (false, 0, [], [])).snd.fst,
       List.take (n.getD (0 + k.toNat) (false, 0, [], [])).snd.snd.fst.length
       (List.drop 0 (n.getD (0 + k.toNat) (false, 0, [], [])).snd.snd.fst),
       List.take (List.length (n.getD (0 + k.toNat) (false, 0, [], [])).snd.snd.snd)
       (List.drop 0 (n.getD (0 + k.toNat) (false, 0, [], [])).snd.snd.snd)))))
       else none
       else none
       else none
       else
       bif end0.toNat.beq 1 then
       bif
       decide
       (0 + (n.getD (0 + k.toNat) (false, 0, [], [])).snd.snd.fst.length ≤
       (n.getD (0 + k.toNat) (false, 0, [], [])).snd.snd.fst.length) &&
       true then
       bif
       decide
       (0 + List.length (n.getD (0 + k.toNat) (false, 0, [], [])).snd.snd.snd ≤
       List.length (n.getD (0 + k.toNat) (false, 0, [], [])).snd.snd.snd) &&
       true then
       bif
       decide
       (0 + n.length ≤
       (n.set (0 + k.toNat)
       ((n.getD (0 + k.toNat) (false, 0, [], [])).fst,
       (n.getD (0 + k.toNat) (false, 0, [], [])).snd.fst,
       List.take (n.getD (0 + k.toNat) (false, 0, [], [])).snd.snd.fst.length
       (List.drop 0 (n.getD (0 + k.toNat) (false, 0, [], [])).snd.snd.fst),
       List.take (List.length (n.getD (0 + k.toNat) (false, 0, [], [])).snd.snd.snd)
       (List.drop 0
       (n.getD (0 + k.toNat) (false, 0, [], [])).snd.snd.snd))).length) &&
       true then
       some
       ((↑(List.length (n.getD (0 + k.toNat) (false, 0, [], [])).snd.snd.snd) : Int),
       List.take n.length
       (List.drop 0
       (n.set (0 + k.toNat)
       ((n.getD (0 + k.toNat) (false, 0, [], [])).fst,
       (n.getD (0 + k.toNat) (false, 0, [], [])).snd.fst,
       List.take (n.getD (0 + k.toNat) (false, 0, [], [])).snd.snd.fst.length
       (List.drop 0 (n.getD (0 + k.toNat) (false, 0, [], [])).snd.snd.fst),
       List.take (List.length (n.getD (0 + k.toNat) (false, 0, [], [])).snd.snd.snd)
       (List.drop 0 (n.getD (0 + k.toNat) (false, 0, [], [])).snd.snd.snd)))))
       else none
       else none
       else none
       else none
       else none
       else none
       else none
       else
       bif decide (0 ≤ k ∧ k < (↑n.length : Int) ∧ 0 < n.length) then
       bif decide (0 + k.toNat < n.length) then
       bif decide (0 ≤ end0 ∧ end0 < 2) then
       bif end0.toNat.beq 0 then
       bif
       decide
       (0 + (n.getD (0 + k.toNat) (false, 0, [], [])).snd.snd.fst.length ≤
       (n.getD (0 + k.toNat) (false, 0, [], [])).snd.snd.fst.length) &&
       true then
       bif
       decide
       (0 + List.length (n.getD (0 + k.toNat) (false, 0, [], [])).snd.snd.snd ≤
       List.length (n.getD (0 + k.toNat) (false, 0, [], [])).snd.snd.snd) &&
       true then
       bif
       decide
       (0 + n.length ≤
       (n.set (0 + k.toNat)
       ((n.getD (0 + k.toNat) (false, 0, [], [])).fst,
       (n.getD (0 + k.toNat) (false, 0, [], [])).snd.fst,
       List.take (n.getD (0 + k.toNat) (false, 0, [], [])).snd.snd.fst.length
       (List.drop 0 (n.getD (0 + k.toNat) (false, 0, [], [])).snd.snd.fst),
       List.take (List.length (n.getD (0 + k.toNat) (false, 0, [], [])).snd.snd.snd)
       (List.drop 0 (n.getD (0 + k.toNat) (false, 0, [], [])).snd.snd.snd))).length) &&
       true then
       some
       ((↑(n.getD (0 + k.toNat) (false, 0, [], [])).snd.snd.fst.length : Int),
       List.take n.length
       (List.drop 0
       (n.set (0 + k.toNat)
       ((n.getD (0 + k.toNat) (false, 0, [], [])).fst,
       (n.getD (0 + k.toNat) (false, 0, [], [])).snd.fst,
       List.take (n.getD (0 + k.toNat) (false, 0, [], [])).snd.snd.fst.length
       (List.drop 0 (n.getD (0 + k.toNat) (false, 0, [], [])).snd.snd.fst),
       List.take (List.length (n.getD (0 + k.toNat) (false, 0, [], [])).snd.snd.snd)
       (List.drop 0 (n.getD (0 + k.toNat) (false, 0, [], [])).snd.snd.snd)))))
       else none
       else none
       else none
       else
       bif end0.toNat.beq 1 then
       bif
       decide
       (0 + (n.getD (0 + k.toNat) (false, 0, [], [])).snd.snd.fst.length ≤
       (n.getD (0 + k.toNat) (false, 0, [], [])).snd.snd.fst.length) &&
       true then
       bif
       decide
       (0 + List.length (n.getD (0 + k.toNat) (false, 0, [], [])).snd.snd.snd ≤
       List.length (n.getD (0 + k.toNat) (false, 0, [], [])).snd.snd.snd) &&
       true then
       bif
       decide
       (0 + n.length ≤
       (n.set (0 + k.toNat)
       ((n.getD (0 + k.toNat) (false, 0, [], [])).fst,
       (n.getD (0 + k.toNat) (false, 0, [], [])).snd.fst,
       List.take (n.getD (0 + k.toNat) (false, 0, [], [])).snd.snd.fst.length
       (List.drop 0 (n.getD (0 + k.toNat) (false, 0, [], [])).snd.snd.fst),
       List.take (List.length (n.getD (0 + k.toNat) (false, 0, [], [])).snd.snd.snd)
       (List.drop 0 (n.getD (0 + k.toNat) (false, 0, [], [])).snd.snd.snd))).length) &&
       true then
       some
       ((↑(List.length (n.getD (0 + k.toNat) (false, 0, [], [])).snd.snd.snd) : Int),
       List.take n.length
       (List.drop 0
       (n.set (0 + k.toNat)
       ((n.getD (0 + k.toNat) (false, 0, [], [])).fst,
       (n.getD (0 + k.toNat) (false, 0, [], [])).snd.fst,
       List.take (n.getD (0 + k.toNat) (false, 0, [], [])).snd.snd.fst.length
       (List.drop 0 (n.getD (0 + k.toNat) (false, 0, [], [])).snd.snd.fst),
       List.take (List.length (n.getD (0 + k.toNat) (false, 0, [], [])).snd.snd.snd)
       (List.drop 0 (n.getD (0 + k.toNat) (false, 0, [], [])).snd.snd.snd)))))
       else none
       else none
       else none
       else none
       else none
       else none
       else none
    else some (0, n)
theorem fe (d : ((List (Bool × Int × List (Int) × List (Int)))) × Int × Int) : bodyF (tabC Try.prog (tab) ((25, .none) :: pls) 100 10) 100 25 i o d = fP d := by kernel_rfl
noncomputable def f : FT := fP
def plan : Plan := .none
theorem planOk : PlanOk Try.prog (plan) (bodyOf Try.prog 25) := (planOk_of (plan) _ [] (by kernel_rfl) trivial)
theorem meets : MeetsF Try.prog 25 ⟨i, o, f⟩ :=
  funcT (fuel := 100) (depth := 10) (pl := (25, plan) :: pls) mixed tabS ⟨planOk, plsP⟩ (fun d => fe  d)
theorem spec : SpecOk Try.prog (fun _ => none) 25 (specF ⟨i, o, f⟩) := specF_ok (by kernel_rfl) meets
end Go.Proofs.Yteoiaihjapddoaa.F25

/- What comes of function 31 of this program, (*consulate.consulateref29.Net).Add, as the engine gives it. -/
namespace Go.Proofs.Yteoiaihjapddoaa.F31
open Go Go.Proofs Go.Proofs.Yteoiaihjapddoaa Go.RowKit Go.Proofs.Yteoiaihjapddoaa.Sx
set_option linter.unusedVariables false
set_option maxRecDepth 100000
def tab : List (FuncId × Sx.Spec) := []
def pls : List (FuncId × Plan) := []
@[reducible] def i : Sh := .pt true 51 (.sl true 56 (.sc .bool (.sc (.int .i64) (.sl true 5 (.sc (.int .u8) .nil) (.sl true 5 (.sc (.int .u8) .nil) .nil)))) .nil) .nil
@[reducible] def o : Sh := .sc (.int .i64) (.sc (.int .i64) .nil)
abbrev FT := (((List (Bool × Int × List (Int) × List (Int))))) → Option ((Int × Int) × (((List (Bool × Int × List (Int) × List (Int))))))
theorem tabS : AllS Try.prog (tab) := trivial
theorem plsP : AllP Try.prog (pls) := trivial
theorem mixed : Try.prog.follows .mixedOrders = true := by kernel_rfl
def fP : FT := fun n =>
    bif decide ((↑n.length : Int) ≥ 64) then
      bif decide (0 + n.length ≤ n.length) && true then some ((0, 7), List.take n.length n) else none
    else
      bif decide (n.length + 1 ≤ 1073741824) then
       bif decide (0 + n.length ≤ n.length) then
       bif decide (0 + (n.length + 1) ≤ (List.take n.length n ++ [(false, 0, [], [])]).length) && true then
       some
       ((IntKind.i64.wrap ((↑(n.length + 1) : Int) - 1), 0),
       List.take (n.length + 1) (List.drop 0 (List.take n.length n ++ [(false, 0, [], [])])))
       else none
       else none
      else none
theorem fe (d : ((List (Bool × Int × List (Int) × List (Int))))) : bodyF (tabC Try.prog (tab) ((31, .none) :: pls) 100 10) 100 31 i o d = fP d := by kernel_rfl
noncomputable def f : FT := fP
def plan : Plan := .none
theorem planOk : PlanOk Try.prog (plan) (bodyOf Try.prog 31) := (planOk_of (plan) _ [] (by kernel_rfl) trivial)
theorem meets : MeetsF Try.prog 31 ⟨i, o, f⟩ :=
  funcT (fuel := 100) (depth := 10) (pl := (31, plan) :: pls) mixed tabS ⟨planOk, plsP⟩ (fun d => fe  d)
theorem spec : SpecOk Try.prog (fun _ => none) 31 (specF ⟨i, o, f⟩) := specF_ok (by kernel_rfl) meets
end Go.Proofs.Yteoiaihjapddoaa.F31

/- What comes of function 16 of this program, bytes.Equal, as the engine gives it. -/
namespace Go.Proofs.Yteoiaihjapddoaa.F16
open Go Go.Proofs Go.Proofs.Yteoiaihjapddoaa Go.RowKit Go.Proofs.Yteoiaihjapddoaa.Sx
set_option linter.unusedVariables false
set_option maxRecDepth 100000
def tab : List (FuncId × Sx.Spec) := []
def pls : List (FuncId × Plan) := []
@[reducible] def i : Sh := .sl false 5 (.sc (.int .u8) .nil) (.sl false 5 (.sc (.int .u8) .nil) .nil)
@[reducible] def o : Sh := .sc .bool .nil
abbrev FT := (List (Int) × List (Int)) → Option (Bool × Unit)
theorem tabS : AllS Try.prog (tab) := trivial
theorem plsP : AllP Try.prog (pls) := trivial
theorem mixed : Try.prog.follows .mixedOrders = true := by kernel_rfl
def fP : FT := fun (a, b) =>
    bif decide (0 + a.length ≤ a.length) then
      bif decide (0 + b.length ≤ b.length) then
       some
       ((ByteArray.mk (Array.mk (List.map (fun n => UInt8.ofNat n.toNat) (List.take a.length a)))).toList ==
       (ByteArray.mk (Array.mk (List.map (fun n => UInt8.ofNat n.toNat) (List.take b.length b)))).toList,
       PUnit.unit)
      else none
    else none
theorem fe (d : List (Int) × List (Int)) : bodyF (tabC Try.prog (tab) ((16, .none) :: pls) 100 10) 100 16 i o d = fP d := by kernel_rfl
noncomputable def f : FT := fP
def plan : Plan := .none
theorem planOk : PlanOk Try.prog (plan) (bodyOf Try.prog 16) := (planOk_of (plan) _ [] (by kernel_rfl) trivial)
theorem meets : MeetsF Try.prog 16 ⟨i, o, f⟩ :=
  funcT (fuel := 100) (depth := 10) (pl := (16, plan) :: pls) mixed tabS ⟨planOk, plsP⟩ (fun d => fe  d)
theorem spec : SpecOk Try.prog (fun _ => none) 16 (specF ⟨i, o, f⟩) := specF_ok (by kernel_rfl) meets
end Go.Proofs.Yteoiaihjapddoaa.F16

/- What comes of function 23 of this program, consulate.consulatelaw29.one, as the engine gives it. -/
namespace Go.Proofs.Yteoiaihjapddoaa.F23
open Go Go.Proofs Go.Proofs.Yteoiaihjapddoaa Go.RowKit Go.Proofs.Yteoiaihjapddoaa.Sx
set_option linter.unusedVariables false
set_option maxRecDepth 100000
def tab (x9 : F9.FT) (x31 : F31.FT) (x10 : F10.FT) (x32 : F32.FT) (x15 : F15.FT) (x33 : F33.FT) (x11 : F11.FT) (x34 : F34.FT) (x13 : F13.FT) (x35 : F35.FT) (x16 : F16.FT) : List (FuncId × Sx.Spec) := [(9, specF ⟨F9.i, F9.o, x9⟩), (31, specF ⟨F31.i, F31.o, x31⟩), (10, specF ⟨F10.i, F10.o, x10⟩), (32, specF ⟨F32.i, F32.o, x32⟩), (15, specF ⟨F15.i, F15.o, x15⟩), (33, specF ⟨F33.i, F33.o, x33⟩), (11, specF ⟨F11.i, F11.o, x11⟩), (34, specF ⟨F34.i, F34.o, x34⟩), (13, specF ⟨F13.i, F13.o, x13⟩), (35, specF ⟨F35.i, F35.o, x35⟩), (16, specF ⟨F16.i, F16.o, x16⟩)]
def pls (x9 : F9.FT) (x31 : F31.FT) (x10 : F10.FT) (x32 : F32.FT) (x15 : F15.FT) (x33 : F33.FT) (x11 : F11.FT) (x34 : F34.FT) (x13 : F13.FT) (x35 : F35.FT) (x16 : F16.FT) : List (FuncId × Plan) := []
@[reducible] def i : Sh := .pt true 59 (.sl true 61 (.sc .bool (.sc (.int .i64) (.sl true 5 (.sc (.int .u8) .nil) (.sl true 5 (.sc (.int .u8) .nil) .nil)))) (.sc .bool .nil)) (.pt true 51 (.sl true 56 (.sc .bool (.sc (.int .i64) (.sl true 5 (.sc (.int .u8) .nil) (.sl true 5 (.sc (.int .u8) .nil) .nil)))) .nil) (.ag none (.sc (.int .i64) (.sc (.int .i64) (.sc (.int .i64) (.sc (.int .i64) (.sl false 5 (.sc (.int .u8) .nil) .nil))))) .nil))
@[reducible] def o : Sh := .sc .bool .nil
abbrev FT := (((List (Bool × Int × List (Int) × List (Int))) × Bool) × ((List (Bool × Int × List (Int) × List (Int)))) × (Int × Int × Int × Int × List (Int))) → Option (Bool × (((List (Bool × Int × List (Int) × List (Int))) × Bool) × ((List (Bool × Int × List (Int) × List (Int))))))
theorem tabS : AllS Try.prog (tab F9.f F31.f F10.f F32.f F15.f F33.f F11.f F34.f F13.f F35.f F16.f) := ⟨F9.spec, F31.spec, F10.spec, F32.spec, F15.spec, F33.spec, F11.spec, F34.spec, F13.spec, F35.spec, F16.spec, trivial⟩
theorem plsP : AllP Try.prog (pls F9.f F31.f F10.f F32.f F15.f F33.f F11.f F34.f F13.f F35.f F16.f) := trivial
theorem mixed : Try.prog.follows .mixedOrders = true := by kernel_rfl
def fP (x9 : F9.FT) (x31 : F31.FT) (x10 : F10.FT) (x32 : F32.FT) (x15 : F15.FT) (x33 : F33.FT) (x11 : F11.FT) (x34 : F34.FT) (x13 : F13.FT) (x35 : F35.FT) (x16 : F16.FT) : FT := fun ((n0, n1), w, (a0, a1, a2, a3, a4)) =>
    bif
       decide
       ((0 : Int) ≤
       (some (if (300 : Int) < (↑a4.length : Int) then (300 : Int) else (↑a4.length : Int))).getD
       (↑a4.length : Int) ∧
       (some (if (300 : Int) < (↑a4.length : Int) then (300 : Int) else (↑a4.length : Int))).getD
       (↑a4.length : Int) ≤
       (↑a4.length : Int) ∧
       (0 : Nat) + a4.length ≤ a4.length) then
      bif a0 == (0 : Int) then
       (x9 (n0, n1)).bind fun r0 =>
       (x31 w).bind fun r1 =>
       bif r0.fst.fst == r1.fst.fst then some (r0.fst.snd == r1.fst.snd, r0.snd, r1.snd)
       else some (false, r0.snd, r1.snd)
      else
       bif a0 == (1 : Int) then
       bif decide ((0 : Nat) + n0.length ≤ n0.length) && true then
       (x10 ((List.take n0.length n0, n1), a1)).bind fun r0 =>
       bif decide ((0 : Nat) + w.length ≤ w.length) && true then
       (x32 (List.take w.length w, a1)).bind fun r1 => some (r0.fst == r1.fst, r0.snd, r1.snd)
       else none
       else none
       else
       bif a0 == (2 : Int) then
       bif decide ((0 : Nat) + n0.length ≤ n0.length) && true then
       (x15 ((List.take n0.length n0, n1), a1)).bind fun r0 =>
       bif decide ((0 : Nat) + w.length ≤ w.length) && true then
       (x33 (List.take w.length w, a1)).bind fun r1 => some (r0.fst == r1.fst, r0.snd, r1.snd)
       else none
       else none
       else
       bif a0 == (3 : Int) then
       bif decide ((0 : Nat) + n0.length ≤ n0.length) && true then
       bif
       decide
       ((0 : Nat) +
       ((some (if (300 : Int) < (↑a4.length : Int) then (300 : Int) else (↑a4.length : Int))).getD
       (↑a4.length : Int)).toNat ≤
       a4.length) &&
       true then
       (x11
       ((List.take n0.length n0, n1), a1, a2,
       List.take
       ((some (if (300 : Int) < (↑a4.length : Int) then (300 : Int) else (↑a4.length : Int))).getD
       (↑a4.length : Int)).toNat
       a4)).bind
       fun r0 =>
       bif decide ((0 : Nat) + w.length ≤ w.length) && true then
       bif
       decide
       ((0 : Nat) +
       ((some
       (if (300 : Int) < (↑a4.length : Int) then (300 : Int)
       else (↑a4.length : Int))).getD
       (↑a4.length : Int)).toNat ≤
       a4.length) &&
       true then
       (x34
       (List.take w.length w, a1, a2,
       List.take
       ((some
       (if (300 : Int) < (↑a4.length : Int) then (300 : Int)
       else (↑a4.length : Int))).getD
       (↑a4.length : Int)).toNat
       a4)).bind
       fun r1 => some (r0.fst == r1.fst, r0.snd, r1.snd)
       else none
       else none
       else none
       else none
       else
       bif a0 == (4 : Int) then
       bif decide ((0 : Nat) + n0.length ≤ n0.length) && true then
       bif
       decide
       ((0 : Nat) +
       ((some (if (300 : Int) < (↑a4.length : Int) then (300 : Int) else (↑a4.length : Int))).getD
       (↑a4.length : Int)).toNat ≤
       a4.length) &&
       true then
       (x11
       ((List.take n0.length n0, n1), a1, a2,
       List.take
       ((some (if (300 : Int) < (↑a4.length : Int) then (300 : Int) else (↑a4.length : Int))).getD
       (↑a4.length : Int)).toNat
       a4)).bind
       fun r0 =>
       bif decide ((0 : Nat) + w.length ≤ w.length) && true then
       bif
       decide
       ((0 : Nat) +
       ((some
       (if (300 : Int) < (↑a4.length : Int) then (300 : Int)
       else (↑a4.length : Int))).getD
       (↑a4.length : Int)).toNat ≤
       a4.length) &&
       true then
       (x34
       (List.take w.length w, a1, a2,
       List.take
       ((some
       (if (300 : Int) < (↑a4.length : Int) then (300 : Int)
       else (↑a4.length : Int))).getD
       (↑a4.length : Int)).toNat
       a4)).bind
       fun r1 => some (r0.fst == r1.fst, r0.snd, r1.snd)
       else none
       else none
       else none
       else none
       else
       bif a0 == (5 : Int) then
       bif decide ((0 : Nat) + n0.length ≤ n0.length) && true then
       bif
       decide
       ((0 : Nat) +
       ((some
       (if (300 : Int) < (↑a4.length : Int) then (300 : Int)
       else (↑a4.length : Int))).getD
       (↑a4.length : Int)).toNat ≤
       a4.length) &&
       true then
       (x11
       ((List.take n0.length n0, n1), a1, a2,
       List.take
       ((some
       (if (300 : Int) < (↑a4.length : Int) then (300 : Int)
       else (↑a4.length : Int))).getD
       (↑a4.length : Int)).toNat
       a4)).bind
       fun r0 =>
       bif decide ((0 : Nat) + w.length ≤ w.length) && true then
       bif
       decide
       ((0 : Nat) +
       ((some
       (if (300 : Int) < (↑a4.length : Int) then (300 : Int)
       else (↑a4.length : Int))).getD
       (↑a4.length : Int)).toNat ≤
       a4.length) &&
       true then
       (x34
       (List.take w.length w, a1, a2,
       List.take
       ((some
       (if (300 : Int) < (↑a4.length : Int) then (300 : Int)
       else (↑a4.length : Int))).getD
       (↑a4.length : Int)).toNat
       a4)).bind
       fun r1 => some (r0.fst == r1.fst, r0.snd, r1.snd)
       else none
       else none
       else none
       else none
       else
       bif a0 == (6 : Int) then
       (x13 ((n0, n1), a1, a2, a3)).bind fun r0 =>
       (x35 (w, a1, a2, a3)).bind fun r1 =>
       bif decide ((0 : Nat) + r0.fst.fst.length ≤ r0.fst.fst.length) && true then
       bif decide ((0 : Nat) + r1.fst.fst.length ≤ r1.fst.fst.length) && true then
       (x16
       (List.take r0.fst.fst.length (List.drop (0 : Nat) r0.fst.fst),
       List.take r1.fst.fst.length (List.drop (0 : Nat) r1.fst.fst))).bind
       fun r2 =>
       bif r2.fst then some (r0.fst.snd == r1.fst.snd, r0.snd, r1.snd)
       else some (false, r0.snd, r1.snd)
       else none
       else none
       else
       bif a0 == (7 : Int) then
       (x13 ((n0, n1), a1, a2, a3)).bind fun r0 =>
       (x35 (w, a1, a2, a3)).bind fun r1 =>
       bif decide ((0 : Nat) + r0.fst.fst.length ≤ r0.fst.fst.length) && true then
       bif decide ((0 : Nat) + r1.fst.fst.length ≤ r1.fst.fst.length) && true then
       (x16
       (List.take r0.fst.fst.length (List.drop (0 : Nat) r0.fst.fst),
       List.take r1.fst.fst.length (List.drop (0 : Nat) r1.fst.fst))).bind
       fun r2 =>
       bif r2.fst then some (r0.fst.snd == r1.fst.snd, r0.snd, r1.snd)
       else some (false, r0.snd, r1.snd)
       else none
       else none
       else
       bif a0 == (8 : Int) then
       (x13 ((n0, n1), a1, a2, a3)).bind fun r0 =>
       (x35 (w, a1, a2, a3)).bind fun r1 =>
       bif decide ((0 : Nat) + r0.fst.fst.length ≤ r0.fst.fst.length) && true then
       bif decide ((0 : Nat) + r1.fst.fst.length ≤ r1.fst.fst.length) && true then
       (x16
       (List.take r0.fst.fst.length (List.drop (0 : Nat) r0.fst.fst),
       List.take r1.fst.fst.length (List.drop (0 : Nat) r1.fst.fst))).bind
       fun r2 =>
       bif r2.fst then some (r0.fst.snd == r1.fst.snd, r0.snd, r1.snd)
       else some (false, r0.snd, r1.snd)
       else none
       else none
       else
       bif a0 == (9 : Int) then
       bif
       decide
       ((0 : Int) ≤ IntKind.i64.wrap ((IntKind.u64.wrap a3).tmod (20001 : Int)) ∧
       IntKind.i64.wrap ((IntKind.u64.wrap a3).tmod (20001 : Int)) ≤
       IntKind.i64.wrap ((IntKind.u64.wrap a3).tmod (20001 : Int)) ∧
       IntKind.i64.wrap ((IntKind.u64.wrap a3).tmod (20001 : Int)) ≤ (1073741824 : Int) ∧
       (↑(OfNat.ofNat (1 : Nat)) : Int) *
       IntKind.i64.wrap ((IntKind.u64.wrap a3).tmod (20001 : Int)) ≤
       (281474976710656 : Int)) then
       bif decide ((0 : Nat) + n0.length ≤ n0.length) && true then
       bif
       decide
       ((0 : Nat) + (IntKind.i64.wrap ((IntKind.u64.wrap a3).tmod (20001 : Int))).toNat ≤
       (List.replicate
       (IntKind.i64.wrap ((IntKind.u64.wrap a3).tmod (20001 : Int))).toNat
       (0 : Int)).length) &&
       true then
       (x11
       ((List.take n0.length n0, n1), a1, a2,
       List.take (IntKind.i64.wrap ((IntKind.u64.wrap a3).tmod (20001 : Int))).toNat
       (List.drop (0 : Nat)
       (List.replicate
       (IntKind.i64.wrap ((IntKind.u64.wrap a3).tmod (20001 : Int))).toNat
       (0 : Int))))).bind
       fun r0 =>
       bif decide ((0 : Nat) + w.length ≤ w.length) && true then
       bif
       decide
       ((0 : Nat) +
       (IntKind.i64.wrap ((IntKind.u64.wrap a3).tmod (20001 : Int))).toNat ≤
       (List.replicate
       (IntKind.i64.wrap ((IntKind.u64.wrap a3).tmod (20001 : Int))).toNat
       (0 : Int)).length) &&
       true then
       (x34
       (List.take w.length w, a1, a2,
       List.take
       (IntKind.i64.wrap ((IntKind.u64.wrap a3).tmod (20001 : Int))).toNat
       (List.drop (0 : Nat)
       (List.replicate
       (IntKind.i64.wrap ((IntKind.u64.wrap a3).tmod (20001 : Int))).toNat
       (0 : Int))))).bind
       fun r1 => some (r0.fst == r1.fst, r0.snd, r1.snd)
       else none
       else none
       else none
       else none
       else none
       else some (true, (n0, n1), w)
    else none
theorem fe (x9 : F9.FT) (x31 : F31.FT) (x10 : F10.FT) (x32 : F32.FT) (x15 : F15.FT) (x33 : F33.FT) (x11 : F11.FT) (x34 : F34.FT) (x13 : F13.FT) (x35 : F35.FT) (x16 : F16.FT) (d : ((List (Bool × Int × List (Int) × List (Int))) × Bool) × ((List (Bool × Int × List (Int) × List (Int)))) × (Int × Int × Int × Int × List (Int))) : bodyF (tabC Try.prog (tab x9 x31 x10 x32 x15 x33 x11 x34 x13 x35 x16) ((23, .none) :: pls x9 x31 x10 x32 x15 x33 x11 x34 x13 x35 x16) 100 10) 100 23 i o d = fP x9 x31 x10 x32 x15 x33 x11 x34 x13 x35 x16 d := by kernel_rfl
noncomputable def f : FT := fP F9.f F31.f F10.f F32.f F15.f F33.f F11.f F34.f F13.f F35.f F16.f
def plan : Plan := .none
theorem planOk : PlanOk Try.prog (plan) (bodyOf Try.prog 23) := (planOk_of (plan) _ [] (by kernel_rfl) trivial)
theorem meets : MeetsF Try.prog 23 ⟨i, o, f⟩ :=
  funcT (fuel := 100) (depth := 10) (pl := (23, plan) :: pls F9.f F31.f F10.f F32.f F15.f F33.f F11.f F34.f F13.f F35.f F16.f) mixed tabS ⟨planOk, plsP⟩ (fun d => fe F9.f F31.f F10.f F32.f F15.f F33.f F11.f F34.f F13.f F35.f F16.f d)
theorem spec : SpecOk Try.prog (fun _ => none) 23 (specF ⟨i, o, f⟩) := specF_ok (by kernel_rfl) meets
end Go.Proofs.Yteoiaihjapddoaa.F23

/- What comes of function 37 of this program, slices.IndexFunc[[]consulate.net.link,consulate.net.link], as the engine gives it. -/
namespace Go.Proofs.Yteoiaihjapddoaa.F37
open Go Go.Proofs Go.Proofs.Yteoiaihjapddoaa Go.RowKit Go.Proofs.Yteoiaihjapddoaa.Sx
set_option linter.unusedVariables false
set_option maxRecDepth 100000
def tab : List (FuncId × Sx.Spec) := []
def pls : List (FuncId × Plan) := []
@[reducible] def k1 : Sh := .sl false 61 (.sc .bool (.sc (.int .i64) (.sl true 5 (.sc (.int .u8) .nil) (.sl true 5 (.sc (.int .u8) .nil) .nil)))) (.sc (.fn 30) (.sc (.int .i64) .nil))
@[reducible] def i1 : Sh := .sc (.int .i64) .nil
@[reducible] def o1 : Sh := .sc (.int .i64) (.sc (.int .i64) .nil)
abbrev G1 := ((List (Bool × Int × List (Int) × List (Int))) × Unit × Int) → Int → Option ((Int × Int) × Unit)
def u1 (F : G1) : Un := ⟨19, [0, 1, 7], k1, [8], i1, [4], o1, [0, 1, 7], [(.exit 0, [false]), (.ret, [true])], F⟩
theorem tabS : AllS Try.prog (tab) := trivial
theorem plsP : AllP Try.prog (pls) := trivial
theorem mixed : Try.prog.follows .mixedOrders = true := by kernel_rfl
def r1P : ((List (Bool × Int × List (Int) × List (Int))) × Unit × Int) → Int → Option (Int ⊕ ((Int × Int) × Unit)) := fun (s, f_2, t7) t8 =>
    bif decide (t8 < t7) then
      bif decide (0 ≤ t8 ∧ t8 < (↑s.length : Int) ∧ 0 < s.length) then
       bif decide (0 + t8.toNat < s.length) then
       bif
       decide
       (IntKind.i64.wrap
       ((↑(s.getD (0 + t8.toNat) (false, 0, [], [])).snd.snd.fst.length : Int) +
       (↑(List.length (s.getD (0 + t8.toNat) (false, 0, [], [])).snd.snd.snd) : Int)) >
       0) then
       some (Sum.inr ((1, t8), PUnit.unit))
       else some (Sum.inl (IntKind.i64.wrap (t8 + 1)))
       else none
      else none
    else some (Sum.inr ((0, 0), PUnit.unit))
theorem r1e (kd : (List (Bool × Int × List (Int) × List (Int))) × Unit × Int) (d : Int) : roundF (tabC Try.prog (tab) (pls) 100 10) 100 .none (u1 fun _ _ => none) (codeAt [1, 0, 1, 0, 0] (bodyOf Try.prog 37)) kd d = r1P kd d := by kernel_rfl
noncomputable def r1 : ((List (Bool × Int × List (Int) × List (Int))) × Unit × Int) → Int → Option (Int ⊕ ((Int × Int) × Unit)) := r1P
noncomputable def l1 : G1 := fun kd d => iterO (r1 kd) d
theorem ok1 : UnOk Try.prog (u1 l1) (codeAt [1, 0, 1, 0] (bodyOf Try.prog 37)) :=
  loopT (p := .none) (c := codeAt [1, 0, 1, 0, 0] (bodyOf Try.prog 37)) (fuel := 100) (depth := 10) mixed tabS plsP (by kernel_rfl) trivial (by kernel_rfl) (fun kd d => r1e  kd d) rfl
def plan (l1 : G1) : Plan := (.node .none (.node (.node .none (.node (.unit (u1 l1)) .none)) .none))
theorem planOk : PlanOk Try.prog (plan l1) (bodyOf Try.prog 37) := (planOk_of (plan l1) _ [([1, 0, 1, 0], u1 l1)] rfl ⟨ok1, trivial⟩)
end Go.Proofs.Yteoiaihjapddoaa.F37

/- What comes of function 20 of this program, (*consulate.net.Net).Quiet, as the engine gives it. -/
namespace Go.Proofs.Yteoiaihjapddoaa.F20
open Go Go.Proofs Go.Proofs.Yteoiaihjapddoaa Go.RowKit Go.Proofs.Yteoiaihjapddoaa.Sx
set_option linter.unusedVariables false
set_option maxRecDepth 100000
def tab (l37_1 : F37.G1) : List (FuncId × Sx.Spec) := []
def pls (l37_1 : F37.G1) : List (FuncId × Plan) := [(37, F37.plan l37_1)]
@[reducible] def i : Sh := .pt true 59 (.sl true 61 (.sc .bool (.sc (.int .i64) (.sl true 5 (.sc (.int .u8) .nil) (.sl true 5 (.sc (.int .u8) .nil) .nil)))) (.sc .bool .nil)) .nil
@[reducible] def o : Sh := .sc .bool .nil
abbrev FT := (((List (Bool × Int × List (Int) × List (Int))) × Bool)) → Option (Bool × (((List (Bool × Int × List (Int) × List (Int))) × Bool)))
theorem tabS : AllS Try.prog (tab F37.l1) := trivial
theorem plsP : AllP Try.prog (pls F37.l1) := ⟨F37.planOk, trivial⟩
theorem mixed : Try.prog.follows .mixedOrders = true := by kernel_rfl
def fP (l37_1 : F37.G1) : FT := fun (n0, n1) =>
    bif decide (0 + n0.length ≤ n0.length) && true then
      (l37_1 (List.take n0.length n0, PUnit.unit, (↑n0.length : Int)) (OfNat.ofNat 0)).bind fun r0 =>
       bif decide (r0.fst.fst = 0) then
       bif decide (0 + n0.length ≤ n0.length) && true then some (true, List.take n0.length n0, n1) else none
       else
       bif decide (r0.fst.fst = 1) then
       bif decide (0 + n0.length ≤ n0.length) && true then
       some (!decide (r0.fst.snd ≥ 0), List.take n0.length n0, n1)
       else none
       else none
    else none
theorem fe (l37_1 : F37.G1) (d : ((List (Bool × Int × List (Int) × List (Int))) × Bool)) : bodyF (tabC Try.prog (tab l37_1) ((20, .none) :: pls l37_1) 100 10) 100 20 i o d = fP l37_1 d := by kernel_rfl
noncomputable def f : FT := fP F37.l1
def plan : Plan := .none
theorem planOk : PlanOk Try.prog (plan) (bodyOf Try.prog 20) := (planOk_of (plan) _ [] (by kernel_rfl) trivial)
theorem meets : MeetsF Try.prog 20 ⟨i, o, f⟩ :=
  funcT (fuel := 100) (depth := 10) (pl := (20, plan) :: pls F37.l1) mixed tabS ⟨planOk, plsP⟩ (fun d => fe F37.l1 d)
theorem spec : SpecOk Try.prog (fun _ => none) 20 (specF ⟨i, o, f⟩) := specF_ok (by kernel_rfl) meets
end Go.Proofs.Yteoiaihjapddoaa.F20

/- What comes of function 24 of this program, (*consulate.consulateref29.Net).Quiet, as the engine gives it. -/
namespace Go.Proofs.Yteoiaihjapddoaa.F24
open Go Go.Proofs Go.Proofs.Yteoiaihjapddoaa Go.RowKit Go.Proofs.Yteoiaihjapddoaa.Sx
set_option linter.unusedVariables false
set_option maxRecDepth 100000
def tab : List (FuncId × Sx.Spec) := []
def pls : List (FuncId × Plan) := []
@[reducible] def k1 : Sh := .pt true 51 (.sl true 56 (.sc .bool (.sc (.int .i64) (.sl true 5 (.sc (.int .u8) .nil) (.sl true 5 (.sc (.int .u8) .nil) .nil)))) .nil) .nil
@[reducible] def i1 : Sh := .sc (.int .i64) .nil
@[reducible] def o1 : Sh := .sc (.int .i64) (.sc .bool .nil)
abbrev G1 := (((List (Bool × Int × List (Int) × List (Int))))) → Int → Option ((Int × Bool) × Unit)
def u1 (F : G1) : Un := ⟨37, [0], k1, [3], i1, [2], o1, [0], [(.exit 0, [false]), (.ret, [true])], F⟩
@[reducible] def i : Sh := .pt true 51 (.sl true 56 (.sc .bool (.sc (.int .i64) (.sl true 5 (.sc (.int .u8) .nil) (.sl true 5 (.sc (.int .u8) .nil) .nil)))) .nil) .nil
@[reducible] def o : Sh := .sc .bool .nil
abbrev FT := (((List (Bool × Int × List (Int) × List (Int))))) → Option (Bool × (((List (Bool × Int × List (Int) × List (Int))))))
theorem tabS : AllS Try.prog (tab) := trivial
theorem plsP : AllP Try.prog (pls) := trivial
theorem mixed : Try.prog.follows .mixedOrders = true := by kernel_rfl
def r1P : (((List (Bool × Int × List (Int) × List (Int))))) → Int → Option (Int ⊕ ((Int × Bool) × Unit)) := fun n i =>
    bif decide (i < (↑n.length : Int)) then
      bif decide (0 ≤ i ∧ i < (↑n.length : Int) ∧ 0 < n.length) then
       bif decide (0 + i.toNat < n.length) then
       bif decide ((↑(n.getD (0 + i.toNat) (false, 0, [], [])).snd.snd.fst.length : Int) > 0) then
       some (Sum.inr ((1, false), PUnit.unit))
       else
       bif decide (0 ≤ i ∧ i < (↑n.length : Int) ∧ 0 < n.length) then
       bif decide (0 + i.toNat < n.length) then
       bif decide ((↑(List.length (n.getD (0 + i.toNat) (false, 0, [], [])).snd.snd.snd) : Int) > 0) then
       some (Sum.inr ((1, false), PUnit.unit))
       else some (Sum.inl (IntKind.i64.wrap (i + 1)))
       else none
       else none
       else none
      else none
    else some (Sum.inr ((0, false), PUnit.unit))
theorem r1e (kd : ((List (Bool × Int × List (Int) × List (Int))))) (d : Int) : roundF (tabC Try.prog (tab) (pls) 100 10) 100 .none (u1 fun _ _ => none) (codeAt [1, 0, 1, 0, 0] (bodyOf Try.prog 24)) kd d = r1P kd d := by kernel_rfl
noncomputable def r1 : (((List (Bool × Int × List (Int) × List (Int))))) → Int → Option (Int ⊕ ((Int × Bool) × Unit)) := r1P
noncomputable def l1 : G1 := fun kd d => iterO (r1 kd) d
theorem ok1 : UnOk Try.prog (u1 l1) (codeAt [1, 0, 1, 0] (bodyOf Try.prog 24)) :=
  loopT (p := .none) (c := codeAt [1, 0, 1, 0, 0] (bodyOf Try.prog 24)) (fuel := 100) (depth := 10) mixed tabS plsP (by kernel_rfl) trivial (by kernel_rfl) (fun kd d => r1e  kd d) rfl
def fP (l1 : G1) : FT := fun n =>
    (l1 n (OfNat.ofNat 0)).bind fun r0 =>
      bif decide (r0.fst.fst = 0) then some (true, n) else bif decide (r0.fst.fst = 1) then some (r0.fst.snd, n) else none
theorem fe (l1 : G1) (d : ((List (Bool × Int × List (Int) × List (Int))))) : bodyF (tabC Try.prog (tab) ((24, (.node .none (.node (.node .none (.node (.unit (u1 l1)) .none)) .none))) :: pls) 100 10) 100 24 i o d = fP l1 d := by kernel_rfl
noncomputable def f : FT := fP l1
def plan (l1 : G1) : Plan := (.node .none (.node (.node .none (.node (.unit (u1 l1)) .none)) .none))
theorem planOk : PlanOk Try.prog (plan l1) (bodyOf Try.prog 24) := (planOk_of (plan l1) _ [([1, 0, 1, 0], u1 l1)] rfl ⟨ok1, trivial⟩)
theorem meets : MeetsF Try.prog 24 ⟨i, o, f⟩ :=
  funcT (fuel := 100) (depth := 10) (pl := (24, plan l1) :: pls) mixed tabS ⟨planOk, plsP⟩ (fun d => fe l1 d)
theorem spec : SpecOk Try.prog (fun _ => none) 24 (specF ⟨i, o, f⟩) := specF_ok (by kernel_rfl) meets
end Go.Proofs.Yteoiaihjapddoaa.F24

/- What comes of function 22 of this program, (*consulate.net.Net).Copy, as the engine gives it. -/
namespace Go.Proofs.Yteoiaihjapddoaa.F22
open Go Go.Proofs Go.Proofs.Yteoiaihjapddoaa Go.RowKit Go.Proofs.Yteoiaihjapddoaa.Sx
set_option linter.unusedVariables false
set_option maxRecDepth 100000
def tab (x28 : F28.FT) : List (FuncId × Sx.Spec) := [(28, specF ⟨F28.i, F28.o, x28⟩)]
def pls (x28 : F28.FT) : List (FuncId × Plan) := []
@[reducible] def k1 : Sh := .sl false 61 (.sc .bool (.sc (.int .i64) (.sl true 5 (.sc (.int .u8) .nil) (.sl true 5 (.sc (.int .u8) .nil) .nil)))) (.sc (.int .i64) .nil)
@[reducible] def i1 : Sh := .pt true 59 (.sl true 61 (.sc .bool (.sc (.int .i64) (.sl true 5 (.sc (.int .u8) .nil) (.sl true 5 (.sc (.int .u8) .nil) .nil)))) (.sc .bool .nil)) (.sc (.int .i64) .nil)
@[reducible] def o1 : Sh := .nil
abbrev G1 := ((List (Bool × Int × List (Int) × List (Int))) × Int) → (((List (Bool × Int × List (Int) × List (Int))) × Bool) × Int) → Option (Unit × (((List (Bool × Int × List (Int) × List (Int))) × Bool)))
def u1 (F : G1) : Un := ⟨47, [19, 20], k1, [3, 21], i1, [], o1, [3, 19, 20], [(.exit 0, [])], F⟩
@[reducible] def i : Sh := .pt true 59 (.sl true 61 (.sc .bool (.sc (.int .i64) (.sl true 5 (.sc (.int .u8) .nil) (.sl true 5 (.sc (.int .u8) .nil) .nil)))) (.sc .bool .nil)) .nil
@[reducible] def o : Sh := .po true 59 (.sl true 61 (.sc .bool (.sc (.int .i64) (.sl true 5 (.sc (.int .u8) .nil) (.sl true 5 (.sc (.int .u8) .nil) .nil)))) (.sc .bool .nil)) .nil
abbrev FT := (((List (Bool × Int × List (Int) × List (Int))) × Bool)) → Option (((Option ((List (Bool × Int × List (Int) × List (Int))) × Bool))) × (((List (Bool × Int × List (Int) × List (Int))) × Bool)))
theorem tabS : AllS Try.prog (tab F28.f) := ⟨F28.spec, trivial⟩
theorem plsP : AllP Try.prog (pls F28.f) := trivial
theorem mixed : Try.prog.follows .mixedOrders = true := by kernel_rfl
def r1P (x28 : F28.FT) : ((List (Bool × Int × List (Int) × List (Int))) × Int) → (((List (Bool × Int × List (Int) × List (Int))) × Bool) × Int) → Option ((((List (Bool × Int × List (Int) × List (Int))) × Bool) × Int) ⊕ (Unit × (((List (Bool × Int × List (Int) × List (Int))) × Bool)))) := fun (t19, t20) ((c0, c1), t21) =>
    bif decide (t21 < t20) then
      bif decide ((0 : Int) ≤ t21 ∧ t21 < (↑t19.length : Int) ∧ (0 : Nat) < t19.length) then
       bif decide ((0 : Nat) + t21.toNat < t19.length) then
       bif
       decide
       ((0 : Nat) + (t19.getD ((0 : Nat) + t21.toNat) (false, (0 : Int), [], [])).snd.snd.fst.length ≤
       (t19.getD ((0 : Nat) + t21.toNat) (false, (0 : Int), [], [])).snd.snd.fst.length) &&
       true then
       (x28
       (List.take (t19.getD ((0 : Nat) + t21.toNat) (false, (0 : Int), [], [])).snd.snd.fst.length
       (List.drop (0 : Nat) (t19.getD ((0 : Nat) + t21.toNat) (false, (0 : Int), [], [])).snd.snd.fst))).bind
       fun r0 =>
       bif
       decide
       ((0 : Nat) + List.length (t19.getD ((0 : Nat) + t21.toNat) (false, (0 : Int), [], [])).snd.snd.snd ≤
       List.length (t19.getD ((0 : Nat) + t21.toNat) (false, (0 : Int), [], [])).snd.snd.snd) &&
       true then
       (x28
       (List.take (List.length (t19.getD ((0 : Nat) + t21.toNat) (false, (0 : Int), [], [])).snd.snd.snd)
       (List.drop (0 : Nat)
       (t19.getD ((0 : Nat) + t21.toNat) (false, (0 : Int), [], [])).snd.snd.snd))).bind
       fun r1 =>
       bif decide (c0.length + (4 : Nat) / OfNat.ofNat (4 : Nat) ≤ (1073741824 : Nat)) then
       bif decide ((0 : Nat) + c0.length ≤ c0.length) then
       bif decide ((0 : Nat) + List.length r0.fst ≤ List.length r0.fst) && true then
       bif decide ((0 : Nat) + List.length r1.fst ≤ List.length r1.fst) && true then
       bif
       decide
       ((0 : Nat) + (c0.length + (4 : Nat) / OfNat.ofNat (4 : Nat)) ≤
       (List.take c0.length c0 ++
       [((t19.getD ((0 : Nat) + t21.toNat) (false, (0 : Int), [], [])).fst,
       (t19.getD ((0 : Nat) + t21.toNat) (false, (0 : Int), [], [])).snd.fst,
       List.take (List.length r0.fst) (List.drop (0 : Nat) r0.fst),
       List.take (List.length r1.fst) (List.drop (0 : Nat) r1.fst))]).length) &&
       true then
       some
       (Sum.inl
       ((List.take (c0.length + (4 : Nat) / OfNat.ofNat (4 : Nat))
       (List.drop (0 : Nat)
       (List.take c0.length c0 ++
       [((t19.getD ((0 : Nat) + t21.toNat) (false, (0 : Int), [], [])).fst,
       (t19.getD ((0 : Nat) + t21.toNat) (false, (0 : Int), [], [])).snd.fst,
       List.take (List.length r0.fst) (List.drop (0 : Nat) r0.fst),
       List.take (List.length r1.fst) (List.drop (0 : Nat) r1.fst))])),
       c1),
       IntKind.i64.wrap (t21 + (1 : Int))))
       else none
       else none
       else none
       else none
       else none
       else none
       else none
       else none
      else none
    else some (Sum.inr (PUnit.unit, c0, c1))
theorem r1e (x28 : F28.FT) (kd : (List (Bool × Int × List (Int) × List (Int))) × Int) (d : ((List (Bool × Int × List (Int) × List (Int))) × Bool) × Int) : roundF (tabC Try.prog (tab x28) (pls x28) 100 10) 100 .none (u1 fun _ _ => none) (codeAt [1, 1, 1, 0, 1, 0, 0] (bodyOf Try.prog 22)) kd d = r1P x28 kd d := by kernel_rfl
noncomputable def r1 : ((List (Bool × Int × List (Int) × List (Int))) × Int) → (((List (Bool × Int × List (Int) × List (Int))) × Bool) × Int) → Option ((((List (Bool × Int × List (Int) × List (Int))) × Bool) × Int) ⊕ (Unit × (((List (Bool × Int × List (Int) × List (Int))) × Bool)))) := r1P F28.f
noncomputable def l1 : G1 := fun kd d => iterO (r1 kd) d
theorem ok1 : UnOk Try.prog (u1 l1) (codeAt [1, 1, 1, 0, 1, 0] (bodyOf Try.prog 22)) :=
  loopT (p := .none) (c := codeAt [1, 1, 1, 0, 1, 0, 0] (bodyOf Try.prog 22)) (fuel := 100) (depth := 10) mixed tabS plsP (by kernel_rfl) trivial (by kernel_rfl) (fun kd d => r1e F28.f kd d) rfl
def fP (x28 : F28.FT) (l1 : G1) : FT := fun (n0, n1) =>
    bif !n1 then some (none, n0, n1)
    else
      bif decide ((0 : Nat) + n0.length ≤ n0.length) && true then
       (l1 (List.take n0.length n0, (↑n0.length : Int)) (([], true), (0 : Int))).bind fun r0 =>
       bif decide ((0 : Nat) + n0.length ≤ n0.length) && true then some (some r0.snd, List.take n0.length n0, n1)
       else none
      else none
theorem fe (x28 : F28.FT) (l1 : G1) (d : ((List (Bool × Int × List (Int) × List (Int))) × Bool)) : bodyF (tabC Try.prog (tab x28) ((22, (.node .none (.node .none (.node .none (.node (.node .none (.node (.unit (u1 l1)) .none)) .none))))) :: pls x28) 100 10) 100 22 i o d = fP x28 l1 d := by kernel_rfl
noncomputable def f : FT := fP F28.f l1
def plan (l1 : G1) : Plan := (.node .none (.node .none (.node .none (.node (.node .none (.node (.unit (u1 l1)) .none)) .none))))
theorem planOk : PlanOk Try.prog (plan l1) (bodyOf Try.prog 22) := (planOk_of (plan l1) _ [([1, 1, 1, 0, 1, 0], u1 l1)] rfl ⟨ok1, trivial⟩)
theorem meets : MeetsF Try.prog 22 ⟨i, o, f⟩ :=
  funcT (fuel := 100) (depth := 10) (pl := (22, plan l1) :: pls F28.f) mixed tabS ⟨planOk, plsP⟩ (fun d => fe F28.f l1 d)
theorem spec : SpecOk Try.prog (fun _ => none) 22 (specF ⟨i, o, f⟩) := specF_ok (by kernel_rfl) meets
end Go.Proofs.Yteoiaihjapddoaa.F22

/- What stands on its own: function 14 says true. -/
namespace Go.Proofs.Yteoiaihjapddoaa.KA
open Go Go.Proofs Go.Proofs.Yteoiaihjapddoaa Go.RowKit Go.Proofs.Yteoiaihjapddoaa.Sx
theorem mixed : Try.prog.follows .mixedOrders = true := by kernel_rfl
theorem tells (W : World) (hW : GlobW W) : Calls Try.prog 14 #[] W (Law.Told W) :=
  closed_law (C := tower (base Try.prog) [] 100 12) (tower_ok (base_ok _) (noPlans _ rfl) mixed (fun _ _ h => by cases h) 12) rfl (by kernel_rfl) W hW
end Go.Proofs.Yteoiaihjapddoaa.KA
