/- What comes of function 34 of this program, (*consulate.consulateref29.Net).Send, as the engine gives it. -/
import Derived.Test.YteoiaihjapddoaaChecked
import Derived.Test.YteoiaihjapddoaaZO
namespace Go.Proofs.Yteoiaihjapddoaa.F34
open Go Go.Proofs Go.Proofs.Yteoiaihjapddoaa Go.RowKit Go.Proofs.Yteoiaihjapddoaa.Sx
set_option linter.unusedVariables false
set_option maxRecDepth 100000
def tab : List (FuncId × Sx.Spec) := []
def pls : List (FuncId × Plan) := []
@[reducible] def k1 : Sh := .pt true 51 (.sl true 56 (.sc .bool (.sc (.int .i64) (.sl true 5 (.sc (.int .u8) .nil) (.sl true 5 (.sc (.int .u8) .nil) .nil)))) .nil) (.sc (.int .i64) .nil)
@[reducible] def i1 : Sh := .nil
@[reducible] def o1 : Sh := .sc .bool .nil
abbrev G1 := (((List (Bool × Int × List (Int) × List (Int)))) × Int) → Unit → Option (Bool × Unit)
def u1 (F : G1) : Un := ⟨78, [0, 1], k1, [], i1, [29], o1, [0, 1, 2, 3], [(.normal, [true])], F⟩
@[reducible] def k2 : Sh := .pt true 51 (.sl true 56 (.sc .bool (.sc (.int .i64) (.sl true 5 (.sc (.int .u8) .nil) (.sl true 5 (.sc (.int .u8) .nil) .nil)))) .nil) (.sc (.int .i64) (.sl false 5 (.sc (.int .u8) .nil) (.sc (.int .i64) .nil)))
@[reducible] def i2 : Sh := .nil
@[reducible] def o2 : Sh := .sc .bool .nil
abbrev G2 := (((List (Bool × Int × List (Int) × List (Int)))) × Int × List (Int) × Int) → Unit → Option (Bool × Unit)
def u2 (F : G2) : Un := ⟨78, [0, 1, 3, 9], k2, [], i2, [46], o2, [0, 1, 3, 9], [(.normal, [true])], F⟩
@[reducible] def k3 : Sh := .sc (.int .i64) (.sl false 5 (.sc (.int .u8) .nil) (.sc (.int .i64) (.sc (.int .i64) .nil)))
@[reducible] def i3 : Sh := .pt true 51 (.sl true 56 (.sc .bool (.sc (.int .i64) (.sl true 5 (.sc (.int .u8) .nil) (.sl true 5 (.sc (.int .u8) .nil) .nil)))) .nil) .nil
@[reducible] def o3 : Sh := .nil
abbrev G3 := (Int × List (Int) × Int × Int) → (((List (Bool × Int × List (Int) × List (Int))))) → Option (Unit × (((List (Bool × Int × List (Int) × List (Int))))))
def u3 (F : G3) : Un := ⟨78, [1, 3, 9, 10], k3, [0], i3, [], o3, [0, 1, 3, 9, 10], [(.normal, [])], F⟩
@[reducible] def k4 : Sh := .sc (.int .i64) (.sl false 5 (.sc (.int .u8) .nil) (.sc (.int .i64) .nil))
@[reducible] def i4 : Sh := .pt true 51 (.sl true 56 (.sc .bool (.sc (.int .i64) (.sl true 5 (.sc (.int .u8) .nil) (.sl true 5 (.sc (.int .u8) .nil) .nil)))) .nil) (.sc (.int .i64) .nil)
@[reducible] def o4 : Sh := .nil
abbrev G4 := (Int × List (Int) × Int) → (((List (Bool × Int × List (Int) × List (Int)))) × Int) → Option (Unit × (((List (Bool × Int × List (Int) × List (Int))))))
def u4 (F : G4) : Un := ⟨78, [1, 3, 9], k4, [0, 10], i4, [], o4, [0, 1, 3, 9], [(.exit 0, [])], F⟩
@[reducible] def i : Sh := .pt true 51 (.sl true 56 (.sc .bool (.sc (.int .i64) (.sl true 5 (.sc (.int .u8) .nil) (.sl true 5 (.sc (.int .u8) .nil) .nil)))) .nil) (.sc (.int .i64) (.sc (.int .i64) (.sl false 5 (.sc (.int .u8) .nil) .nil)))
@[reducible] def o : Sh := .sc (.int .i64) .nil
abbrev FT := (((List (Bool × Int × List (Int) × List (Int)))) × Int × Int × List (Int)) → Option (Int × (((List (Bool × Int × List (Int) × List (Int))))))
theorem tabS : AllS Try.prog (tab) := trivial
theorem plsP : AllP Try.prog (pls) := trivial
theorem mixed : Try.prog.follows .mixedOrders = true := by kernel_rfl
def r1P : G1 := fun (n, k) () => bif decide ((0 : Int) ≤ k ∧ k < (↑n.length : Int) ∧ (0 : Nat) < n.length) then
 bif decide ((0 : Nat) + k.toNat < n.length) then
 some (!(n.getD ((0 : Nat) + k.toNat) (false, (0 : Int), [], [])).fst, PUnit.unit) else none else none
theorem r1e (kd : ((List (Bool × Int × List (Int) × List (Int)))) × Int) (d : Unit) : unitF (tabC Try.prog (tab) (pls) 100 10) 100 .none (u1 fun _ _ => none) (codeAt [1, 1, 1, 0, 0] (bodyOf Try.prog 34)) kd d = r1P kd d := by kernel_rfl
noncomputable def r1 : G1 := r1P
noncomputable def l1 : G1 := r1
theorem ok1 : UnOk Try.prog (u1 l1) (codeAt [1, 1, 1, 0, 0] (bodyOf Try.prog 34)) :=
  blockT (p := .none) (fuel := 100) (depth := 10) mixed tabS plsP trivial (fun kd d => r1e  kd d)
def r2P : G2 := fun (n, k, b, other) () => bif decide ((0 : Int) ≤ k ∧ k < (↑n.length : Int) ∧ (0 : Nat) < n.length) then
 bif decide ((0 : Int) ≤ other ∧ other < (2 : Int)) then
 bif other.toNat.beq (0 : Nat) then
 bif decide ((0 : Nat) + k.toNat < n.length) then
 some (decide (IntKind.i64.wrap ((↑(n.getD ((0 : Nat) + k.toNat) (false, (0 : Int), [], [])).snd.snd.fst.length : Int) + (↑b.length : Int)) > (16384 : Int)), PUnit.unit) else none else bif other.toNat.beq (1 : Nat) then
 bif decide ((0 : Nat) + k.toNat < n.length) then
 some (decide (IntKind.i64.wrap ((↑(List.length (n.getD ((0 : Nat) + k.toNat) (false, (0 : Int), [], [])).snd.snd.snd) : Int) + (↑b.length : Int)) > (16384 : Int)), PUnit.unit) else none else none else none else none
theorem r2e (kd : ((List (Bool × Int × List (Int) × List (Int)))) × Int × List (Int) × Int) (d : Unit) : unitF (tabC Try.prog (tab) (pls) 100 10) 100 .none (u2 fun _ _ => none) (codeAt [1, 1, 1, 1, 1, 0, 0] (bodyOf Try.prog 34)) kd d = r2P kd d := by kernel_rfl
noncomputable def r2 : G2 := r2P
noncomputable def l2 : G2 := r2
theorem ok2 : UnOk Try.prog (u2 l2) (codeAt [1, 1, 1, 1, 1, 0, 0] (bodyOf Try.prog 34)) :=
  blockT (p := .none) (fuel := 100) (depth := 10) mixed tabS plsP trivial (fun kd d => r2e  kd d)
def r3P : G3 := fun (k, b, other, i) n => bif decide ((0 : Int) ≤ k ∧ k < (↑n.length : Int) ∧ (0 : Nat) < n.length) then
 bif decide ((0 : Nat) + k.toNat < n.length) then
 bif decide ((0 : Int) ≤ other ∧ other < (2 : Int)) then
 bif other.toNat.beq (0 : Nat) then
 bif decide ((0 : Int) ≤ i ∧ i < (↑b.length : Int) ∧ (0 : Nat) < b.length) then
 bif decide ((0 : Nat) + i.toNat < b.length) then
 bif decide ((n.getD ((0 : Nat) + k.toNat) (false, (0 : Int), [], [])).snd.snd.fst.length + (1 : Nat) ≤ (1073741824 : Nat)) then
 bif decide ((0 : Nat) + (n.getD ((0 : Nat) + k.toNat) (false, (0 : Int), [], [])).snd.snd.fst.length ≤ (n.getD ((0 : Nat) + k.toNat) (false, (0 : Int), [], [])).snd.snd.fst.length) then
 bif decide ((0 : Int) ≤ k ∧ k < (↑n.length : Int) ∧ (0 : Nat) < n.length) then
 bif decide ((0 : Nat) + k.toNat = (0 : Nat) + k.toNat) then
 bif decide ((0 : Int) ≤ other ∧ other < (2 : Int)) then
 bif other.toNat.beq (0 : Nat) then
 bif decide ((0 : Nat) + k.toNat < n.length) then
 bif decide ((0 : Int) ≤ k ∧ k < (↑n.length : Int) ∧ (0 : Nat) < n.length) then
 bif decide ((0 : Nat) + k.toNat = (0 : Nat) + k.toNat) then
 bif decide ((0 : Int) ≤ other ∧ other < (2 : Int)) then
 bif other.toNat.beq (0 : Nat) then
 bif decide ((0 : Int) ≤ i ∧ i < (↑b.length : Int) ∧ (0 : Nat) < b.length) then
 bif decide ((0 : Nat) + i.toNat < b.length) then
 bif decide ((n.getD ((0 : Nat) + k.toNat) (false, (0 : Int), [], [])).snd.snd.fst.length + (1 : Nat) ≤ (1073741824 : Nat)) then
 bif decide ((0 : Nat) + (n.getD ((0 : Nat) + k.toNat) (false, (0 : Int), [], [])).snd.snd.fst.length ≤ (n.getD ((0 : Nat) + k.toNat) (false, (0 : Int), [], [])).snd.snd.fst.length) then
 bif decide ((0 : Int) ≤ k ∧ k < (↑n.length : Int) ∧ (0 : Nat) < n.length) then
 bif decide ((0 : Nat) + k.toNat = (0 : Nat) + k.toNat) then
 bif decide ((0 : Int) ≤ other ∧ other < (2 : Int)) then
 bif other.toNat.beq (0 : Nat) then
 bif decide ((0 : Nat) + ((n.getD ((0 : Nat) + k.toNat) (false, (0 : Int), [], [])).snd.snd.fst.length + (1 : Nat)) ≤ (List.take (n.getD ((0 : Nat) + k.toNat) (false, (0 : Int), [], [])).snd.snd.fst.length (List.drop (0 : Nat) (n.getD ((0 : Nat) + k.toNat) (false, (0 : Int), [], [])).snd.snd.fst) ++ [b.getD ((0 : Nat) + i.toNat) (0 : Int)]).length) && true then
 bif decide ((0 : Nat) + List.length (n.getD ((0 : Nat) + k.toNat) (false, (0 : Int), [], [])).snd.snd.snd ≤ List.length (n.getD ((0 : Nat) + k.toNat) (false, (0 : Int), [], [])).snd.snd.snd) && true then
 bif decide ((0 : Nat) + n.length ≤ (n.set ((0 : Nat) + k.toNat) ((n.getD ((0 : Nat) + k.toNat) (false, (0 : Int), [], [])).fst, (n.getD ((0 : Nat) + k.toNat) (false, (0 : Int), [], [])).snd.fst, List.take ((n.getD ((0 : Nat) + k.toNat) (false, (0 : Int), [], [])).snd.snd.fst.length + (1 : Nat)) (List.drop (0 : Nat) (List.take (n.getD ((0 : Nat) + k.toNat) (false, (0 : Int), [], [])).snd.snd.fst.length (List.drop (0 : Nat) (n.getD ((0 : Nat) + k.toNat) (false, (0 : Int), [], [])).snd.snd.fst) ++ [b.getD ((0 : Nat) + i.toNat) (0 : Int)])), List.take (List.length (n.getD ((0 : Nat) + k.toNat) (false, (0 : Int), [], [])).snd.snd.snd) (List.drop (0 : Nat) (n.getD ((0 : Nat) + k.toNat) (false, (0 : Int), [], [])).snd.snd.snd))).length) && true then
 some (PUnit.unit, List.take n.length (List.drop (0 : Nat) (n.set ((0 : Nat) + k.toNat) ((n.getD ((0 : Nat) + k.toNat) (false, (0 : Int), [], [])).fst, (n.getD ((0 : Nat) + k.toNat) (false, (0 : Int), [], [])).snd.fst, List.take ((n.getD ((0 : Nat) + k.toNat) (false, (0 : Int), [], [])).snd.snd.fst.length + (1 : Nat)) (List.drop (0 : Nat) (List.take (n.getD ((0 : Nat) + k.toNat) (false, (0 : Int), [], [])).snd.snd.fst.length (List.drop (0 : Nat) (n.getD ((0 : Nat) + k.toNat) (false, (0 : Int), [], [])).snd.snd.fst) ++ [b.getD ((0 : Nat) + i.toNat) (0 : Int)])), List.take (List.length (n.getD ((0 : Nat) + k.toNat) (false, (0 : Int), [], [])).snd.snd.snd) (List.drop (0 : Nat) (n.getD ((0 : Nat) + k.toNat) (false, (0 : Int), [], [])).snd.snd.snd))))) else none else none else none else bif other.toNat.beq (1 : Nat) then
 none else none else none else none else none else none else none else none else none else bif other.toNat.beq (1 : Nat) then
 bif decide ((0 : Int) ≤ i ∧ i < (↑b.length : Int) ∧ (0 : Nat) < b.length) then
 bif decide ((0 : Nat) + i.toNat < b.length) then
 bif decide (List.length (n.getD ((0 : Nat) + k.toNat) (false, (0 : Int), [], [])).snd.snd.snd + (1 : Nat) ≤ (1073741824 : Nat)) then
 bif decide ((0 : Nat) + List.length (n.getD ((0 : Nat) + k.toNat) (false, (0 : Int), [], [])).snd.snd.snd ≤ List.length (n.getD ((0 : Nat) + k.toNat) (false, (0 : Int), [], [])).snd.snd.snd) then
 bif decide ((0 : Int) ≤ k ∧ k < (↑n.length : Int) ∧ (0 : Nat) < n.length) then
 bif decide ((0 : Nat) + k.toNat = (0 : Nat) + k.toNat) then
 bif decide ((0 : Int) ≤ other ∧ other < (2 : Int)) then
 bif other.toNat.beq (0 : Nat) then
 bif decide ((0 : Nat) + (List.length (n.getD ((0 : Nat) + k.toNat) (false, (0 : Int), [], [])).snd.snd.snd + (1 : Nat)) ≤ (List.take (List.length (n.getD ((0 : Nat) + k.toNat) (false, (0 : Int), [], [])).snd.snd.snd) (List.drop (0 : Nat) (n.getD ((0 : Nat) + k.toNat) (false, (0 : Int), [], [])).snd.snd.snd) ++ [b.getD ((0 : Nat) + i.toNat) (0 : Int)]).length) && true then
 none else none else bif other.toNat.beq (1 : Nat) then
 bif decide ((0 : Nat) + (n.getD ((0 : Nat) + k.toNat) (false, (0 : Int), [], [])).snd.snd.fst.length ≤ (n.getD ((0 : Nat) + k.toNat) (false, (0 : Int), [], [])).snd.snd.fst.length) && true then
 bif decide ((0 : Nat) + (List.length (n.getD ((0 : Nat) + k.toNat) (false, (0 : Int), [], [])).snd.snd.snd + (1 : Nat)) ≤ (List.take (List.length (n.getD ((0 : Nat) + k.toNat) (false, (0 : Int), [], [])).snd.snd.snd) (List.drop (0 : Nat) (n.getD ((0 : Nat) + k.toNat) (false, (0 : Int), [], [])).snd.snd.snd) ++ [b.getD ((0 : Nat) + i.toNat) (0 : Int)]).length) && true then
 bif decide ((0 : Nat) + n.length ≤ (n.set ((0 : Nat) + k.toNat) ((n.getD ((0 : Nat) + k.toNat) (false, (0 : Int), [], [])).fst, (n.getD ((0 : Nat) + k.toNat) (false, (0 : Int), [], [])).snd.fst, List.take (n.getD ((0 : Nat) + k.toNat) (false, (0 : Int), [], [])).snd.snd.fst.length (List.drop (0 : Nat) (n.getD ((0 : Nat) + k.toNat) (false, (0 : Int), [], [])).snd.snd.fst), List.take (List.length (n.getD ((0 : Nat) + k.toNat) (false, (0 : Int), [], [])).snd.snd.snd + (1 : Nat)) (List.drop (0 : Nat) (List.take (List.length (n.getD ((0 : Nat) + k.toNat) (false, (0 : Int), [], [])).snd.snd.snd) (List.drop (0 : Nat) (n.getD ((0 : Nat) + k.toNat) (false, (0 : Int), [], [])).snd.snd.snd) ++ [b.getD ((0 : Nat) + i.toNat) (0 : Int)])))).length) && true then
 some (PUnit.unit, List.take n.length (List.drop (0 : Nat) (n.set ((0 : Nat) + k.toNat) ((n.getD ((0 : Nat) + k.toNat) (false, (0 : Int), [], [])).fst, (n.getD ((0 : Nat) + k.toNat) (false, (0 : Int), [], [])).snd.fst, List.take (n.getD ((0 : Nat) + k.toNat) (false, (0 : Int), [], [])).snd.snd.fst.length (List.drop (0 : Nat) (n.getD ((0 : Nat) + k.toNat) (false, (0 : Int), [], [])).snd.snd.fst), List.take (List.length (n.getD ((0 : Nat) + k.toNat) (false, (0 : Int), [], [])).snd.snd.snd + (1 : Nat)) (List.drop (0 : Nat) (List.take (List.length (n.getD ((0 : Nat) + k.toNat) (false, (0 : Int), [], [])).snd.snd.snd) (List.drop (0 : Nat) (n.getD ((0 : Nat) + k.toNat) (false, (0 : Int), [], [])).snd.snd.snd) ++ [b.getD ((0 : Nat) + i.toNat) (0 : Int)])))))) else none else none else none else none else none else bif decide ((0 : Nat) + (n.getD ((0 : Nat) + k.toNat) (false, (0 : Int), [], [])).snd.snd.fst.length ≤ (n.getD ((0 : Nat) + k.toNat) (false, (0 : Int), [], [])).snd.snd.fst.length) && true then
 none else none else none else none else none else none else none else none else none else bif decide ((0 : Nat) + (n.getD ((0 : Nat) + k.toNat) (false, (0 : Int), [], [])).snd.snd.fst.length ≤ (n.getD ((0 : Nat) + k.toNat) (false, (0 : Int), [], [])).snd.snd.fst.length) && true then
 bif decide ((0 : Nat) + List.length (n.getD ((0 : Nat) + k.toNat) (false, (0 : Int), [], [])).snd.snd.snd ≤ List.length (n.getD ((0 : Nat) + k.toNat) (false, (0 : Int), [], [])).snd.snd.snd) && true then
 bif decide ((0 : Nat) + k.toNat < (n.set ((0 : Nat) + k.toNat) ((n.getD ((0 : Nat) + k.toNat) (false, (0 : Int), [], [])).fst, (n.getD ((0 : Nat) + k.toNat) (false, (0 : Int), [], [])).snd.fst, List.take (n.getD ((0 : Nat) + k.toNat) (false, (0 : Int), [], [])).snd.snd.fst.length (List.drop (0 : Nat) (n.getD ((0 : Nat) + k.toNat) (false, (0 : Int), [], [])).snd.snd.fst), List.take (List.length (n.getD ((0 : Nat) + k.toNat) (false, (0 : Int), [], [])).snd.snd.snd) (List.drop (0 : Nat) (n.getD ((0 : Nat) + k.toNat) (false, (0 : Int), [], [])).snd.snd.snd))).length) then
 bif decide ((0 : Int) ≤ other ∧ other < (2 : Int)) then
 bif other.toNat.beq (0 : Nat) then
 bif decide ((0 : Int) ≤ i ∧ i < (↑b.length : Int) ∧ (0 : Nat) < b.length) then
 bif decide ((0 : Nat) + i.toNat < b.length) then
 bif decide (((n.set ((0 : Nat) + k.toNat) ((n.getD ((0 : Nat) + k.toNat) (false, (0 : Int), [], [])).fst, (n.getD ((0 : Nat) + k.toNat) (false, (0 : Int), [], [])).snd.fst, List.take (n.getD ((0 : Nat) + k.toNat) (false, (0 : Int), [], [])).snd.snd.fst.length (List.drop (0 : Nat) (n.getD ((0 : Nat) + k.toNat) (false, (0 : Int), [], [])).snd.snd.fst), List.take (List.length (n.getD ((0 : Nat) + k.toNat) (false, (0 : Int), [], [])).snd.snd.snd) (List.drop (0 : Nat) (n.getD ((0 : Nat) + k.toNat) (false, (0 : Int), [], [])).snd.snd.snd))).getD ((0 : Nat) + k.toNat) (false, (0 : Int), [], [])).snd.snd.fst.length + (1 : Nat) ≤ (1073741824 : Nat)) then
 bif decide ((0 : Nat) + ((n.set ((0 : Nat) + k.toNat) ((n.getD ((0 : Nat) + k.toNat) (false, (0 : Int), [], [])).fst, (n.getD ((0 : Nat) + k.toNat) (false, (0 : Int), [], [])).snd.fst, List.take (n.getD ((0 : Nat) + k.toNat) (false, (0 : Int), [], [])).snd.snd.fst.length (List.drop (0 : Nat) (n.getD ((0 : Nat) + k.toNat) (false, (0 : Int), [], [])).snd.snd.fst), List.take (List.length (n.getD ((0 : Nat) + k.toNat) (false, (0 : Int), [], [])).snd.snd.snd) (List.drop (0 : Nat) (n.getD ((0 : Nat) + k.toNat) (false, (0 : Int), [], [])).snd.snd.snd))).getD ((0 : Nat) + k.toNat) (false, (0 : Int), [], [])).snd.snd.fst.length ≤ ((n.set ((0 : Nat) + k.toNat) ((n.getD ((0 : Nat) + k.toNat) (false, (0 : Int), [], [])).fst, (n.getD ((0 : Nat) + k.toNat) (false, (0 : Int), [], [])).snd.fst, List.take (n.getD ((0 : Nat) + k.toNat) (false, (0 : Int), [], [])).snd.snd.fst.length (List.drop (0 : Nat) (n.getD ((0 : Nat) + k.toNat) (false, (0 : Int), [], [])).snd.snd.fst), List.take (List.length (n.getD ((0 : Nat) + k.toNat) (false, (0 : Int), [], [])).snd.snd.snd) (List.drop (0 : Nat) (n.getD ((0 : Nat) + k.toNat) (false, (0 : Int), [], [])).snd.snd.snd))).getD ((0 : Nat) + k.toNat) (false, (0 : Int), [], [])).snd.snd.fst.length) then
 bif decide ((0 : Int) ≤ k ∧ k < (↑n.length : Int) ∧ (0 : Nat) < (n.set ((0 : Nat) + k.toNat) ((n.getD ((0 : Nat) + k.toNat) (false, (0 : Int), [], [])).fst, (n.getD ((0 : Nat) + k.toNat) (false, (0 : Int), [], [])).snd.fst, List.take (n.getD ((0 : Nat) + k.toNat) (false, (0 : Int), [], [])).snd.snd.fst.length (List.drop (0 : Nat) (n.getD ((0 : Nat) + k.toNat) (false, (0 : Int), [], [])).snd.snd.fst), List.take (List.length (n.getD ((0 : Nat) + k.toNat) (false, (0 : Int), [], [])).snd.snd.snd) (List.drop (0 : Nat) (n.getD ((0 : Nat) + k.toNat) (false, (0 : Int), [], [])).snd.snd.snd))).length) then
 bif decide ((0 : Nat) + k.toNat = (0 : Nat) + k.toNat) then
 bif decide ((0 : Int) ≤ other ∧ other < (2 : Int)) then
 bif other.toNat.beq (0 : Nat) then
 none else bif other.toNat.beq (1 : Nat) then
 none else none else none else none else none else none else none else none else none else bif other.toNat.beq (1 : Nat) then
 bif decide ((0 : Int) ≤ i ∧ i < (↑b.length : Int) ∧ (0 : Nat) < b.length) then
 bif decide ((0 : Nat) + i.toNat < b.length) then
 bif decide (List.length ((n.set ((0 : Nat) + k.toNat) ((n.getD ((0 : Nat) + k.toNat) (false, (0 : Int), [], [])).fst, (n.getD ((0 : Nat) + k.toNat) (false, (0 : Int), [], [])).snd.fst, List.take (n.getD ((0 : Nat) + k.toNat) (false, (0 : Int), [], [])).snd.snd.fst.length (List.drop (0 : Nat) (n.getD ((0 : Nat) + k.toNat) (false, (0 : Int), [], [])).snd.snd.fst), List.take (List.length (n.getD ((0 : Nat) + k.toNat) (false, (0 : Int), [], [])).snd.snd.snd) (List.drop (0 : Nat) (n.getD ((0 : Nat) + k.toNat) (false, (0 : Int), [], [])).snd.snd.snd))).getD ((0 : Nat) + k.toNat) (false, (0 : Int), [], [])).snd.snd.snd + (1 : Nat) ≤ (1073741824 : Nat)) then
 bif decide ((0 : Nat) + List.length ((n.set ((0 : Nat) + k.toNat) ((n.getD ((0 : Nat) + k.toNat) (false, (0 : Int), [], [])).fst, (n.getD ((0 : Nat) + k.toNat) (false, (0 : Int), [], [])).snd.fst, List.take (n.getD ((0 : Nat) + k.toNat) (false, (0 : Int), [], [])).snd.snd.fst.length (List.drop (0 : Nat) (n.getD ((0 : Nat) + k.toNat) (false, (0 : Int), [], [])).snd.snd.fst), List.take (List.length (n.getD ((0 : Nat) + k.toNat) (false, (0 : Int), [], [])).snd.snd.snd) (List.drop (0 : Nat) (n.getD ((0 : Nat) + k.toNat) (false, (0 : Int), [], [])).snd.snd.snd))).getD ((0 : Nat) + k.toNat) (false, (0 : Int), [], [])).snd.snd.snd ≤ List.length ((n.set ((0 : Nat) + k.toNat) ((n.getD ((0 : Nat) + k.toNat) (false, (0 : Int), [], [])).fst, (n.getD ((0 : Nat) + k.toNat) (false, (0 : Int), [], [])).snd.fst, List.take (n.getD ((0 : Nat) + k.toNat) (false, (0 : Int), [], [])).snd.snd.fst.length (List.drop (0 : Nat) (n.getD ((0 : Nat) + k.toNat) (false, (0 : Int), [], [])).snd.snd.fst), List.take (List.length (n.getD ((0 : Nat) + k.toNat) (false, (0 : Int), [], [])).snd.snd.snd) (List.drop (0 : Nat) (n.getD ((0 : Nat) + k.toNat) (false, (0 : Int), [], [])).snd.snd.snd))).getD ((0 : Nat) + k.toNat) (false, (0 : Int), [], [])).snd.snd.snd) then
 bif decide ((0 : Int) ≤ k ∧ k < (↑n.length : Int) ∧ (0 : Nat) < (n.set ((0 : Nat) + k.toNat) ((n.getD ((0 : Nat) + k.toNat) (false, (0 : Int), [], [])).fst, (n.getD ((0 : Nat) + k.toNat) (false, (0 : Int), [], [])).snd.fst, List.take (n.getD ((0 : Nat) + k.toNat) (false, (0 : Int), [], [])).snd.snd.fst.length (List.drop (0 : Nat) (n.getD ((0 : Nat) + k.toNat) (false, (0 : Int), [], [])).snd.snd.fst), List.take (List.length (n.getD ((0 : Nat) + k.toNat) (false, (0 : Int), [], [])).snd.snd.snd) (List.drop (0 : Nat) (n.getD ((0 : Nat) + k.toNat) (false, (0 : Int), [], [])).snd.snd.snd))).length) then
 bif decide ((0 : Nat) + k.toNat = (0 : Nat) + k.toNat) then
 bif decide ((0 : Int) ≤ other ∧ other < (2 : Int)) then
 bif other.toNat.beq (0 : Nat) then
 none else bif other.toNat.beq (1 : Nat) then
 none else none else none else bif decide ((0 : Nat) + ((n.set ((0 : Nat) + k.toNat) ((n.getD ((0 : Nat) + k.toNat) (false, (0 : Int), [], [])).fst, (n.getD ((0 : Nat) + k.toNat) (false, (0 : Int), [], [])).snd.fst, List.take (n.getD ((0 : Nat) + k.toNat) (false, (0 : Int), [], [])).snd.snd.fst.length (List.drop (0 : Nat) (n.getD ((0 : Nat) + k.toNat) (false, (0 : Int), [], [])).snd.snd.fst), List.take (List.length (n.getD ((0 : Nat) + k.toNat) (false, (0 : Int), [], [])).snd.snd.snd) (List.drop (0 : Nat) (n.getD ((0 : Nat) + k.toNat) (false, (0 : Int), [], [])).snd.snd.snd))).getD ((0 : Nat) + k.toNat) (false, (0 : Int), [], [])).snd.snd.fst.length ≤ ((n.set ((0 : Nat) + k.toNat) ((n.getD ((0 : Nat) + k.toNat) (false, (0 : Int), [], [])).fst, (n.getD ((0 : Nat) + k.toNat) (false, (0 : Int), [], [])).snd.fst, List.take (n.getD ((0 : Nat) + k.toNat) (false, (0 : Int), [], [])).snd.snd.fst.length (List.drop (0 : Nat) (n.getD ((0 : Nat) + k.toNat) (false, (0 : Int), [], [])).snd.snd.fst), List.take (List.length (n.getD ((0 : Nat) + k.toNat) (false, (0 : Int), [], [])).snd.snd.snd) (List.drop (0 : Nat) (n.getD ((0 : Nat) + k.toNat) (false, (0 : Int), [], [])).snd.snd.snd))).getD ((0 : Nat) + k.toNat) (false, (0 : Int), [], [])).snd.snd.fst.length) && true then
 none else none else none else none else none else none else none else none else none else none else none else none else none else none else bif other.toNat.beq (1 : Nat) then
 bif decide ((0 : Nat) + k.toNat < n.length) then
 bif decide ((0 : Int) ≤ k ∧ k < (↑n.length : Int) ∧ (0 : Nat) < n.length) then
 bif decide ((0 : Nat) + k.toNat = (0 : Nat) + k.toNat) then
 bif decide ((0 : Int) ≤ other ∧ other < (2 : Int)) then
 bif other.toNat.beq (0 : Nat) then
 bif decide ((0 : Int) ≤ i ∧ i < (↑b.length : Int) ∧ (0 : Nat) < b.length) then
 bif decide ((0 : Nat) + i.toNat < b.length) then
 bif decide ((n.getD ((0 : Nat) + k.toNat) (false, (0 : Int), [], [])).snd.snd.fst.length + (1 : Nat) ≤ (1073741824 : Nat)) then
 bif decide ((0 : Nat) + (n.getD ((0 : Nat) + k.toNat) (false, (0 : Int), [], [])).snd.snd.fst.length ≤ (n.getD ((0 : Nat) + k.toNat) (false, (0 : Int), [], [])).snd.snd.fst.length) then
 bif decide ((0 : Int) ≤ k ∧ k < (↑n.length : Int) ∧ (0 : Nat) < n.length) then
 bif decide ((0 : Nat) + k.toNat = (0 : Nat) + k.toNat) then
 bif decide ((0 : Int) ≤ other ∧ other < (2 : Int)) then
 bif other.toNat.beq (0 : Nat) then
 bif decide ((0 : Nat) + ((n.getD ((0 : Nat) + k.toNat) (false, (0 : Int), [], [])).snd.snd.fst.length + (1 : Nat)) ≤ (List.take (n.getD ((0 : Nat) + k.toNat) (false, (0 : Int), [], [])).snd.snd.fst.length (List.drop (0 : Nat) (n.getD ((0 : Nat) + k.toNat) (false, (0 : Int), [], [])).snd.snd.fst) ++ [b.getD ((0 : Nat) + i.toNat) (0 : Int)]).length) && true then
 bif decide ((0 : Nat) + List.length (n.getD ((0 : Nat) + k.toNat) (false, (0 : Int), [], [])).snd.snd.snd ≤ List.length (n.getD ((0 : Nat) + k.toNat) (false, (0 : Int), [], [])).snd.snd.snd) && true then
 bif decide ((0 : Nat) + n.length ≤ (n.set ((0 : Nat) + k.toNat) ((n.getD ((0 : Nat) + k.toNat) (false, (0 : Int), [], [])).fst, (n.getD ((0 : Nat) + k.toNat) (false, (0 : Int), [], [])).snd.fst, List.take ((n.getD ((0 : Nat) + k.toNat) (false, (0 : Int), [], [])).snd.snd.fst.length + (1 : Nat)) (List.drop (0 : Nat) (List.take (n.getD ((0 : Nat) + k.toNat) (false, (0 : Int), [], [])).snd.snd.fst.length (List.drop (0 : Nat) (n.getD ((0 : Nat) + k.toNat) (false, (0 : Int), [], [])).snd.snd.fst) ++ [b.getD ((0 : Nat) + i.toNat) (0 : Int)])), List.take (List.length (n.getD ((0 : Nat) + k.toNat) (false, (0 : Int), [], [])).snd.snd.snd) (List.drop (0 : Nat) (n.getD ((0 : Nat) + k.toNat) (false, (0 : Int), [], [])).snd.snd.snd))).length) && true then
 some (PUnit.unit, List.take n.length (List.drop (0 : Nat) (n.set ((0 : Nat) + k.toNat) ((n.getD ((0 : Nat) + k.toNat) (false, (0 : Int), [], [])).fst, (n.getD ((0 : Nat) + k.toNat) (false, (0 : Int), [], [])).snd.fst, List.take ((n.getD ((0 : Nat) + k.toNat) (false, (0 : Int), [], [])).snd.snd.fst.length + (1 : Nat)) (List.drop (0 : Nat) (List.take (n.getD ((0 : Nat) + k.toNat) (false, (0 : Int), [], [])).snd.snd.fst.length (List.drop (0 : Nat) (n.getD ((0 : Nat) + k.toNat) (false, (0 : Int), [], [])).snd.snd.fst) ++ [b.getD ((0 : Nat) + i.toNat) (0 : Int)])), List.take (List.length (n.getD ((0 : Nat) + k.toNat) (false, (0 : Int), [], [])).snd.snd.snd) (List.drop (0 : Nat) (n.getD ((0 : Nat) + k.toNat) (false, (0 : Int), [], [])).snd.snd.snd))))) else none else none else none else bif other.toNat.beq (1 : Nat) then
 none else none else none else none else none else none else none else none else none else bif other.toNat.beq (1 : Nat) then
 bif decide ((0 : Int) ≤ i ∧ i < (↑b.length : Int) ∧ (0 : Nat) < b.length) then
 bif decide ((0 : Nat) + i.toNat < b.length) then
 bif decide (List.length (n.getD ((0 : Nat) + k.toNat) (false, (0 : Int), [], [])).snd.snd.snd + (1 : Nat) ≤ (1073741824 : Nat)) then
 bif decide ((0 : Nat) + List.length (n.getD ((0 : Nat) + k.toNat) (false, (0 : Int), [], [])).snd.snd.snd ≤ List.length (n.getD ((0 : Nat) + k.toNat) (false, (0 : Int), [], [])).snd.snd.snd) then
 bif decide ((0 : Int) ≤ k ∧ k < (↑n.length : Int) ∧ (0 : Nat) < n.length) then
 bif decide ((0 : Nat) + k.toNat = (0 : Nat) + k.toNat) then
 bif decide ((0 : Int) ≤ other ∧ other < (2 : Int)) then
 bif other.toNat.beq (0 : Nat) then
 bif decide ((0 : Nat) + (List.length (n.getD ((0 : Nat) + k.toNat) (false, (0 : Int), [], [])).snd.snd.snd + (1 : Nat)) ≤ (List.take (List.length (n.getD ((0 : Nat) + k.toNat) (false, (0 : Int), [], [])).snd.snd.snd) (List.drop (0 : Nat) (n.getD ((0 : Nat) + k.toNat) (false, (0 : Int), [], [])).snd.snd.snd) ++ [b.getD ((0 : Nat) + i.toNat) (0 : Int)]).length) && true then
 none else none else bif other.toNat.beq (1 : Nat) then
 bif decide ((0 : Nat) + (n.getD ((0 : Nat) + k.toNat) (false, (0 : Int), [], [])).snd.snd.fst.length ≤ (n.getD ((0 : Nat) + k.toNat) (false, (0 : Int), [], [])).snd.snd.fst.length) && true then
 bif decide ((0 : Nat) + (List.length (n.getD ((0 : Nat) + k.toNat) (false, (0 : Int), [], [])).snd.snd.snd + (1 : Nat)) ≤ (List.take (List.length (n.getD ((0 : Nat) + k.toNat) (false, (0 : Int), [], [])).snd.snd.snd) (List.drop (0 : Nat) (n.getD ((0 : Nat) + k.toNat) (false, (0 : Int), [], [])).snd.snd.snd) ++ [b.getD ((0 : Nat) + i.toNat) (0 : Int)]).length) && true then
 bif decide ((0 : Nat) + n.length ≤ (n.set ((0 : Nat) + k.toNat) ((n.getD ((0 : Nat) + k.toNat) (false, (0 : Int), [], [])).fst, (n.getD ((0 : Nat) + k.toNat) (false, (0 : Int), [], [])).snd.fst, List.take (n.getD ((0 : Nat) + k.toNat) (false, (0 : Int), [], [])).snd.snd.fst.length (List.drop (0 : Nat) (n.getD ((0 : Nat) + k.toNat) (false, (0 : Int), [], [])).snd.snd.fst), List.take (List.length (n.getD ((0 : Nat) + k.toNat) (false, (0 : Int), [], [])).snd.snd.snd + (1 : Nat)) (List.drop (0 : Nat) (List.take (List.length (n.getD ((0 : Nat) + k.toNat) (false, (0 : Int), [], [])).snd.snd.snd) (List.drop (0 : Nat) (n.getD ((0 : Nat) + k.toNat) (false, (0 : Int), [], [])).snd.snd.snd) ++ [b.getD ((0 : Nat) + i.toNat) (0 : Int)])))).length) && true then
 some (PUnit.unit, List.take n.length (List.drop (0 : Nat) (n.set ((0 : Nat) + k.toNat) ((n.getD ((0 : Nat) + k.toNat) (false, (0 : Int), [], [])).fst, (n.getD ((0 : Nat) + k.toNat) (false, (0 : Int), [], [])).snd.fst, List.take (n.getD ((0 : Nat) + k.toNat) (false, (0 : Int), [], [])).snd.snd.fst.length (List.drop (0 : Nat) (n.getD ((0 : Nat) + k.toNat) (false, (0 : Int), [], [])).snd.snd.fst), List.take (List.length (n.getD ((0 : Nat) + k.toNat) (false, (0 : Int), [], [])).snd.snd.snd + (1 : Nat)) (List.drop (0 : Nat) (List.take (List.length (n.getD ((0 : Nat) + k.toNat) (false, (0 : Int), [], [])).snd.snd.snd) (List.drop (0 : Nat) (n.getD ((0 : Nat) + k.toNat) (false, (0 : Int), [], [])).snd.snd.snd) ++ [b.getD ((0 : Nat) + i.toNat) (0 : Int)])))))) else none else none else none else none else none else bif decide ((0 : Nat) + (n.getD ((0 : Nat) + k.toNat) (false, (0 : Int), [], [])).snd.snd.fst.length ≤ (n.getD ((0 : Nat) + k.toNat) (false, (0 : Int), [], [])).snd.snd.fst.length) && true then
 none else none else none else none else none else none else none else none else none else bif decide ((0 : Nat) + (n.getD ((0 : Nat) + k.toNat) (false, (0 : Int), [], [])).snd.snd.fst.length ≤ (n.getD ((0 : Nat) + k.toNat) (false, (0 : Int), [], [])).snd.snd.fst.length) && true then
 bif decide ((0 : Nat) + List.length (n.getD ((0 : Nat) + k.toNat) (false, (0 : Int), [], [])).snd.snd.snd ≤ List.length (n.getD ((0 : Nat) + k.toNat) (false, (0 : Int), [], [])).snd.snd.snd) && true then
 bif decide ((0 : Nat) + k.toNat < (n.set ((0 : Nat) + k.toNat) ((n.getD ((0 : Nat) + k.toNat) (false, (0 : Int), [], [])).fst, (n.getD ((0 : Nat) + k.toNat) (false, (0 : Int), [], [])).snd.fst, List.take (n.getD ((0 : Nat) + k.toNat) (false, (0 : Int), [], [])).snd.snd.fst.length (List.drop (0 : Nat) (n.getD ((0 : Nat) + k.toNat) (false, (0 : Int), [], [])).snd.snd.fst), List.take (List.length (n.getD ((0 : Nat) + k.toNat) (false, (0 : Int), [], [])).snd.snd.snd) (List.drop (0 : Nat) (n.getD ((0 : Nat) + k.toNat) (false, (0 : Int), [], [])).snd.snd.snd))).length) then
 bif decide ((0 : Int) ≤ other ∧ other < (2 : Int)) then
 bif other.toNat.beq (0 : Nat) then
 bif decide ((0 : Int) ≤ i ∧ i < (↑b.length : Int) ∧ (0 : Nat) < b.length) then
 bif decide ((0 : Nat) + i.toNat < b.length) then
 bif decide (((n.set ((0 : Nat) + k.toNat) ((n.getD ((0 : Nat) + k.toNat) (false, (0 : Int), [], [])).fst, (n.getD ((0 : Nat) + k.toNat) (false, (0 : Int), [], [])).snd.fst, List.take (n.getD ((0 : Nat) + k.toNat) (false, (0 : Int), [], [])).snd.snd.fst.length (List.drop (0 : Nat) (n.getD ((0 : Nat) + k.toNat) (false, (0 : Int), [], [])).snd.snd.fst), List.take (List.length (n.getD ((0 : Nat) + k.toNat) (false, (0 : Int), [], [])).snd.snd.snd) (List.drop (0 : Nat) (n.getD ((0 : Nat) + k.toNat) (false, (0 : Int), [], [])).snd.snd.snd))).getD ((0 : Nat) + k.toNat) (false, (0 : Int), [], [])).snd.snd.fst.length + (1 : Nat) ≤ (1073741824 : Nat)) then
 bif decide ((0 : Nat) + ((n.set ((0 : Nat) + k.toNat) ((n.getD ((0 : Nat) + k.toNat) (false, (0 : Int), [], [])).fst, (n.getD ((0 : Nat) + k.toNat) (false, (0 : Int), [], [])).snd.fst, List.take (n.getD ((0 : Nat) + k.toNat) (false, (0 : Int), [], [])).snd.snd.fst.length (List.drop (0 : Nat) (n.getD ((0 : Nat) + k.toNat) (false, (0 : Int), [], [])).snd.snd.fst), List.take (List.length (n.getD ((0 : Nat) + k.toNat) (false, (0 : Int), [], [])).snd.snd.snd) (List.drop (0 : Nat) (n.getD ((0 : Nat) + k.toNat) (false, (0 : Int), [], [])).snd.snd.snd))).getD ((0 : Nat) + k.toNat) (false, (0 : Int), [], [])).snd.snd.fst.length ≤ ((n.set ((0 : Nat) + k.toNat) ((n.getD ((0 : Nat) + k.toNat) (false, (0 : Int), [], [])).fst, (n.getD ((0 : Nat) + k.toNat) (false, (0 : Int), [], [])).snd.fst, List.take (n.getD ((0 : Nat) + k.toNat) (false, (0 : Int), [], [])).snd.snd.fst.length (List.drop (0 : Nat) (n.getD ((0 : Nat) + k.toNat) (false, (0 : Int), [], [])).snd.snd.fst), List.take (List.length (n.getD ((0 : Nat) + k.toNat) (false, (0 : Int), [], [])).snd.snd.snd) (List.drop (0 : Nat) (n.getD ((0 : Nat) + k.toNat) (false, (0 : Int), [], [])).snd.snd.snd))).getD ((0 : Nat) + k.toNat) (false, (0 : Int), [], [])).snd.snd.fst.length) then
 bif decide ((0 : Int) ≤ k ∧ k < (↑n.length : Int) ∧ (0 : Nat) < (n.set ((0 : Nat) + k.toNat) ((n.getD ((0 : Nat) + k.toNat) (false, (0 : Int), [], [])).fst, (n.getD ((0 : Nat) + k.toNat) (false, (0 : Int), [], [])).snd.fst, List.take (n.getD ((0 : Nat) + k.toNat) (false, (0 : Int), [], [])).snd.snd.fst.length (List.drop (0 : Nat) (n.getD ((0 : Nat) + k.toNat) (false, (0 : Int), [], [])).snd.snd.fst), List.take (List.length (n.getD ((0 : Nat) + k.toNat) (false, (0 : Int), [], [])).snd.snd.snd) (List.drop (0 : Nat) (n.getD ((0 : Nat) + k.toNat) (false, (0 : Int), [], [])).snd.snd.snd))).length) then
 bif decide ((0 : Nat) + k.toNat = (0 : Nat) + k.toNat) then
 bif decide ((0 : Int) ≤ other ∧ other < (2 : Int)) then
 bif other.toNat.beq (0 : Nat) then
 none else bif other.toNat.beq (1 : Nat) then
 none else none else none else none else none else none else none else none else none else bif other.toNat.beq (1 : Nat) then
 bif decide ((0 : Int) ≤ i ∧ i < (↑b.length : Int) ∧ (0 : Nat) < b.length) then
 bif decide ((0 : Nat) + i.toNat < b.length) then
 bif decide (List.length ((n.set ((0 : Nat) + k.toNat) ((n.getD ((0 : Nat) + k.toNat) (false, (0 : Int), [], [])).fst, (n.getD ((0 : Nat) + k.toNat) (false, (0 : Int), [], [])).snd.fst, List.take (n.getD ((0 : Nat) + k.toNat) (false, (0 : Int), [], [])).snd.snd.fst.length (List.drop (0 : Nat) (n.getD ((0 : Nat) + k.toNat) (false, (0 : Int), [], [])).snd.snd.fst), List.take (List.length (n.getD ((0 : Nat) + k.toNat) (false, (0 : Int), [], [])).snd.snd.snd) (List.drop (0 : Nat) (n.getD ((0 : Nat) + k.toNat) (false, (0 : Int), [], [])).snd.snd.snd))).getD ((0 : Nat) + k.toNat) (false, (0 : Int), [], [])).snd.snd.snd + (1 : Nat) ≤ (1073741824 : Nat)) then
 bif decide ((0 : Nat) + List.length ((n.set ((0 : Nat) + k.toNat) ((n.getD ((0 : Nat) + k.toNat) (false, (0 : Int), [], [])).fst, (n.getD ((0 : Nat) + k.toNat) (false, (0 : Int), [], [])).snd.fst, List.take (n.getD ((0 : Nat) + k.toNat) (false, (0 : Int), [], [])).snd.snd.fst.length (List.drop (0 : Nat) (n.getD ((0 : Nat) + k.toNat) (false, (0 : Int), [], [])).snd.snd.fst), List.take (List.length (n.getD ((0 : Nat) + k.toNat) (false, (0 : Int), [], [])).snd.snd.snd) (List.drop (0 : Nat) (n.getD ((0 : Nat) + k.toNat) (false, (0 : Int), [], [])).snd.snd.snd))).getD ((0 : Nat) + k.toNat) (false, (0 : Int), [], [])).snd.snd.snd ≤ List.length ((n.set ((0 : Nat) + k.toNat) ((n.getD ((0 : Nat) + k.toNat) (false, (0 : Int), [], [])).fst, (n.getD ((0 : Nat) + k.toNat) (false, (0 : Int), [], [])).snd.fst, List.take (n.getD ((0 : Nat) + k.toNat) (false, (0 : Int), [], [])).snd.snd.fst.length (List.drop (0 : Nat) (n.getD ((0 : Nat) + k.toNat) (false, (0 : Int), [], [])).snd.snd.fst), List.take (List.length (n.getD ((0 : Nat) + k.toNat) (false, (0 : Int), [], [])).snd.snd.snd) (List.drop (0 : Nat) (n.getD ((0 : Nat) + k.toNat) (false, (0 : Int), [], [])).snd.snd.snd))).getD ((0 : Nat) + k.toNat) (false, (0 : Int), [], [])).snd.snd.snd) then
 bif decide ((0 : Int) ≤ k ∧ k < (↑n.length : Int) ∧ (0 : Nat) < (n.set ((0 : Nat) + k.toNat) ((n.getD ((0 : Nat) + k.toNat) (false, (0 : Int), [], [])).fst, (n.getD ((0 : Nat) + k.toNat) (false, (0 : Int), [], [])).snd.fst, List.take (n.getD ((0 : Nat) + k.toNat) (false, (0 : Int), [], [])).snd.snd.fst.length (List.drop (0 : Nat) (n.getD ((0 : Nat) + k.toNat) (false, (0 : Int), [], [])).snd.snd.fst), List.take (List.length (n.getD ((0 : Nat) + k.toNat) (false, (0 : Int), [], [])).snd.snd.snd) (List.drop (0 : Nat) (n.getD ((0 : Nat) + k.toNat) (false, (0 : Int), [], [])).snd.snd.snd))).length) then
 bif decide ((0 : Nat) + k.toNat = (0 : Nat) + k.toNat) then
 bif decide ((0 : Int) ≤ other ∧ other < (2 : Int)) then
 bif other.toNat.beq (0 : Nat) then
 none else bif other.toNat.beq (1 : Nat) then
 none else none else none else bif decide ((0 : Nat) + ((n.set ((0 : Nat) + k.toNat) ((n.getD ((0 : Nat) + k.toNat) (false, (0 : Int), [], [])).fst, (n.getD ((0 : Nat) + k.toNat) (false, (0 : Int), [], [])).snd.fst, List.take (n.getD ((0 : Nat) + k.toNat) (false, (0 : Int), [], [])).snd.snd.fst.length (List.drop (0 : Nat) (n.getD ((0 : Nat) + k.toNat) (false, (0 : Int), [], [])).snd.snd.fst), List.take (List.length (n.getD ((0 : Nat) + k.toNat) (false, (0 : Int), [], [])).snd.snd.snd) (List.drop (0 : Nat) (n.getD ((0 : Nat) + k.toNat) (false, (0 : Int), [], [])).snd.snd.snd))).getD ((0 : Nat) + k.toNat) (false, (0 : Int), [], [])).snd.snd.fst.length ≤ ((n.set ((0 : Nat) + k.toNat) ((n.getD ((0 : Nat) + k.toNat) (false, (0 : Int), [], [])).fst, (n.getD ((0 : Nat) + k.toNat) (false, (0 : Int), [], [])).snd.fst, List.take (n.getD ((0 : Nat) + k.toNat) (false, (0 : Int), [], [])).snd.snd.fst.length (List.drop (0 : Nat) (n.getD ((0 : Nat) + k.toNat) (false, (0 : Int), [], [])).snd.snd.fst), List.take (List.length (n.getD ((0 : Nat) + k.toNat) (false, (0 : Int), [], [])).snd.snd.snd) (List.drop (0 : Nat) (n.getD ((0 : Nat) + k.toNat) (false, (0 : Int), [], [])).snd.snd.snd))).getD ((0 : Nat) + k.toNat) (false, (0 : Int), [], [])).snd.snd.fst.length) && true then
 none else none else none else none else none else none else none else none else none else none else none else none else none else none else none else none else none else none else none else none else none else none else bif other.toNat.beq (1 : Nat) then
 bif decide ((0 : Int) ≤ i ∧ i < (↑b.length : Int) ∧ (0 : Nat) < b.length) then
 bif decide ((0 : Nat) + i.toNat < b.length) then
 bif decide (List.length (n.getD ((0 : Nat) + k.toNat) (false, (0 : Int), [], [])).snd.snd.snd + (1 : Nat) ≤ (1073741824 : Nat)) then
 bif decide ((0 : Nat) + List.length (n.getD ((0 : Nat) + k.toNat) (false, (0 : Int), [], [])).snd.snd.snd ≤ List.length (n.getD ((0 : Nat) + k.toNat) (false, (0 : Int), [], [])).snd.snd.snd) then
 bif decide ((0 : Int) ≤ k ∧ k < (↑n.length : Int) ∧ (0 : Nat) < n.length) then
 bif decide ((0 : Nat) + k.toNat = (0 : Nat) + k.toNat) then
 bif decide ((0 : Int) ≤ other ∧ other < (2 : Int)) then
 bif other.toNat.beq (0 : Nat) then
 bif decide ((0 : Nat) + k.toNat < n.length) then
 bif decide ((0 : Int) ≤ k ∧ k < (↑n.length : Int) ∧ (0 : Nat) < n.length) then
 bif decide ((0 : Nat) + k.toNat = (0 : Nat) + k.toNat) then
 bif decide ((0 : Int) ≤ other ∧ other < (2 : Int)) then
 bif other.toNat.beq (0 : Nat) then
 bif decide ((0 : Int) ≤ i ∧ i < (↑b.length : Int) ∧ (0 : Nat) < b.length) then
 bif decide ((0 : Nat) + i.toNat < b.length) then
 bif decide ((n.getD ((0 : Nat) + k.toNat) (false, (0 : Int), [], [])).snd.snd.fst.length + (1 : Nat) ≤ (1073741824 : Nat)) then
 bif decide ((0 : Nat) + (n.getD ((0 : Nat) + k.toNat) (false, (0 : Int), [], [])).snd.snd.fst.length ≤ (n.getD ((0 : Nat) + k.toNat) (false, (0 : Int), [], [])).snd.snd.fst.length) then
 bif decide ((0 : Int) ≤ k ∧ k < (↑n.length : Int) ∧ (0 : Nat) < n.length) then
 bif decide ((0 : Nat) + k.toNat = (0 : Nat) + k.toNat) then
 bif decide ((0 : Int) ≤ other ∧ other < (2 : Int)) then
 bif other.toNat.beq (0 : Nat) then
 bif decide ((0 : Nat) + ((n.getD ((0 : Nat) + k.toNat) (false, (0 : Int), [], [])).snd.snd.fst.length + (1 : Nat)) ≤ (List.take (n.getD ((0 : Nat) + k.toNat) (false, (0 : Int), [], [])).snd.snd.fst.length (List.drop (0 : Nat) (n.getD ((0 : Nat) + k.toNat) (false, (0 : Int), [], [])).snd.snd.fst) ++ [b.getD ((0 : Nat) + i.toNat) (0 : Int)]).length) && true then
 bif decide ((0 : Nat) + List.length (n.getD ((0 : Nat) + k.toNat) (false, (0 : Int), [], [])).snd.snd.snd ≤ List.length (n.getD ((0 : Nat) + k.toNat) (false, (0 : Int), [], [])).snd.snd.snd) && true then
 bif decide ((0 : Nat) + n.length ≤ (n.set ((0 : Nat) + k.toNat) ((n.getD ((0 : Nat) + k.toNat) (false, (0 : Int), [], [])).fst, (n.getD ((0 : Nat) + k.toNat) (false, (0 : Int), [], [])).snd.fst, List.take ((n.getD ((0 : Nat) + k.toNat) (false, (0 : Int), [], [])).snd.snd.fst.length + (1 : Nat)) (List.drop (0 : Nat) (List.take (n.getD ((0 : Nat) + k.toNat) (false, (0 : Int), [], [])).snd.snd.fst.length (List.drop (0 : Nat) (n.getD ((0 : Nat) + k.toNat) (false, (0 : Int), [], [])).snd.snd.fst) ++ [b.getD ((0 : Nat) + i.toNat) (0 : Int)])), List.take (List.length (n.getD ((0 : Nat) + k.toNat) (false, (0 : Int), [], [])).snd.snd.snd) (List.drop (0 : Nat) (n.getD ((0 : Nat) + k.toNat) (false, (0 : Int), [], [])).snd.snd.snd))).length) && true then
 some (PUnit.unit, List.take n.length (List.drop (0 : Nat) (n.set ((0 : Nat) + k.toNat) ((n.getD ((0 : Nat) + k.toNat) (false, (0 : Int), [], [])).fst, (n.getD ((0 : Nat) + k.toNat) (false, (0 : Int), [], [])).snd.fst, List.take ((n.getD ((0 : Nat) + k.toNat) (false, (0 : Int), [], [])).snd.snd.fst.length + (1 : Nat)) (List.drop (0 : Nat) (List.take (n.getD ((0 : Nat) + k.toNat) (false, (0 : Int), [], [])).snd.snd.fst.length (List.drop (0 : Nat) (n.getD ((0 : Nat) + k.toNat) (false, (0 : Int), [], [])).snd.snd.fst) ++ [b.getD ((0 : Nat) + i.toNat) (0 : Int)])), List.take (List.length (n.getD ((0 : Nat) + k.toNat) (false, (0 : Int), [], [])).snd.snd.snd) (List.drop (0 : Nat) (n.getD ((0 : Nat) + k.toNat) (false, (0 : Int), [], [])).snd.snd.snd))))) else none else none else none else bif other.toNat.beq (1 : Nat) then
 none else none else none else none else none else none else none else none else none else bif other.toNat.beq (1 : Nat) then
 bif decide ((0 : Int) ≤ i ∧ i < (↑b.length : Int) ∧ (0 : Nat) < b.length) then
 bif decide ((0 : Nat) + i.toNat < b.length) then
 bif decide (List.length (n.getD ((0 : Nat) + k.toNat) (false, (0 : Int), [], [])).snd.snd.snd + (1 : Nat) ≤ (1073741824 : Nat)) then
 bif decide ((0 : Nat) + List.length (n.getD ((0 : Nat) + k.toNat) (false, (0 : Int), [], [])).snd.snd.snd ≤ List.length (n.getD ((0 : Nat) + k.toNat) (false, (0 : Int), [], [])).snd.snd.snd) then
 bif decide ((0 : Int) ≤ k ∧ k < (↑n.length : Int) ∧ (0 : Nat) < n.length) then
 bif decide ((0 : Nat) + k.toNat = (0 : Nat) + k.toNat) then
 bif decide ((0 : Int) ≤ other ∧ other < (2 : Int)) then
 bif other.toNat.beq (0 : Nat) then
 bif decide ((0 : Nat) + (List.length (n.getD ((0 : Nat) + k.toNat) (false, (0 : Int), [], [])).snd.snd.snd + (1 : Nat)) ≤ (List.take (List.length (n.getD ((0 : Nat) + k.toNat) (false, (0 : Int), [], [])).snd.snd.snd) (List.drop (0 : Nat) (n.getD ((0 : Nat) + k.toNat) (false, (0 : Int), [], [])).snd.snd.snd) ++ [b.getD ((0 : Nat) + i.toNat) (0 : Int)]).length) && true then
 none else none else bif other.toNat.beq (1 : Nat) then
 bif decide ((0 : Nat) + (n.getD ((0 : Nat) + k.toNat) (false, (0 : Int), [], [])).snd.snd.fst.length ≤ (n.getD ((0 : Nat) + k.toNat) (false, (0 : Int), [], [])).snd.snd.fst.length) && true then
 bif decide ((0 : Nat) + (List.length (n.getD ((0 : Nat) + k.toNat) (false, (0 : Int), [], [])).snd.snd.snd + (1 : Nat)) ≤ (List.take (List.length (n.getD ((0 : Nat) + k.toNat) (false, (0 : Int), [], [])).snd.snd.snd) (List.drop (0 : Nat) (n.getD ((0 : Nat) + k.toNat) (false, (0 : Int), [], [])).snd.snd.snd) ++ [b.getD ((0 : Nat) + i.toNat) (0 : Int)]).length) && true then
 bif decide ((0 : Nat) + n.length ≤ (n.set ((0 : Nat) + k.toNat) ((n.getD ((0 : Nat) + k.toNat) (false, (0 : Int), [], [])).fst, (n.getD ((0 : Nat) + k.toNat) (false, (0 : Int), [], [])).snd.fst, List.take (n.getD ((0 : Nat) + k.toNat) (false, (0 : Int), [], [])).snd.snd.fst.length (List.drop (0 : Nat) (n.getD ((0 : Nat) + k.toNat) (false, (0 : Int), [], [])).snd.snd.fst), List.take (List.length (n.getD ((0 : Nat) + k.toNat) (false, (0 : Int), [], [])).snd.snd.snd + (1 : Nat)) (List.drop (0 : Nat) (List.take (List.length (n.getD ((0 : Nat) + k.toNat) (false, (0 : Int), [], [])).snd.snd.snd) (List.drop (0 : Nat) (n.getD ((0 : Nat) + k.toNat) (false, (0 : Int), [], [])).snd.snd.snd) ++ [b.getD ((0 : Nat) + i.toNat) (0 : Int)])))).length) && true then
 some (PUnit.unit, List.take n.length (List.drop (0 : Nat) (n.set ((0 : Nat) + k.toNat) ((n.getD ((0 : Nat) + k.toNat) (false, (0 : Int), [], [])).fst, (n.getD ((0 : Nat) + k.toNat) (false, (0 : Int), [], [])).snd.fst, List.take (n.getD ((0 : Nat) + k.toNat) (false, (0 : Int), [], [])).snd.snd.fst.length (List.drop (0 : Nat) (n.getD ((0 : Nat) + k.toNat) (false, (0 : Int), [], [])).snd.snd.fst), List.take (List.length (n.getD ((0 : Nat) + k.toNat) (false, (0 : Int), [], [])).snd.snd.snd + (1 : Nat)) (List.drop (0 : Nat) (List.take (List.length (n.getD ((0 : Nat) + k.toNat) (false, (0 : Int), [], [])).snd.snd.snd) (List.drop (0 : Nat) (n.getD ((0 : Nat) + k.toNat) (false, (0 : Int), [], [])).snd.snd.snd) ++ [b.getD ((0 : Nat) + i.toNat) (0 : Int)])))))) else none else none else none else none else none else bif decide ((0 : Nat) + (n.getD ((0 : Nat) + k.toNat) (false, (0 : Int), [], [])).snd.snd.fst.length ≤ (n.getD ((0 : Nat) + k.toNat) (false, (0 : Int), [], [])).snd.snd.fst.length) && true then
 none else none else none else none else none else none else none else none else none else bif decide ((0 : Nat) + (n.getD ((0 : Nat) + k.toNat) (false, (0 : Int), [], [])).snd.snd.fst.length ≤ (n.getD ((0 : Nat) + k.toNat) (false, (0 : Int), [], [])).snd.snd.fst.length) && true then
 bif decide ((0 : Nat) + List.length (n.getD ((0 : Nat) + k.toNat) (false, (0 : Int), [], [])).snd.snd.snd ≤ List.length (n.getD ((0 : Nat) + k.toNat) (false, (0 : Int), [], [])).snd.snd.snd) && true then
 bif decide ((0 : Nat) + k.toNat < (n.set ((0 : Nat) + k.toNat) ((n.getD ((0 : Nat) + k.toNat) (false, (0 : Int), [], [])).fst, (n.getD ((0 : Nat) + k.toNat) (false, (0 : Int), [], [])).snd.fst, List.take (n.getD ((0 : Nat) + k.toNat) (false, (0 : Int), [], [])).snd.snd.fst.length (List.drop (0 : Nat) (n.getD ((0 : Nat) + k.toNat) (false, (0 : Int), [], [])).snd.snd.fst), List.take (List.length (n.getD ((0 : Nat) + k.toNat) (false, (0 : Int), [], [])).snd.snd.snd) (List.drop (0 : Nat) (n.getD ((0 : Nat) + k.toNat) (false, (0 : Int), [], [])).snd.snd.snd))).length) then
 bif decide ((0 : Int) ≤ other ∧ other < (2 : Int)) then
 bif other.toNat.beq (0 : Nat) then
 bif decide ((0 : Int) ≤ i ∧ i < (↑b.length : Int) ∧ (0 : Nat) < b.length) then
 bif decide ((0 : Nat) + i.toNat < b.length) then
 bif decide (((n.set ((0 : Nat) + k.toNat) ((n.getD ((0 : Nat) + k.toNat) (false, (0 : Int), [], [])).fst, (n.getD ((0 : Nat) + k.toNat) (false, (0 : Int), [], [])).snd.fst, List.take (n.getD ((0 : Nat) + k.toNat) (false, (0 : Int), [], [])).snd.snd.fst.length (List.drop (0 : Nat) (n.getD ((0 : Nat) + k.toNat) (false, (0 : Int), [], [])).snd.snd.fst), List.take (List.length (n.getD ((0 : Nat) + k.toNat) (false, (0 : Int), [], [])).snd.snd.snd) (List.drop (0 : Nat) (n.getD ((0 : Nat) + k.toNat) (false, (0 : Int), [], [])).snd.snd.snd))).getD ((0 : Nat) + k.toNat) (false, (0 : Int), [], [])).snd.snd.fst.length + (1 : Nat) ≤ (1073741824 : Nat)) then
 bif decide ((0 : Nat) + ((n.set ((0 : Nat) + k.toNat) ((n.getD ((0 : Nat) + k.toNat) (false, (0 : Int), [], [])).fst, (n.getD ((0 : Nat) + k.toNat) (false, (0 : Int), [], [])).snd.fst, List.take (n.getD ((0 : Nat) + k.toNat) (false, (0 : Int), [], [])).snd.snd.fst.length (List.drop (0 : Nat) (n.getD ((0 : Nat) + k.toNat) (false, (0 : Int), [], [])).snd.snd.fst), List.take (List.length (n.getD ((0 : Nat) + k.toNat) (false, (0 : Int), [], [])).snd.snd.snd) (List.drop (0 : Nat) (n.getD ((0 : Nat) + k.toNat) (false, (0 : Int), [], [])).snd.snd.snd))).getD ((0 : Nat) + k.toNat) (false, (0 : Int), [], [])).snd.snd.fst.length ≤ ((n.set ((0 : Nat) + k.toNat) ((n.getD ((0 : Nat) + k.toNat) (false, (0 : Int), [], [])).fst, (n.getD ((0 : Nat) + k.toNat) (false, (0 : Int), [], [])).snd.fst, List.take (n.getD ((0 : Nat) + k.toNat) (false, (0 : Int), [], [])).snd.snd.fst.length (List.drop (0 : Nat) (n.getD ((0 : Nat) + k.toNat) (false, (0 : Int), [], [])).snd.snd.fst), List.take (List.length (n.getD ((0 : Nat) + k.toNat) (false, (0 : Int), [], [])).snd.snd.snd) (List.drop (0 : Nat) (n.getD ((0 : Nat) + k.toNat) (false, (0 : Int), [], [])).snd.snd.snd))).getD ((0 : Nat) + k.toNat) (false, (0 : Int), [], [])).snd.snd.fst.length) then
 bif decide ((0 : Int) ≤ k ∧ k < (↑n.length : Int) ∧ (0 : Nat) < (n.set ((0 : Nat) + k.toNat) ((n.getD ((0 : Nat) + k.toNat) (false, (0 : Int), [], [])).fst, (n.getD ((0 : Nat) + k.toNat) (false, (0 : Int), [], [])).snd.fst, List.take (n.getD ((0 : Nat) + k.toNat) (false, (0 : Int), [], [])).snd.snd.fst.length (List.drop (0 : Nat) (n.getD ((0 : Nat) + k.toNat) (false, (0 : Int), [], [])).snd.snd.fst), List.take (List.length (n.getD ((0 : Nat) + k.toNat) (false, (0 : Int), [], [])).snd.snd.snd) (List.drop (0 : Nat) (n.getD ((0 : Nat) + k.toNat) (false, (0 : Int), [], [])).snd.snd.snd))).length) then
 bif decide ((0 : Nat) + k.toNat = (0 : Nat) + k.toNat) then
 bif decide ((0 : Int) ≤ other ∧ other < (2 : Int)) then
 bif other.toNat.beq (0 : Nat) then
 none else bif other.toNat.beq (1 : Nat) then
 none else none else none else none else none else none else none else none else none else bif other.toNat.beq (1 : Nat) then
 bif decide ((0 : Int) ≤ i ∧ i < (↑b.length : Int) ∧ (0 : Nat) < b.length) then
 bif decide ((0 : Nat) + i.toNat < b.length) then
 bif decide (List.length ((n.set ((0 : Nat) + k.toNat) ((n.getD ((0 : Nat) + k.toNat) (false, (0 : Int), [], [])).fst, (n.getD ((0 : Nat) + k.toNat) (false, (0 : Int), [], [])).snd.fst, List.take (n.getD ((0 : Nat) + k.toNat) (false, (0 : Int), [], [])).snd.snd.fst.length (List.drop (0 : Nat) (n.getD ((0 : Nat) + k.toNat) (false, (0 : Int), [], [])).snd.snd.fst), List.take (List.length (n.getD ((0 : Nat) + k.toNat) (false, (0 : Int), [], [])).snd.snd.snd) (List.drop (0 : Nat) (n.getD ((0 : Nat) + k.toNat) (false, (0 : Int), [], [])).snd.snd.snd))).getD ((0 : Nat) + k.toNat) (false, (0 : Int), [], [])).snd.snd.snd + (1 : Nat) ≤ (1073741824 : Nat)) then
 bif decide ((0 : Nat) + List.length ((n.set ((0 : Nat) + k.toNat) ((n.getD ((0 : Nat) + k.toNat) (false, (0 : Int), [], [])).fst, (n.getD ((0 : Nat) + k.toNat) (false, (0 : Int), [], [])).snd.fst, List.take (n.getD ((0 : Nat) + k.toNat) (false, (0 : Int), [], [])).snd.snd.fst.length (List.drop (0 : Nat) (n.getD ((0 : Nat) + k.toNat) (false, (0 : Int), [], [])).snd.snd.fst), List.take (List.length (n.getD ((0 : Nat) + k.toNat) (false, (0 : Int), [], [])).snd.snd.snd) (List.drop (0 : Nat) (n.getD ((0 : Nat) + k.toNat) (false, (0 : Int), [], [])).snd.snd.snd))).getD ((0 : Nat) + k.toNat) (false, (0 : Int), [], [])).snd.snd.snd ≤ List.length ((n.set ((0 : Nat) + k.toNat) ((n.getD ((0 : Nat) + k.toNat) (false, (0 : Int), [], [])).fst, (n.getD ((0 : Nat) + k.toNat) (false, (0 : Int), [], [])).snd.fst, List.take (n.getD ((0 : Nat) + k.toNat) (false, (0 : Int), [], [])).snd.snd.fst.length (List.drop (0 : Nat) (n.getD ((0 : Nat) + k.toNat) (false, (0 : Int), [], [])).snd.snd.fst), List.take (List.length (n.getD ((0 : Nat) + k.toNat) (false, (0 : Int), [], [])).snd.snd.snd) (List.drop (0 : Nat) (n.getD ((0 : Nat) + k.toNat) (false, (0 : Int), [], [])).snd.snd.snd))).getD ((0 : Nat) + k.toNat) (false, (0 : Int), [], [])).snd.snd.snd) then
 bif decide ((0 : Int) ≤ k ∧ k < (↑n.length : Int) ∧ (0 : Nat) < (n.set ((0 : Nat) + k.toNat) ((n.getD ((0 : Nat) + k.toNat) (false, (0 : Int), [], [])).fst, (n.getD ((0 : Nat) + k.toNat) (false, (0 : Int), [], [])).snd.fst, List.take (n.getD ((0 : Nat) + k.toNat) (false, (0 : Int), [], [])).snd.snd.fst.length (List.drop (0 : Nat) (n.getD ((0 : Nat) + k.toNat) (false, (0 : Int), [], [])).snd.snd.fst), List.take (List.length (n.getD ((0 : Nat) + k.toNat) (false, (0 : Int), [], [])).snd.snd.snd) (List.drop (0 : Nat) (n.getD ((0 : Nat) + k.toNat) (false, (0 : Int), [], [])).snd.snd.snd))).length) then
 bif decide ((0 : Nat) + k.toNat = (0 : Nat) + k.toNat) then
 bif decide ((0 : Int) ≤ other ∧ other < (2 : Int)) then
 bif other.toNat.beq (0 : Nat) then
 none else bif other.toNat.beq (1 : Nat) then
 none else none else none else bif decide ((0 : Nat) + ((n.set ((0 : Nat) + k.toNat) ((n.getD ((0 : Nat) + k.toNat) (false, (0 : Int), [], [])).fst, (n.getD ((0 : Nat) + k.toNat) (false, (0 : Int), [], [])).snd.fst, List.take (n.getD ((0 : Nat) + k.toNat) (false, (0 : Int), [], [])).snd.snd.fst.length (List.drop (0 : Nat) (n.getD ((0 : Nat) + k.toNat) (false, (0 : Int), [], [])).snd.snd.fst), List.take (List.length (n.getD ((0 : Nat) + k.toNat) (false, (0 : Int), [], [])).snd.snd.snd) (List.drop (0 : Nat) (n.getD ((0 : Nat) + k.toNat) (false, (0 : Int), [], [])).snd.snd.snd))).getD ((0 : Nat) + k.toNat) (false, (0 : Int), [], [])).snd.snd.fst.length ≤ ((n.set ((0 : Nat) + k.toNat) ((n.getD ((0 : Nat) + k.toNat) (false, (0 : Int), [], [])).fst, (n.getD ((0 : Nat) + k.toNat) (false, (0 : Int), [], [])).snd.fst, List.take (n.getD ((0 : Nat) + k.toNat) (false, (0 : Int), [], [])).snd.snd.fst.length (List.drop (0 : Nat) (n.getD ((0 : Nat) + k.toNat) (false, (0 : Int), [], [])).snd.snd.fst), List.take (List.length (n.getD ((0 : Nat) + k.toNat) (false, (0 : Int), [], [])).snd.snd.snd) (List.drop (0 : Nat) (n.getD ((0 : Nat) + k.toNat) (false, (0 : Int), [], [])).snd.snd.snd))).getD ((0 : Nat) + k.toNat) (false, (0 : Int), [], [])).snd.snd.fst.length) && true then
 none else none else none else none else none else none else none else none else none else none else none else none else none else none else bif other.toNat.beq (1 : Nat) then
 bif decide ((0 : Nat) + k.toNat < n.length) then
 bif decide ((0 : Int) ≤ k ∧ k < (↑n.length : Int) ∧ (0 : Nat) < n.length) then
 bif decide ((0 : Nat) + k.toNat = (0 : Nat) + k.toNat) then
 bif decide ((0 : Int) ≤ other ∧ other < (2 : Int)) then
 bif other.toNat.beq (0 : Nat) then
 bif decide ((0 : Int) ≤ i ∧ i < (↑b.length : Int) ∧ (0 : Nat) < b.length) then
 bif decide ((0 : Nat) + i.toNat < b.length) then
 bif decide ((n.getD ((0 : Nat) + k.toNat) (false, (0 : Int), [], [])).snd.snd.fst.length + (1 : Nat) ≤ (1073741824 : Nat)) then
 bif decide ((0 : Nat) + (n.getD ((0 : Nat) + k.toNat) (false, (0 : Int), [], [])).snd.snd.fst.length ≤ (n.getD ((0 : Nat) + k.toNat) (false, (0 : Int), [], [])).snd.snd.fst.length) then
 bif decide ((0 : Int) ≤ k ∧ k < (↑n.length : Int) ∧ (0 : Nat) < n.length) then
 bif decide ((0 : Nat) + k.toNat = (0 : Nat) + k.toNat) then
 bif decide ((0 : Int) ≤ other ∧ other < (2 : Int)) then
 bif other.toNat.beq (0 : Nat) then
 bif decide ((0 : Nat) + ((n.getD ((0 : Nat) + k.toNat) (false, (0 : Int), [], [])).snd.snd.fst.length + (1 : Nat)) ≤ (List.take (n.getD ((0 : Nat) + k.toNat) (false, (0 : Int), [], [])).snd.snd.fst.length (List.drop (0 : Nat) (n.getD ((0 : Nat) + k.toNat) (false, (0 : Int), [], [])).snd.snd.fst) ++ [b.getD ((0 : Nat) + i.toNat) (0 : Int)]).length) && true then
 bif decide ((0 : Nat) + List.length (n.getD ((0 : Nat) + k.toNat) (false, (0 : Int), [], [])).snd.snd.snd ≤ List.length (n.getD ((0 : Nat) + k.toNat) (false, (0 : Int), [], [])).snd.snd.snd) && true then
 bif decide ((0 : Nat) + n.length ≤ (n.set ((0 : Nat) + k.toNat) ((n.getD ((0 : Nat) + k.toNat) (false, (0 : Int), [], [])).fst, (n.getD ((0 : Nat) + k.toNat) (false, (0 : Int), [], [])).snd.fst, List.take ((n.getD ((0 : Nat) + k.toNat) (false, (0 : Int), [], [])).snd.snd.fst.length + (1 : Nat)) (List.drop (0 : Nat) (List.take (n.getD ((0 : Nat) + k.toNat) (false, (0 : Int), [], [])).snd.snd.fst.length (List.drop (0 : Nat) (n.getD ((0 : Nat) + k.toNat) (false, (0 : Int), [], [])).snd.snd.fst) ++ [b.getD ((0 : Nat) + i.toNat) (0 : Int)])), List.take (List.length (n.getD ((0 : Nat) + k.toNat) (false, (0 : Int), [], [])).snd.snd.snd) (List.drop (0 : Nat) (n.getD ((0 : Nat) + k.toNat) (false, (0 : Int), [], [])).snd.snd.snd))).length) && true then
 some (PUnit.unit, List.take n.length (List.drop (0 : Nat) (n.set ((0 : Nat) + k.toNat) ((n.getD ((0 : Nat) + k.toNat) (false, (0 : Int), [], [])).fst, (n.getD ((0 : Nat) + k.toNat) (false, (0 : Int), [], [])).snd.fst, List.take ((n.getD ((0 : Nat) + k.toNat) (false, (0 : Int), [], [])).snd.snd.fst.length + (1 : Nat)) (List.drop (0 : Nat) (List.take (n.getD ((0 : Nat) + k.toNat) (false, (0 : Int), [], [])).snd.snd.fst.length (List.drop (0 : Nat) (n.getD ((0 : Nat) + k.toNat) (false, (0 : Int), [], [])).snd.snd.fst) ++ [b.getD ((0 : Nat) + i.toNat) (0 : Int)])), List.take (List.length (n.getD ((0 : Nat) + k.toNat) (false, (0 : Int), [], [])).snd.snd.snd) (List.drop (0 : Nat) (n.getD ((0 : Nat) + k.toNat) (false, (0 : Int), [], [])).snd.snd.snd))))) else none else none else none else bif other.toNat.beq (1 : Nat) then
 none else none else none else none else none else none else none else none else none else bif other.toNat.beq (1 : Nat) then
 bif decide ((0 : Int) ≤ i ∧ i < (↑b.length : Int) ∧ (0 : Nat) < b.length) then
 bif decide ((0 : Nat) + i.toNat < b.length) then
 bif decide (List.length (n.getD ((0 : Nat) + k.toNat) (false, (0 : Int), [], [])).snd.snd.snd + (1 : Nat) ≤ (1073741824 : Nat)) then
 bif decide ((0 : Nat) + List.length (n.getD ((0 : Nat) + k.toNat) (false, (0 : Int), [], [])).snd.snd.snd ≤ List.length (n.getD ((0 : Nat) + k.toNat) (false, (0 : Int), [], [])).snd.snd.snd) then
 bif decide ((0 : Int) ≤ k ∧ k < (↑n.length : Int) ∧ (0 : Nat) < n.length) then
 bif decide ((0 : Nat) + k.toNat = (0 : Nat) + k.toNat) then
 bif decide ((0 : Int) ≤ other ∧ other < (2 : Int)) then
 bif other.toNat.beq (0 : Nat) then
 bif decide ((0 : Nat) + (List.length (n.getD ((0 : Nat) + k.toNat) (false, (0 : Int), [], [])).snd.snd.snd + (1 : Nat)) ≤ (List.take (List.length (n.getD ((0 : Nat) + k.toNat) (false, (0 : Int), [], [])).snd.snd.snd) (List.drop (0 : Nat) (n.getD ((0 : Nat) + k.toNat) (false, (0 : Int), [], [])).snd.snd.snd) ++ [b.getD ((0 : Nat) + i.toNat) (0 : Int)]).length) && true then
 none else none else bif other.toNat.beq (1 : Nat) then
 bif decide ((0 : Nat) + (n.getD ((0 : Nat) + k.toNat) (false, (0 : Int), [], [])).snd.snd.fst.length ≤ (n.getD ((0 : Nat) + k.toNat) (false, (0 : Int), [], [])).snd.snd.fst.length) && true then
 bif decide ((0 : Nat) + (List.length (n.getD ((0 : Nat) + k.toNat) (false, (0 : Int), [], [])).snd.snd.snd + (1 : Nat)) ≤ (List.take (List.length (n.getD ((0 : Nat) + k.toNat) (false, (0 : Int), [], [])).snd.snd.snd) (List.drop (0 : Nat) (n.getD ((0 : Nat) + k.toNat) (false, (0 : Int), [], [])).snd.snd.snd) ++ [b.getD ((0 : Nat) + i.toNat) (0 : Int)]).length) && true then
 bif decide ((0 : Nat) + n.length ≤ (n.set ((0 : Nat) + k.toNat) ((n.getD ((0 : Nat) + k.toNat) (false, (0 : Int), [], [])).fst, (n.getD ((0 : Nat) + k.toNat) (false, (0 : Int), [], [])).snd.fst, List.take (n.getD ((0 : Nat) + k.toNat) (false, (0 : Int), [], [])).snd.snd.fst.length (List.drop (0 : Nat) (n.getD ((0 : Nat) + k.toNat) (false, (0 : Int), [], [])).snd.snd.fst), List.take (List.length (n.getD ((0 : Nat) + k.toNat) (false, (0 : Int), [], [])).snd.snd.snd + (1 : Nat)) (List.drop (0 : Nat) (List.take (List.length (n.getD ((0 : Nat) + k.toNat) (false, (0 : Int), [], [])).snd.snd.snd) (List.drop (0 : Nat) (n.getD ((0 : Nat) + k.toNat) (false, (0 : Int), [], [])).snd.snd.snd) ++ [b.getD ((0 : Nat) + i.toNat) (0 : Int)])))).length) && true then
 some (PUnit.unit, List.take n.length (List.drop (0 : Nat) (n.set ((0 : Nat) + k.toNat) ((n.getD ((0 : Nat) + k.toNat) (false, (0 : Int), [], [])).fst, (n.getD ((0 : Nat) + k.toNat) (false, (0 : Int), [], [])).snd.fst, List.take (n.getD ((0 : Nat) + k.toNat) (false, (0 : Int), [], [])).snd.snd.fst.length (List.drop (0 : Nat) (n.getD ((0 : Nat) + k.toNat) (false, (0 : Int), [], [])).snd.snd.fst), List.take (List.length (n.getD ((0 : Nat) + k.toNat) (false, (0 : Int), [], [])).snd.snd.snd + (1 : Nat)) (List.drop (0 : Nat) (List.take (List.length (n.getD ((0 : Nat) + k.toNat) (false, (0 : Int), [], [])).snd.snd.snd) (List.drop (0 : Nat) (n.getD ((0 : Nat) + k.toNat) (false, (0 : Int), [], [])).snd.snd.snd) ++ [b.getD ((0 : Nat) + i.toNat) (0 : Int)])))))) else none else none else none else none else none else bif decide ((0 : Nat) + (n.getD ((0 : Nat) + k.toNat) (false, (0 : Int), [], [])).snd.snd.fst.length ≤ (n.getD ((0 : Nat) + k.toNat) (false, (0 : Int), [], [])).snd.snd.fst.length) && true then
 none else none else none else none else none else none else none else none else none else bif decide ((0 : Nat) + (n.getD ((0 : Nat) + k.toNat) (false, (0 : Int), [], [])).snd.snd.fst.length ≤ (n.getD ((0 : Nat) + k.toNat) (false, (0 : Int), [], [])).snd.snd.fst.length) && true then
 bif decide ((0 : Nat) + List.length (n.getD ((0 : Nat) + k.toNat) (false, (0 : Int), [], [])).snd.snd.snd ≤ List.length (n.getD ((0 : Nat) + k.toNat) (false, (0 : Int), [], [])).snd.snd.snd) && true then
 bif decide ((0 : Nat) + k.toNat < (n.set ((0 : Nat) + k.toNat) ((n.getD ((0 : Nat) + k.toNat) (false, (0 : Int), [], [])).fst, (n.getD ((0 : Nat) + k.toNat) (false, (0 : Int), [], [])).snd.fst, List.take (n.getD ((0 : Nat) + k.toNat) (false, (0 : Int), [], [])).snd.snd.fst.length (List.drop (0 : Nat) (n.getD ((0 : Nat) + k.toNat) (false, (0 : Int), [], [])).snd.snd.fst), List.take (List.length (n.getD ((0 : Nat) + k.toNat) (false, (0 : Int), [], [])).snd.snd.snd) (List.drop (0 : Nat) (n.getD ((0 : Nat) + k.toNat) (false, (0 : Int), [], [])).snd.snd.snd))).length) then
 bif decide ((0 : Int) ≤ other ∧ other < (2 : Int)) then
 bif other.toNat.beq (0 : Nat) then
 bif decide ((0 : Int) ≤ i ∧ i < (↑b.length : Int) ∧ (0 : Nat) < b.length) then
 bif decide ((0 : Nat) + i.toNat < b.length) then
 bif decide (((n.set ((0 : Nat) + k.toNat) ((n.getD ((0 : Nat) + k.toNat) (false, (0 : Int), [], [])).fst, (n.getD ((0 : Nat) + k.toNat) (false, (0 : Int), [], [])).snd.fst, List.take (n.getD ((0 : Nat) + k.toNat) (false, (0 : Int), [], [])).snd.snd.fst.length (List.drop (0 : Nat) (n.getD ((0 : Nat) + k.toNat) (false, (0 : Int), [], [])).snd.snd.fst), List.take (List.length (n.getD ((0 : Nat) + k.toNat) (false, (0 : Int), [], [])).snd.snd.snd) (List.drop (0 : Nat) (n.getD ((0 : Nat) + k.toNat) (false, (0 : Int), [], [])).snd.snd.snd))).getD ((0 : Nat) + k.toNat) (false, (0 : Int), [], [])).snd.snd.fst.length + (1 : Nat) ≤ (1073741824 : Nat)) then
 bif decide ((0 : Nat) + ((n.set ((0 : Nat) + k.toNat) ((n.getD ((0 : Nat) + k.toNat) (false, (0 : Int), [], [])).fst, (n.getD ((0 : Nat) + k.toNat) (false, (0 : Int), [], [])).snd.fst, List.take (n.getD ((0 : Nat) + k.toNat) (false, (0 : Int), [], [])).snd.snd.fst.length (List.drop (0 : Nat) (n.getD ((0 : Nat) + k.toNat) (false, (0 : Int), [], [])).snd.snd.fst), List.take (List.length (n.getD ((0 : Nat) + k.toNat) (false, (0 : Int), [], [])).snd.snd.snd) (List.drop (0 : Nat) (n.getD ((0 : Nat) + k.toNat) (false, (0 : Int), [], [])).snd.snd.snd))).getD ((0 : Nat) + k.toNat) (false, (0 : Int), [], [])).snd.snd.fst.length ≤ ((n.set ((0 : Nat) + k.toNat) ((n.getD ((0 : Nat) + k.toNat) (false, (0 : Int), [], [])).fst, (n.getD ((0 : Nat) + k.toNat) (false, (0 : Int), [], [])).snd.fst, List.take (n.getD ((0 : Nat) + k.toNat) (false, (0 : Int), [], [])).snd.snd.fst.length (List.drop (0 : Nat) (n.getD ((0 : Nat) + k.toNat) (false, (0 : Int), [], [])).snd.snd.fst), List.take (List.length (n.getD ((0 : Nat) + k.toNat) (false, (0 : Int), [], [])).snd.snd.snd) (List.drop (0 : Nat) (n.getD ((0 : Nat) + k.toNat) (false, (0 : Int), [], [])).snd.snd.snd))).getD ((0 : Nat) + k.toNat) (false, (0 : Int), [], [])).snd.snd.fst.length) then
 bif decide ((0 : Int) ≤ k ∧ k < (↑n.length : Int) ∧ (0 : Nat) < (n.set ((0 : Nat) + k.toNat) ((n.getD ((0 : Nat) + k.toNat) (false, (0 : Int), [], [])).fst, (n.getD ((0 : Nat) + k.toNat) (false, (0 : Int), [], [])).snd.fst, List.take (n.getD ((0 : Nat) + k.toNat) (false, (0 : Int), [], [])).snd.snd.fst.length (List.drop (0 : Nat) (n.getD ((0 : Nat) + k.toNat) (false, (0 : Int), [], [])).snd.snd.fst), List.take (List.length (n.getD ((0 : Nat) + k.toNat) (false, (0 : Int), [], [])).snd.snd.snd) (List.drop (0 : Nat) (n.getD ((0 : Nat) + k.toNat) (false, (0 : Int), [], [])).snd.snd.snd))).length) then
 bif decide ((0 : Nat) + k.toNat = (0 : Nat) + k.toNat) then
 bif decide ((0 : Int) ≤ other ∧ other < (2 : Int)) then
 bif other.toNat.beq (0 : Nat) then
 none else bif other.toNat.beq (1 : Nat) then
 none else none else none else none else none else none else none else none else none else bif other.toNat.beq (1 : Nat) then
 bif decide ((0 : Int) ≤ i ∧ i < (↑b.length : Int) ∧ (0 : Nat) < b.length) then
 bif decide ((0 : Nat) + i.toNat < b.length) then
 bif decide (List.length ((n.set ((0 : Nat) + k.toNat) ((n.getD ((0 : Nat) + k.toNat) (false, (0 : Int), [], [])).fst, (n.getD ((0 : Nat) + k.toNat) (false, (0 : Int), [], [])).snd.fst, List.take (n.getD ((0 : Nat) + k.toNat) (false, (0 : Int), [], [])).snd.snd.fst.length (List.drop (0 : Nat) (n.getD ((0 : Nat) + k.toNat) (false, (0 : Int), [], [])).snd.snd.fst), List.take (List.length (n.getD ((0 : Nat) + k.toNat) (false, (0 : Int), [], [])).snd.snd.snd) (List.drop (0 : Nat) (n.getD ((0 : Nat) + k.toNat) (false, (0 : Int), [], [])).snd.snd.snd))).getD ((0 : Nat) + k.toNat) (false, (0 : Int), [], [])).snd.snd.snd + (1 : Nat) ≤ (1073741824 : Nat)) then
 bif decide ((0 : Nat) + List.length ((n.set ((0 : Nat) + k.toNat) ((n.getD ((0 : Nat) + k.toNat) (false, (0 : Int), [], [])).fst, (n.getD ((0 : Nat) + k.toNat) (false, (0 : Int), [], [])).snd.fst, List.take (n.getD ((0 : Nat) + k.toNat) (false, (0 : Int), [], [])).snd.snd.fst.length (List.drop (0 : Nat) (n.getD ((0 : Nat) + k.toNat) (false, (0 : Int), [], [])).snd.snd.fst), List.take (List.length (n.getD ((0 : Nat) + k.toNat) (false, (0 : Int), [], [])).snd.snd.snd) (List.drop (0 : Nat) (n.getD ((0 : Nat) + k.toNat) (false, (0 : Int), [], [])).snd.snd.snd))).getD ((0 : Nat) + k.toNat) (false, (0 : Int), [], [])).snd.snd.snd ≤ List.length ((n.set ((0 : Nat) + k.toNat) ((n.getD ((0 : Nat) + k.toNat) (false, (0 : Int), [], [])).fst, (n.getD ((0 : Nat) + k.toNat) (false, (0 : Int), [], [])).snd.fst, List.take (n.getD ((0 : Nat) + k.toNat) (false, (0 : Int), [], [])).snd.snd.fst.length (List.drop (0 : Nat) (n.getD ((0 : Nat) + k.toNat) (false, (0 : Int), [], [])).snd.snd.fst), List.take (List.length (n.getD ((0 : Nat) + k.toNat) (false, (0 : Int), [], [])).snd.snd.snd) (List.drop (0 : Nat) (n.getD ((0 : Nat) + k.toNat) (false, (0 : Int), [], [])).snd.snd.snd))).getD ((0 : Nat) + k.toNat) (false, (0 : Int), [], [])).snd.snd.snd) then
 bif decide ((0 : Int) ≤ k ∧ k < (↑n.length : Int) ∧ (0 : Nat) < (n.set ((0 : Nat) + k.toNat) ((n.getD ((0 : Nat) + k.toNat) (false, (0 : Int), [], [])).fst, (n.getD ((0 : Nat) + k.toNat) (false, (0 : Int), [], [])).snd.fst, List.take (n.getD ((0 : Nat) + k.toNat) (false, (0 : Int), [], [])).snd.snd.fst.length (List.drop (0 : Nat) (n.getD ((0 : Nat) + k.toNat) (false, (0 : Int), [], [])).snd.snd.fst), List.take (List.length (n.getD ((0 : Nat) + k.toNat) (false, (0 : Int), [], [])).snd.snd.snd) (List.drop (0 : Nat) (n.getD ((0 : Nat) + k.toNat) (false, (0 : Int), [], [])).snd.snd.snd))).length) then
 bif decide ((0 : Nat) + k.toNat = (0 : Nat) + k.toNat) then
 bif decide ((0 : Int) ≤ other ∧ other < (2 : Int)) then
 bif other.toNat.beq (0 : Nat) then
 none else bif other.toNat.beq (1 : Nat) then
 none else none else none else bif decide ((0 : Nat) + ((n.set ((0 : Nat) + k.toNat) ((n.getD ((0 : Nat) + k.toNat) (false, (0 : Int), [], [])).fst, (n.getD ((0 : Nat) + k.toNat) (false, (0 : Int), [], [])).snd.fst, List.take (n.getD ((0 : Nat) + k.toNat) (false, (0 : Int), [], [])).snd.snd.fst.length (List.drop (0 : Nat) (n.getD ((0 : Nat) + k.toNat) (false, (0 : Int), [], [])).snd.snd.fst), List.take (List.length (n.getD ((0 : Nat) + k.toNat) (false, (0 : Int), [], [])).snd.snd.snd) (List.drop (0 : Nat) (n.getD ((0 : Nat) + k.toNat) (false, (0 : Int), [], [])).snd.snd.snd))).getD ((0 : Nat) + k.toNat) (false, (0 : Int), [], [])).snd.snd.fst.length ≤ ((n.set ((0 : Nat) + k.toNat) ((n.getD ((0 : Nat) + k.toNat) (false, (0 : Int), [], [])).fst, (n.getD ((0 : Nat) + k.toNat) (false, (0 : Int), [], [])).snd.fst, List.take (n.getD ((0 : Nat) + k.toNat) (false, (0 : Int), [], [])).snd.snd.fst.length (List.drop (0 : Nat) (n.getD ((0 : Nat) + k.toNat) (false, (0 : Int), [], [])).snd.snd.fst), List.take (List.length (n.getD ((0 : Nat) + k.toNat) (false, (0 : Int), [], [])).snd.snd.snd) (List.drop (0 : Nat) (n.getD ((0 : Nat) + k.toNat) (false, (0 : Int), [], [])).snd.snd.snd))).getD ((0 : Nat) + k.toNat) (false, (0 : Int), [], [])).snd.snd.fst.length) && true then
 none else none else none else none else none else none else none else none else none else none else none else none else none else none else none else none else bif decide ((0 : Nat) + (n.getD ((0 : Nat) + k.toNat) (false, (0 : Int), [], [])).snd.snd.fst.length ≤ (n.getD ((0 : Nat) + k.toNat) (false, (0 : Int), [], [])).snd.snd.fst.length) && true then
 none else none else none else none else none else none else none else none else none else none else none
theorem r3e (kd : Int × List (Int) × Int × Int) (d : ((List (Bool × Int × List (Int) × List (Int))))) : unitF (tabC Try.prog (tab) (pls) 100 10) 100 .none (u3 fun _ _ => none) (codeAt [1, 1, 1, 1, 1, 1, 0, 1, 0, 0, 1, 0, 0] (bodyOf Try.prog 34)) kd d = r3P kd d := by kernel_rfl
noncomputable def r3 : G3 := r3P
noncomputable def l3 : G3 := r3
theorem ok3 : UnOk Try.prog (u3 l3) (codeAt [1, 1, 1, 1, 1, 1, 0, 1, 0, 0, 1, 0, 0] (bodyOf Try.prog 34)) :=
  blockT (p := .none) (fuel := 100) (depth := 10) mixed tabS plsP trivial (fun kd d => r3e  kd d)
def r4P (l3 : G3) : (Int × List (Int) × Int) → (((List (Bool × Int × List (Int) × List (Int)))) × Int) → Option ((((List (Bool × Int × List (Int) × List (Int)))) × Int) ⊕ (Unit × (((List (Bool × Int × List (Int) × List (Int))))))) := fun (k, b, other) (n, i) => bif decide (i < (↑b.length : Int)) then
 bif decide ((0 : Nat) + b.length ≤ b.length) && true then
 (l3 (k, List.take b.length b, other, i) n).bind fun r0 => some (Sum.inl (r0.snd, IntKind.i64.wrap (i + (1 : Int)))) else none else some (Sum.inr (PUnit.unit, n))
theorem r4e (l3 : G3) (kd : Int × List (Int) × Int) (d : ((List (Bool × Int × List (Int) × List (Int)))) × Int) : roundF (tabC Try.prog (tab) (pls) 100 10) 100 (.node .none (.node (.node (.unit (u3 l3)) .none) .none)) (u4 fun _ _ => none) (codeAt [1, 1, 1, 1, 1, 1, 0, 1, 0, 0] (bodyOf Try.prog 34)) kd d = r4P l3 kd d := by kernel_rfl
noncomputable def r4 : (Int × List (Int) × Int) → (((List (Bool × Int × List (Int) × List (Int)))) × Int) → Option ((((List (Bool × Int × List (Int) × List (Int)))) × Int) ⊕ (Unit × (((List (Bool × Int × List (Int) × List (Int))))))) := r4P l3
noncomputable def l4 : G4 := fun kd d => iterO (r4 kd) d
theorem ok4 : UnOk Try.prog (u4 l4) (codeAt [1, 1, 1, 1, 1, 1, 0, 1, 0] (bodyOf Try.prog 34)) :=
  loopT (p := (.node .none (.node (.node (.unit (u3 l3)) .none) .none))) (c := codeAt [1, 1, 1, 1, 1, 1, 0, 1, 0, 0] (bodyOf Try.prog 34)) (fuel := 100) (depth := 10) mixed tabS plsP (by kernel_rfl) (planOk_of (.node .none (.node (.node (.unit (u3 l3)) .none) .none)) _ [([1, 0, 0], u3 l3)] rfl ⟨ok3, trivial⟩) (by kernel_rfl) (fun kd d => r4e l3 kd d) rfl
def fP (l1 : G1) (l2 : G2) (l4 : G4) : FT := fun (n, k, end0, b) => bif decide (k ≥ (0 : Int)) then
 bif !decide (k < (↑n.length : Int)) then
 bif decide ((0 : Nat) + n.length ≤ n.length) && true then
 some ((6 : Int), List.take n.length n) else none else bif end0 != (0 : Int) then
 bif end0 != (1 : Int) then
 bif decide ((0 : Nat) + n.length ≤ n.length) && true then
 some ((1 : Int), List.take n.length n) else none else bif decide ((0 : Nat) + n.length ≤ n.length) && true then
 (l1 (List.take n.length n, k) PUnit.unit).bind fun r0 => bif r0.fst then
 bif decide ((0 : Nat) + n.length ≤ n.length) && true then
 some ((10 : Int), List.take n.length n) else none else bif decide ((0 : Nat) + n.length ≤ n.length) && true then
 bif decide ((0 : Nat) + b.length ≤ b.length) && true then
 (l2 (List.take n.length n, k, List.take b.length b, IntKind.i64.wrap ((1 : Int) - end0)) PUnit.unit).bind fun r1 => bif r1.fst then
 bif decide ((0 : Nat) + n.length ≤ n.length) && true then
 some ((7 : Int), List.take n.length n) else none else bif decide ((0 : Nat) + b.length ≤ b.length) && true then
 bif decide ((0 : Nat) + n.length ≤ n.length) && true then
 (l4 (k, List.take b.length b, IntKind.i64.wrap ((1 : Int) - end0)) (List.take n.length n, (0 : Int))).bind fun r2 => some ((0 : Int), r2.snd) else none else none else none else none else none else bif decide ((0 : Nat) + n.length ≤ n.length) && true then
 (l1 (List.take n.length n, k) PUnit.unit).bind fun r0 => bif r0.fst then
 bif decide ((0 : Nat) + n.length ≤ n.length) && true then
 some ((10 : Int), List.take n.length n) else none else bif decide ((0 : Nat) + n.length ≤ n.length) && true then
 bif decide ((0 : Nat) + b.length ≤ b.length) && true then
 (l2 (List.take n.length n, k, List.take b.length b, IntKind.i64.wrap ((1 : Int) - end0)) PUnit.unit).bind fun r1 => bif r1.fst then
 bif decide ((0 : Nat) + n.length ≤ n.length) && true then
 some ((7 : Int), List.take n.length n) else none else bif decide ((0 : Nat) + b.length ≤ b.length) && true then
 bif decide ((0 : Nat) + n.length ≤ n.length) && true then
 (l4 (k, List.take b.length b, IntKind.i64.wrap ((1 : Int) - end0)) (List.take n.length n, (0 : Int))).bind fun r2 => some ((0 : Int), r2.snd) else none else none else none else none else none else some ((6 : Int), n)
theorem fe (l1 : G1) (l2 : G2) (l4 : G4) (d : ((List (Bool × Int × List (Int) × List (Int)))) × Int × Int × List (Int)) : bodyF (tabC Try.prog (tab) ((34, (.node .none (.node .none (.node .none (.node (.node (.unit (u1 l1)) .none) (.node .none (.node (.node (.unit (u2 l2)) .none) (.node (.node .none (.node (.unit (u4 l4)) .none)) .none)))))))) :: pls) 100 10) 100 34 i o d = fP l1 l2 l4 d := by kernel_rfl
noncomputable def f : FT := fP l1 l2 l4
def plan (l1 : G1) (l2 : G2) (l4 : G4) : Plan := (.node .none (.node .none (.node .none (.node (.node (.unit (u1 l1)) .none) (.node .none (.node (.node (.unit (u2 l2)) .none) (.node (.node .none (.node (.unit (u4 l4)) .none)) .none)))))))
theorem planOk : PlanOk Try.prog (plan l1 l2 l4) (bodyOf Try.prog 34) := (planOk_of (plan l1 l2 l4) _ [([1, 1, 1, 0, 0], u1 l1), ([1, 1, 1, 1, 1, 0, 0], u2 l2), ([1, 1, 1, 1, 1, 1, 0, 1, 0], u4 l4)] rfl ⟨ok1, ok2, ok4, trivial⟩)
theorem meets : MeetsF Try.prog 34 ⟨i, o, f⟩ :=
  funcT (fuel := 100) (depth := 10) (pl := (34, plan l1 l2 l4) :: pls) mixed tabS ⟨planOk, plsP⟩ (fun d => fe l1 l2 l4 d)
theorem spec : SpecOk Try.prog (fun _ => none) 34 (specF ⟨i, o, f⟩) := specF_ok (by kernel_rfl) meets
end Go.Proofs.Yteoiaihjapddoaa.F34

/- What comes of function 32 of this program, (*consulate.consulateref29.Net).Up, as the engine gives it. -/
namespace Go.Proofs.Yteoiaihjapddoaa.F32
open Go Go.Proofs Go.Proofs.Yteoiaihjapddoaa Go.RowKit Go.Proofs.Yteoiaihjapddoaa.Sx
set_option linter.unusedVariables false
set_option maxRecDepth 100000
def tab : List (FuncId × Sx.Spec) := []
def pls : List (FuncId × Plan) := []
@[reducible] def i : Sh := .pt true 51 (.sl true 56 (.sc .bool (.sc (.int .i64) (.sl true 5 (.sc (.int .u8) .nil) (.sl true 5 (.sc (.int .u8) .nil) .nil)))) .nil) (.sc (.int .i64) .nil)
@[reducible] def o : Sh := .sc (.int .i64) .nil
abbrev FT := (((List (Bool × Int × List (Int) × List (Int)))) × Int) → Option (Int × (((List (Bool × Int × List (Int) × List (Int))))))
theorem tabS : AllS Try.prog (tab) := trivial
theorem plsP : AllP Try.prog (pls) := trivial
theorem mixed : Try.prog.follows .mixedOrders = true := by kernel_rfl
def fP : FT := fun (n, k) =>
    bif decide (k ≥ 0) then
      bif !decide (k < (↑n.length : Int)) then
       bif decide (0 + n.length ≤ n.length) && true then some (6, List.take n.length n) else none
      else
       bif decide (0 ≤ k ∧ k < (↑n.length : Int) ∧ 0 < n.length) then
       bif decide (0 + k.toNat < n.length) then
       bif
       decide
       (0 + (n.getD (0 + k.toNat) (false, 0, [], [])).snd.snd.fst.length ≤
       (n.getD (0 + k.toNat) (false, 0, [], [])).snd.snd.fst.length) &&
       true then
       bif
       decide
       (0 + List.length (n.getD (0 + k.toNat) (false, 0, [], [])).snd.snd.snd ≤
       List.length (n.getD (0 + k.toNat) (false, 0, [], [])).snd.snd.snd) &&
       true then
       bif
       decide
       (0 + n.length ≤
       (n.set (0 + k.toNat)
       (true, (n.getD (0 + k.toNat) (false, 0, [], [])).snd.fst,
       List.take (n.getD (0 + k.toNat) (false, 0, [], [])).snd.snd.fst.length
       (List.drop 0 (n.getD (0 + k.toNat) (false, 0, [], [])).snd.snd.fst),
       List.take (List.length (n.getD (0 + k.toNat) (false, 0, [], [])).snd.snd.snd)
       (List.drop 0 (n.getD (0 + k.toNat) (false, 0, [], [])).snd.snd.snd))).length) &&
       true then
       some
       (0,
       List.take n.length
       (List.drop 0
       (n.set (0 + k.toNat)
       (true, (n.getD (0 + k.toNat) (false, 0, [], [])).snd.fst,
       List.take (n.getD (0 + k.toNat) (false, 0, [], [])).snd.snd.fst.length
       (List.drop 0 (n.getD (0 + k.toNat) (false, 0, [], [])).snd.snd.fst),
       List.take (List.length (n.getD (0 + k.toNat) (false, 0, [], [])).snd.snd.snd)
       (List.drop 0 (n.getD (0 + k.toNat) (false, 0, [], [])).snd.snd.snd)))))
       else none
       else none
       else none
       else none
       else none
    else some (6, n)
theorem fe (d : ((List (Bool × Int × List (Int) × List (Int)))) × Int) : bodyF (tabC Try.prog (tab) ((32, .none) :: pls) 100 10) 100 32 i o d = fP d := by kernel_rfl
noncomputable def f : FT := fP
def plan : Plan := .none
theorem planOk : PlanOk Try.prog (plan) (bodyOf Try.prog 32) := (planOk_of (plan) _ [] (by kernel_rfl) trivial)
theorem meets : MeetsF Try.prog 32 ⟨i, o, f⟩ :=
  funcT (fuel := 100) (depth := 10) (pl := (32, plan) :: pls) mixed tabS ⟨planOk, plsP⟩ (fun d => fe  d)
theorem spec : SpecOk Try.prog (fun _ => none) 32 (specF ⟨i, o, f⟩) := specF_ok (by kernel_rfl) meets
end Go.Proofs.Yteoiaihjapddoaa.F32

/- What comes of function 33 of this program, (*consulate.consulateref29.Net).Cut, as the engine gives it. -/
namespace Go.Proofs.Yteoiaihjapddoaa.F33
open Go Go.Proofs Go.Proofs.Yteoiaihjapddoaa Go.RowKit Go.Proofs.Yteoiaihjapddoaa.Sx
set_option linter.unusedVariables false
set_option maxRecDepth 100000
def tab : List (FuncId × Sx.Spec) := []
def pls : List (FuncId × Plan) := []
@[reducible] def i : Sh := .pt true 51 (.sl true 56 (.sc .bool (.sc (.int .i64) (.sl true 5 (.sc (.int .u8) .nil) (.sl true 5 (.sc (.int .u8) .nil) .nil)))) .nil) (.sc (.int .i64) .nil)
@[reducible] def o : Sh := .sc (.int .i64) .nil
abbrev FT := (((List (Bool × Int × List (Int) × List (Int)))) × Int) → Option (Int × (((List (Bool × Int × List (Int) × List (Int))))))
theorem tabS : AllS Try.prog (tab) := trivial
theorem plsP : AllP Try.prog (pls) := trivial
theorem mixed : Try.prog.follows .mixedOrders = true := by kernel_rfl
def fP : FT := fun (n, k) =>
    bif decide (k ≥ 0) then
      bif !decide (k < (↑n.length : Int)) then
       bif decide (0 + n.length ≤ n.length) && true then some (6, List.take n.length n) else none
      else
       bif decide (0 ≤ k ∧ k < (↑n.length : Int) ∧ 0 < n.length) then
       bif decide (0 + k.toNat < n.length) then
       bif !(n.getD (0 + k.toNat) (false, 0, [], [])).fst then
       bif
       decide
       (0 + (n.getD (0 + k.toNat) (false, 0, [], [])).snd.snd.fst.length ≤
       (n.getD (0 + k.toNat) (false, 0, [], [])).snd.snd.fst.length) &&
       true then
       bif
       decide
       (0 + List.length (n.getD (0 + k.toNat) (false, 0, [], [])).snd.snd.snd ≤
       List.length (n.getD (0 + k.toNat) (false, 0, [], [])).snd.snd.snd) &&
       true then
       bif
       decide
       (0 + n.length ≤
       (n.set (0 + k.toNat)
       ((n.getD (0 + k.toNat) (false, 0, [], [])).fst,
       (n.getD (0 + k.toNat) (false, 0, [], [])).snd.fst,
       List.take (n.getD (0 + k.toNat) (false, 0, [], [])).snd.snd.fst.length
       (List.drop 0 (n.getD (0 + k.toNat) (false, 0, [], [])).snd.snd.fst),
       List.take (List.length (n.getD (0 + k.toNat) (false, 0, [], [])).snd.snd.snd)
       (List.drop 0 (n.getD (0 + k.toNat) (false, 0, [], [])).snd.snd.snd))).length) &&
       true then
       some
       (10,
       List.take n.length
       (List.drop 0
       (n.set (0 + k.toNat)
       ((n.getD (0 + k.toNat) (false, 0, [], [])).fst,
       (n.getD (0 + k.toNat) (false, 0, [], [])).snd.fst,
       List.take (n.getD (0 + k.toNat) (false, 0, [], [])).snd.snd.fst.length
       (List.drop 0 (n.getD (0 + k.toNat) (false, 0, [], [])).snd.snd.fst),
       List.take (List.length (n.getD (0 + k.toNat) (false, 0, [], [])).snd.snd.snd)
       (List.drop 0 (n.getD (0 + k.toNat) (false, 0, [], [])).snd.snd.snd)))))
       else none
       else none
       else none
       else
       bif decide (0 ≤ k ∧ k < (↑n.length : Int) ∧ 0 < n.length) then
       bif decide (0 + k.toNat = 0 + k.toNat) then
       bif decide (0 ≤ k ∧ k < (↑n.length : Int) ∧ 0 < n.length) then
       bif decide (0 + k.toNat = 0 + k.toNat) then
       bif
       decide
       (0 + n.length ≤
       (n.set (0 + k.toNat)
       (false, IntKind.i64.wrap ((n.getD (0 + k.toNat) (false, 0, [], [])).snd.fst + 1), [],
       [])).length) &&
       true then
       some
       (0,
       List.take n.length
       (List.drop 0
       (n.set (0 + k.toNat)
       (false, IntKind.i64.wrap ((n.getD (0 + k.toNat) (false, 0, [], [])).snd.fst + 1), [],
       []))))
       else none
       else
       bif
       decide
       (0 + (n.getD (0 + k.toNat) (false, 0, [], [])).snd.snd.fst.length ≤
       (n.getD (0 + k.toNat) (false, 0, [], [])).snd.snd.fst.length) &&
       true then
       bif
       decide
       (0 + List.length (n.getD (0 + k.toNat) (false, 0, [], [])).snd.snd.snd ≤
       List.length (n.getD (0 + k.toNat) (false, 0, [], [])).snd.snd.snd) &&
       true then
       bif
       decide
       (0 + k.toNat <
       (n.set (0 + k.toNat)
       ((n.getD (0 + k.toNat) (false, 0, [], [])).fst,
       (n.getD (0 + k.toNat) (false, 0, [], [])).snd.fst,
       List.take (n.getD (0 + k.toNat) (false, 0, [], [])).snd.snd.fst.length
       (List.drop 0 (n.getD (0 + k.toNat) (false, 0, [], [])).snd.snd.fst),
       List.take (List.length (n.getD (0 + k.toNat) (false, 0, [], [])).snd.snd.snd)
       (List.drop 0
       (n.getD (0 + k.toNat) (false, 0, [], [])).snd.snd.snd))).length) then
       bif
       decide
       (0 + n.length ≤
       ((n.set (0 + k.toNat)
       ((n.getD (0 + k.toNat) (false, 0, [], [])).fst,
       (n.getD (0 + k.toNat) (false, 0, [], [])).snd.fst,
       List.take (n.getD (0 + k.toNat) (false, 0, [], [])).snd.snd.fst.length
       (List.drop 0 (n.getD (0 + k.toNat) (false, 0, [], [])).snd.snd.fst),
       List.take
       (List.length (n.getD (0 + k.toNat) (false, 0, [], [])).snd.snd.snd)
       (List.drop 0
       (n.getD (0 + k.toNat) (false, 0, [], [])).snd.snd.snd))).set
       (0 + k.toNat)
       (false,
       IntKind.i64.wrap ((n.getD (0 + k.toNat) (false, 0, [], [])).snd.fst + 1), [],
       [])).length) &&
       true then
       some
       (0,
       List.take n.length
       (List.drop 0
       ((n.set (0 + k.toNat)
       ((n.getD (0 + k.toNat) (false, 0, [], [])).fst,
       (n.getD (0 + k.toNat) (false, 0, [], [])).snd.fst,
       List.take (n.getD (0 + k.toNat) (false, 0, [], [])).snd.snd.fst.length
       (List.drop 0 (n.getD (0 + k.toNat) (false, 0, [], [])).snd.snd.fst),
       List.take
       (List.length (n.getD (0 + k.toNat) (false, 0, [], [])).snd.snd.snd)
       (List.drop 0 (n.getD (0 + k.toNat) (false, 0, [], [])).snd.snd.snd))).set
       (0 + k.toNat)
       (false, IntKind.i64.wrap ((n.getD (0 + k.toNat) (false, 0, [], [])).snd.fst + 1),
       [], []))))
       else none
       else none
       else none
       else none
       else none
       else
       bif
       decide
       (0 + (n.getD (0 + k.toNat) (false, 0, [], [])).snd.snd.fst.length ≤
       (n.getD (0 + k.toNat) (false, 0, [], [])).snd.snd.fst.length) &&
       true then
       bif
       decide
       (0 + List.length (n.getD (0 + k.toNat) (false, 0, [], [])).snd.snd.snd ≤
       List.length (n.getD (0 + k.toNat) (false, 0, [], [])).snd.snd.snd) &&
       true then
       bif
       decide
       (0 + k.toNat <
       (n.set (0 + k.toNat)
       ((n.getD (0 + k.toNat) (false, 0, [], [])).fst,
       (n.getD (0 + k.toNat) (false, 0, [], [])).snd.fst,
       List.take (n.getD (0 + k.toNat) (false, 0, [], [])).snd.snd.fst.length
       (List.drop 0 (n.getD (0 + k.toNat) (false, 0, [], [])).snd.snd.fst),
       List.take (List.length (n.getD (0 + k.toNat) (false, 0, [], [])).snd.snd.snd)
       (List.drop 0 (n.getD (0 + k.toNat) (false, 0, [], [])).snd.snd.snd))).length) then
       bif
       decide
       (0 ≤ k ∧
       k < (↑n.length : Int) ∧
       0 <
       (n.set (0 + k.toNat)
       ((n.getD (0 + k.toNat) (false, 0, [], [])).fst,
       (n.getD (0 + k.toNat) (false, 0, [], [])).snd.fst,
       List.take (n.getD (0 + k.toNat) (false, 0, [], [])).snd.snd.fst.length
       (List.drop 0 (n.getD (0 + k.toNat) (false, 0, [], [])).snd.snd.fst),
       List.take (List.length (n.getD (0 + k.toNat) (false, 0, [], [])).snd.snd.snd)
       (List.drop 0
       (n.getD (0 + k.toNat) (false, 0, [], [])).snd.snd.snd))).length) then
       bif decide (0 + k.toNat = 0 + k.toNat) then
       bif
       decide
       (0 + n.length ≤
       ((n.set (0 + k.toNat)
       ((n.getD (0 + k.toNat) (false, 0, [], [])).fst,
       (n.getD (0 + k.toNat) (false, 0, [], [])).snd.fst,
       List.take (n.getD (0 + k.toNat) (false, 0, [], [])).snd.snd.fst.length
       (List.drop 0 (n.getD (0 + k.toNat) (false, 0, [], [])).snd.snd.fst),
       List.take
       (List.length (n.getD (0 + k.toNat) (false, 0, [], [])).snd.snd.snd)
       (List.drop 0
       (n.getD (0 + k.toNat) (false, 0, [], [])).snd.snd.snd))).set
       (0 + k.toNat)
       (false,
       IntKind.i64.wrap
       (((n.set (0 + k.toNat)
       ((n.getD (0 + k.toNat) (false, 0, [], [])).fst,
       (n.getD (0 + k.toNat) (false, 0, [], [])).snd.fst,
       List.take
       (n.getD (0 + k.toNat) (false, 0, [], [])).snd.snd.fst.length
       (List.drop 0
       (n.getD (0 + k.toNat) (false, 0, [], [])).snd.snd.fst),
       List.take
       (List.length
       (n.getD (0 + k.toNat) (false, 0, [], [])).snd.snd.snd)
       (List.drop 0
       (n.getD (0 + k.toNat)
       (false, 0, [], [])).snd.snd.snd))).getD
       (0 + k.toNat) (false, 0, [], [])).snd.fst +
       1),
       [], [])).length) &&
       true then
       some
       (0,
       List.take n.length
       (List.drop 0
       ((n.set (0 + k.toNat)
       ((n.getD (0 + k.toNat) (false, 0, [], [])).fst,
       (n.getD (0 + k.toNat) (false, 0, [], [])).snd.fst,
       List.take (n.getD (0 + k.toNat) (false, 0, [], [])).snd.snd.fst.length
       (List.drop 0 (n.getD (0 + k.toNat) (false, 0, [], [])).snd.snd.fst),
       List.take
       (List.length (n.getD (0 + k.toNat) (false, 0, [], [])).snd.snd.snd)
       (List.drop 0 (n.getD (0 + k.toNat) (false, 0, [], [])).snd.snd.snd))).set
       (0 + k.toNat)
       (false,
       IntKind.i64.wrap
       (((n.set (0 + k.toNat)
       ((n.getD (0 + k.toNat) (false, 0, [], [])).fst,
       (n.getD (0 + k.toNat) (false, 0, [], [])).snd.fst,
       List.take
       (n.getD (0 + k.toNat) (false, 0, [], [])).snd.snd.fst.length
       (List.drop 0
       (n.getD (0 + k.toNat) (false, 0, [], [])).snd.snd.fst),
       List.take
       (List.length
       (n.getD (0 + k.toNat) (false, 0, [], [])).snd.snd.snd)
       (List.drop 0
       (n.getD (0 + k.toNat)
       (false, 0, [], [])).snd.snd.snd))).getD
       (0 + k.toNat) (false, 0, [], [])).snd.fst +
       1),
       [], []))))
       else none
       else
       bif
       decide
       (0 +
       ((n.set (0 + k.toNat)
       ((n.getD (0 + k.toNat) (false, 0, [], [])).fst,
       (n.getD (0 + k.toNat) (false, 0, [], [])).snd.fst,
       List.take
       (n.getD (0 + k.toNat) (false, 0, [], [])).snd.snd.fst.length
       (List.drop 0
       (n.getD (0 + k.toNat) (false, 0, [], [])).snd.snd.fst),
       List.take
       (List.length
       (n.getD (0 + k.toNat) (false, 0, [], [])).snd.snd.snd)
       (List.drop 0
       (n.getD (0 + k.toNat) (false, 0, [], [])).snd.snd.snd))).getD
       (0 + k.toNat) (false, 0, [], [])).snd.snd.fst.length ≤
       ((n.set (0 + k.toNat)
       ((n.getD (0 + k.toNat) (false, 0, [], [])).fst,
       (n.getD (0 + k.toNat) (false, 0, [], [])).snd.fst,
       List.take
       (n.getD (0 + k.toNat) (false, 0, [], [])).snd.snd.fst.length
       (List.drop 0
       (n.getD (0 + k.toNat) (false, 0, [], [])).snd.snd.fst),
       List.take
       (List.length
       (n.getD (0 + k.toNat) (false, 0, [], [])).snd.snd.snd)
       (List.drop 0
       (n.getD (0 + k.toNat) (false, 0, [], [])).snd.snd.snd))).getD
       (0 + k.toNat) (false, 0, [], [])).snd.snd.fst.length) &&
       true then
       bif
       decide
       (0 +
       List.length
       ((n.set (0 + k.toNat)
       ((n.getD (0 + k.toNat) (false, 0, [], [])).fst,
       (n.getD (0 + k.toNat) (false, 0, [], [])).snd.fst,
       List.take
       (n.getD (0 + k.toNat) (false, 0, [], [])).snd.snd.fst.length
       (List.drop 0
       (n.getD (0 + k.toNat) (false, 0, [], [])).snd.snd.fst),
       List.take
       (List.length
       (n.getD (0 + k.toNat) (false, 0, [], [])).snd.snd.snd)
       (List.drop 0
       (n.getD (0 + k.toNat)
       (false, 0, [], [])).snd.snd.snd))).getD
       (0 + k.toNat) (false, 0, [], [])).snd.snd.snd ≤
       List.length
       ((n.set (0 + k.toNat)
       ((n.getD (0 + k.toNat) (false, 0, [], [])).fst,
       (n.getD (0 + k.toNat) (false, 0, [], [])).snd.fst,
       List.take
       (n.getD (0 + k.toNat) (false, 0, [], [])).snd.snd.fst.length
       (List.drop 0
       (n.getD (0 + k.toNat) (false, 0, [], [])).snd.snd.fst),
       List.take
       (List.length
       (n.getD (0 + k.toNat) (false, 0, [], [])).snd.snd.snd)
       (List.drop 0
       (n.getD (0 + k.toNat) (false, 0, [], [])).snd.snd.snd))).getD
       (0 + k.toNat) (false, 0, [], [])).snd.snd.snd) &&
       true then
       bif
       decide
       (0 + k.toNat <
       ((n.set (0 + k.toNat)
       ((n.getD (0 + k.toNat) (false, 0, [], [])).fst,
       (n.getD (0 + k.toNat) (false, 0, [], [])).snd.fst,
       List.take (n.getD (0 + k.toNat) (false, 0, [], [])).snd.snd.fst.length
       (List.drop 0 (n.getD (0 + k.toNat) (false, 0, [], [])).snd.snd.fst),
       List.take
       (List.length (n.getD (0 + k.toNat) (false, 0, [], [])).snd.snd.snd)
       (List.drop 0
       (n.getD (0 + k.toNat) (false, 0, [], [])).snd.snd.snd))).set
       (0 + k.toNat)
       (((n.set (0 + k.toNat)
       ((n.getD (0 + k.toNat) (false, 0, [], [])).fst,
       (n.getD (0 + k.toNat) (false, 0, [], [])).snd.fst,
       List.take
       (n.getD (0 + k.toNat) (false, 0, [], [])).snd.snd.fst.length
       (List.drop 0
       (n.getD (0 + k.toNat) (false, 0, [], [])).snd.snd.fst),
       List.take
       (List.length
       (n.getD (0 + k.toNat) (false, 0, [], [])).snd.snd.snd)
       (List.drop 0
       (n.getD (0 + k.toNat) (false, 0, [], [])).snd.snd.snd))).getD
       (0 + k.toNat) (false, 0, [], [])).fst,
       ((n.set (0 + k.toNat)
       ((n.getD (0 + k.toNat) (false, 0, [], [])).fst,
       (n.getD (0 + k.toNat) (false, 0, [], [])).snd.fst,
       List.take
       (n.getD (0 + k.toNat) (false, 0, [], [])).snd.snd.fst.length
       (List.drop 0
       (n.getD (0 + k.toNat) (false, 0, [], [])).snd.snd.fst),
       List.take
       (List.length
       (n.getD (0 + k.toNat) (false, 0, [], [])).snd.snd.snd)
       (List.drop 0
       (n.getD (0 + k.toNat)
       (false, 0, [], [])).snd.snd.snd))).getD
       (0 + k.toNat) (false, 0, [], [])).snd.fst,
       List.take
       ((n.set (0 + k.toNat)
       ((n.getD (0 + k.toNat) (false, 0, [], [])).fst,
       (n.getD (0 + k.toNat) (false, 0, [], [])).snd.fst,
       List.take
       (n.getD (0 + k.toNat)
       (false, 0, [], [])).snd.snd.fst.length
       (List.drop 0
       (n.getD (0 + k.toNat)
       (false, 0, [], [])).snd.snd.fst),
       List.take
       (List.length
       (n.getD (0 + k.toNat) (false, 0, [], [])).snd.snd.snd)
       (List.drop 0
       (n.getD (0 + k.toNat)
       (false, 0, [], [])).snd.snd.snd))).getD
       (0 + k.toNat) (false, 0, [], [])).snd.snd.fst.length
       (List.drop 0
       ((n.set (0 + k.toNat)
       ((n.getD (0 + k.toNat) (false, 0, [], [])).fst,
       (n.getD (0 + k.toNat) (false, 0, [], [])).snd.fst,
       List.take
       (n.getD (0 + k.toNat)
       (false, 0, [], [])).snd.snd.fst.length
       (List.drop 0
       (n.getD (0 + k.toNat)
       (false, 0, [], [])).snd.snd.fst),
       List.take
       (List.length
       (n.getD (0 + k.toNat) (false, 0, [], [])).snd.snd.snd)
       (List.drop 0
       (n.getD (0 + k.toNat)
       (false, 0, [], [])).snd.snd.snd))).getD
       (0 + k.toNat) (false, 0, [], [])).snd.snd.fst),
       List.take
       (List.length
       ((n.set (0 + k.toNat)
       ((n.getD (0 + k.toNat) (false, 0, [], [])).fst,
       (n.getD (0 + k.toNat) (false, 0, [], [])).snd.fst,
       List.take
       (n.getD (0 + k.toNat)
       (false, 0, [], [])).snd.snd.fst.length
       (List.drop 0
       (n.getD (0 + k.toNat)
       (false, 0, [], [])).snd.snd.fst),
       List.take
       (List.length
       (n.getD (0 + k.toNat) (false, 0, [], [])).snd.snd.snd)
       (List.drop 0
       (n.getD (0 + k.toNat)
       (false, 0, [], [])).snd.snd.snd))).getD
       (0 + k.toNat) (false, 0, [], [])).snd.snd.snd)
       (List.drop 0
       ((n.set (0 + k.toNat)
       ((n.getD (0 + k.toNat) (false, 0, [], [])).fst,
       (n.getD (0 + k.toNat) (false, 0, [], [])).snd.fst,
       List.take
       (n.getD (0 + k.toNat)
       (false, 0, [], [])).snd.snd.fst.length
       (List.drop 0
       (n.getD (0 + k.toNat)
       (false, 0, [], [])).snd.snd.fst),
       List.take
       (List.length
       (n.getD (0 + k.toNat) (false, 0, [], [])).snd.snd.snd)
       (List.drop 0
       (n.getD (0 + k.toNat)
       (false, 0, [], [])).snd.snd.snd))).getD
       (0 + k.toNat) (false, 0, [], [])).snd.snd.snd))).length) then
       bif
       decide
       (0 + n.length ≤
       (((n.set (0 + k.toNat)
       ((n.getD (0 + k.toNat) (false, 0, [], [])).fst,
       (n.getD (0 + k.toNat) (false, 0, [], [])).snd.fst,
       List.take
       (n.getD (0 + k.toNat) (false, 0, [], [])).snd.snd.fst.length
       (List.drop 0
       (n.getD (0 + k.toNat) (false, 0, [], [])).snd.snd.fst),
       List.take
       (List.length
       (n.getD (0 + k.toNat) (false, 0, [], [])).snd.snd.snd)
       (List.drop 0
       (n.getD (0 + k.toNat) (false, 0, [], [])).snd.snd.snd))).set
       (0 + k.toNat)
       (((n.set (0 + k.toNat)
       ((n.getD (0 + k.toNat) (false, 0, [], [])).fst,
       (n.getD (0 + k.toNat) (false, 0, [], [])).snd.fst,
       List.take
       (n.getD (0 + k.toNat)
       (false, 0, [], [])).snd.snd.fst.length
       (List.drop 0
       (n.getD (0 + k.toNat)
       (false, 0, [], [])).snd.snd.fst),
       List.take
       (List.length
       (n.getD (0 + k.toNat) (false, 0, [], [])).snd.snd.snd)
       (List.drop 0
       (n.getD (0 + k.toNat)
       (false, 0, [], [])).snd.snd.snd))).getD
       (0 + k.toNat) (false, 0, [], [])).fst,
       ((n.set (0 + k.toNat)
       ((n.getD (0 + k.toNat) (false, 0, [], [])).fst,
       (n.getD (0 + k.toNat) (false, 0, [], [])).snd.fst,
       List.take
       (n.getD (0 + k.toNat)
       (false, 0, [], [])).snd.snd.fst.length
       (List.drop 0
       (n.getD (0 + k.toNat)
       (false, 0, [], [])).snd.snd.fst),
       List.take
       (List.length
       (n.getD (0 + k.toNat)
       (false, 0, [], [])).snd.snd.snd)
       (List.drop 0
       (n.getD (0 + k.toNat)
       (false, 0, [], [])).snd.snd.snd))).getD
       (0 + k.toNat) (false, 0, [], [])).snd.fst,
       List.take
       ((n.set (0 + k.toNat)
       ((n.getD (0 + k.toNat) (false, 0, [], [])).fst,
       (n.getD (0 + k.toNat) (false, 0, [], [])).snd.fst,
       List.take
       (n.getD (0 + k.toNat)
       (false, 0, [], [])).snd.snd.fst.length
       (List.drop 0
       (n.getD (0 + k.toNat)
       (false, 0, [], [])).snd.snd.fst),
       List.take
       (List.length
       (n.getD (0 + k.toNat)
       (false, 0, [], [])).snd.snd.snd)
       (List.drop 0
       (n.getD (0 + k.toNat)
       (false, 0, [],
       [])).snd.snd.snd))).getD
       (0 + k.toNat) (false, 0, [], [])).snd.snd.fst.length
       (List.drop 0
       ((n.set (0 + k.toNat)
       ((n.getD (0 + k.toNat) (false, 0, [], [])).fst,
       (n.getD (0 + k.toNat) (false, 0, [], [])).snd.fst,
       List.take
       (n.getD (0 + k.toNat)
       (false, 0, [], [])).snd.snd.fst.length
       (List.drop 0
       (n.getD (0 + k.toNat)
       (false, 0, [], [])).snd.snd.fst),
       List.take
       (List.length
       (n.getD (0 + k.toNat)
       (false, 0, [], [])).snd.snd.snd)
       (List.drop 0
       (n.getD (0 + k.toNat)
       (false, 0, [],
       [])).snd.snd.snd))).getD
       (0 + k.toNat) (false, 0, [], [])).snd.snd.fst),
       List.take
       (List.length
       ((n.set (0 + k.toNat)
       ((n.getD (0 + k.toNat) (false, 0, [], [])).fst,
       (n.getD (0 + k.toNat) (false, 0, [], [])).snd.fst,
       List.take
       (n.getD (0 + k.toNat)
       (false, 0, [], [])).snd.snd.fst.length
       (List.drop 0
       (n.getD (0 + k.toNat)
       (false, 0, [], [])).snd.snd.fst),
       List.take
       (List.length
       (n.getD (0 + k.toNat)
       (false, 0, [], [])).snd.snd.snd)
       (List.drop 0
       (n.getD (0 + k.toNat)
       (false, 0, [],
       [])).snd.snd.snd))).getD
       (0 + k.toNat) (false, 0, [], [])).snd.snd.snd)
       (List.drop 0
       ((n.set (0 + k.toNat)
       ((n.getD (0 + k.toNat) (false, 0, [], [])).fst,
       (n.getD (0 + k.toNat) (false, 0, [], [])).snd.fst,
       List.take
       (n.getD (0 + k.toNat)
       (false, 0, [], [])).snd.snd.fst.length
       (List.drop 0
       (n.getD (0 + k.toNat)
       (false, 0, [], [])).snd.snd.fst),
       List.take
       (List.length
       (n.getD (0 + k.toNat)
       (false, 0, [], [])).snd.snd.snd)
       (List.drop 0
       (n.getD (0 + k.toNat)
       (false, 0, [],
       [])).snd.snd.snd))).getD
       (0 + k.toNat) (false, 0, [], [])).snd.snd.snd))).set
       (0 + k.toNat)
       (false,
       IntKind.i64.wrap
       (((n.set (0 + k.toNat)
       ((n.getD (0 + k.toNat) (false, 0, [], [])).fst,
       (n.getD (0 + k.toNat) (false, 0, [], [])).snd.fst,
       List.take
       (n.getD (0 + k.toNat)
       (false, 0, [], [])).snd.snd.fst.length
       (List.drop 0
       (n.getD (0 + k.toNat)
       (false, 0, [], [])).snd.snd.fst),
       List.take
       (List.length
       (n.getD (0 + k.toNat)
       (false, 0, [], [])).snd.snd.snd)
       (List.drop 0
       (n.getD (0 + k.toNat)
       (false, 0, [], [])).snd.snd.snd))).getD
       (0 + k.toNat) (false, 0, [], [])).snd.fst +
       1),
       [], [])).length) &&
       true then
       some
       (0,
       List.take n.length
       (List.drop 0
       (((n.set (0 + k.toNat)
       ((n.getD (0 + k.toNat) (false, 0, [], [])).fst,
       (n.getD (0 + k.toNat) (false, 0, [], [])).snd.fst,
       List.take
       (n.getD (0 + k.toNat) (false, 0, [], [])).snd.snd.fst.length
       (List.drop 0
       (n.getD (0 + k.toNat) (false, 0, [], [])).snd.snd.fst),
       List.take
       (List.length
       (n.getD (0 + k.toNat) (false, 0, [], [])).snd.snd.snd)
       (List.drop 0
       (n.getD (0 + k.toNat) (false, 0, [], [])).snd.snd.snd))).set
       (0 + k.toNat)
       (((n.set (0 + k.toNat)
       ((n.getD (0 + k.toNat) (false, 0, [], [])).fst,
       (n.getD (0 + k.toNat) (false, 0, [], [])).snd.fst,
       List.take
       (n.getD (0 + k.toNat)
       (false, 0, [], [])).snd.snd.fst.length
       (List.drop 0
       (n.getD (0 + k.toNat) (false, 0, [], [])).snd.snd.fst),
       List.take
       (List.length
       (n.getD (0 + k.toNat) (false, 0, [], [])).snd.snd.snd)
       (List.drop 0
       (n.getD (0 + k.toNat)
       (false, 0, [], [])).snd.snd.snd))).getD
       (0 + k.toNat) (false, 0, [], [])).fst,
       ((n.set (0 + k.toNat)
       ((n.getD (0 + k.toNat) (false, 0, [], [])).fst,
       (n.getD (0 + k.toNat) (false, 0, [], [])).snd.fst,
       List.take
       (n.getD (0 + k.toNat)
       (false, 0, [], [])).snd.snd.fst.length
       (List.drop 0
       (n.getD (0 + k.toNat)
       (false, 0, [], [])).snd.snd.fst),
       List.take
       (List.length
       (n.getD (0 + k.toNat) (false, 0, [], [])).snd.snd.snd)
       (List.drop 0
       (n.getD (0 + k.toNat)
       (false, 0, [], [])).snd.snd.snd))).getD
       (0 + k.toNat) (false, 0, [], [])).snd.fst,
       List.take
       ((n.set (0 + k.toNat)
       ((n.getD (0 + k.toNat) (false, 0, [], [])).fst,
       (n.getD (0 + k.toNat) (false, 0, [], [])).snd.fst,
       List.take
       (n.getD (0 + k.toNat)
       (false, 0, [], [])).snd.snd.fst.length
       (List.drop 0
       (n.getD (0 + k.toNat)
       (false, 0, [], [])).snd.snd.fst),
       List.take
       (List.length
       (n.getD (0 + k.toNat)
       (false, 0, [], [])).snd.snd.snd)
       (List.drop 0
       (n.getD (0 + k.toNat)
       (false, 0, [], [])).snd.snd.snd))).getD
       (0 + k.toNat) (false, 0, [], [])).snd.snd.fst.length
       (List.drop 0
       ((n.set (0 + k.toNat)
       ((n.getD (0 + k.toNat) (false, 0, [], [])).fst,
       (n.getD (0 + k.toNat) (false, 0, [], [])).snd.fst,
       List.take
       (n.getD (0 + k.toNat)
       (false, 0, [], [])).snd.snd.fst.length
       (List.drop 0
       (n.getD (0 + k.toNat)
       (false, 0, [], [])).snd.snd.fst),
       List.take
       (List.length
       (n.getD (0 + k.toNat)
       (false, 0, [], [])).snd.snd.snd)
       (List.drop 0
       (n.getD (0 + k.toNat)
       (false, 0, [], [])).snd.snd.snd))).getD
       (0 + k.toNat) (false, 0, [], [])).snd.snd.fst),
       List.take
       (List.length
       ((n.set (0 + k.toNat)
       ((n.getD (0 + k.toNat) (false, 0, [], [])).fst,
       (n.getD (0 + k.toNat) (false, 0, [], [])).snd.fst,
       List.take
       (n.getD (0 + k.toNat)
       (false, 0, [], [])).snd.snd.fst.length
       (List.drop 0
       (n.getD (0 + k.toNat)
       (false, 0, [], [])).snd.snd.fst),
       List.take
       (List.length
       (n.getD (0 + k.toNat)
       (false, 0, [], [])).snd.snd.snd)
       (List.drop 0
       (n.getD (0 + k.toNat)
       (false, 0, [], [])).snd.snd.snd))).getD
       (0 + k.toNat) (false, 0, [], [])).snd.snd.snd)
       (List.drop 0
       ((n.set (0 + k.toNat)
       ((n.getD (0 + k.toNat) (false, 0, [], [])).fst,
       (n.getD (0 + k.toNat) (false, 0, [], [])).snd.fst,
       List.take
       (n.getD (0 + k.toNat)
       (false, 0, [], [])).snd.snd.fst.length
       (List.drop 0
       (n.getD (0 + k.toNat)
       (false, 0, [], [])).snd.snd.fst),
       List.take
       (List.length
       (n.getD (0 + k.toNat)
       (false, 0, [], [])).snd.snd.snd)
       (List.drop 0
       (n.getD (0 + k.toNat)
       (false, 0, [], [])).snd.snd.snd))).getD
       (0 + k.toNat) (false, 0, [], [])).snd.snd.snd))).set
       (0 + k.toNat)
       (false,
       IntKind.i64.wrap
       (((n.set (0 + k.toNat)
       ((n.getD (0 + k.toNat) (false, 0, [], [])).fst,
       (n.getD (0 + k.toNat) (false, 0, [], [])).snd.fst,
       List.take
       (n.getD (0 + k.toNat)
       (false, 0, [], [])).snd.snd.fst.length
       (List.drop 0
       (n.getD (0 + k.toNat)
       (false, 0, [], [])).snd.snd.fst),
       List.take
       (List.length
       (n.getD (0 + k.toNat) (false, 0, [], [])).snd.snd.snd)
       (List.drop 0
       (n.getD (0 + k.toNat)
       (false, 0, [], [])).snd.snd.snd))).getD
       (0 + k.toNat) (false, 0, [], [])).snd.fst +
       1),
       [], []))))
       else none
       else none
       else none
       else none
       else none
       else none
       else none
       else none
       else none
       else none
       else none
    else some (6, n)
theorem fe (d : ((List (Bool × Int × List (Int) × List (Int)))) × Int) : bodyF (tabC Try.prog (tab) ((33, .none) :: pls) 100 10) 100 33 i o d = fP d := by kernel_rfl
noncomputable def f : FT := fP
def plan : Plan := .none
theorem planOk : PlanOk Try.prog (plan) (bodyOf Try.prog 33) := (planOk_of (plan) _ [] (by kernel_rfl) trivial)
theorem meets : MeetsF Try.prog 33 ⟨i, o, f⟩ :=
  funcT (fuel := 100) (depth := 10) (pl := (33, plan) :: pls) mixed tabS ⟨planOk, plsP⟩ (fun d => fe  d)
theorem spec : SpecOk Try.prog (fun _ => none) 33 (specF ⟨i, o, f⟩) := specF_ok (by kernel_rfl) meets
end Go.Proofs.Yteoiaihjapddoaa.F33
