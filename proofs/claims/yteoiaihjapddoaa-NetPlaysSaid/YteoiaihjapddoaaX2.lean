/- What comes of function 13 of this program, (*consulate.net.Net).Deliver, as the engine gives it. -/
import Derived.Test.YteoiaihjapddoaaChecked
import Derived.Test.YteoiaihjapddoaaZO
import Derived.Test.YteoiaihjapddoaaX1
namespace Go.Proofs.Yteoiaihjapddoaa.F13
open Go Go.Proofs Go.Proofs.Yteoiaihjapddoaa Go.RowKit Go.Proofs.Yteoiaihjapddoaa.Sx
set_option linter.unusedVariables false
set_option maxRecDepth 100000
def tab (x28 : F28.FT) : List (FuncId × Sx.Spec) := [(28, specF ⟨F28.i, F28.o, x28⟩)]
def pls (x28 : F28.FT) : List (FuncId × Plan) := []
@[reducible] def i : Sh := .pt true 59 (.sl true 61 (.sc .bool (.sc (.int .i64) (.sl true 5 (.sc (.int .u8) .nil) (.sl true 5 (.sc (.int .u8) .nil) .nil)))) (.sc .bool .nil)) (.sc (.int .i64) (.sc (.int .i64) (.sc (.int .i64) .nil)))
@[reducible] def o : Sh := .sl true 5 (.sc (.int .u8) .nil) (.sc (.int .i64) .nil)
abbrev FT := (((List (Bool × Int × List (Int) × List (Int))) × Bool) × Int × Int × Int) → Option ((List (Int) × Int) × (((List (Bool × Int × List (Int) × List (Int))) × Bool)))
theorem tabS : AllS Try.prog (tab F28.f) := ⟨F28.spec, trivial⟩
theorem plsP : AllP Try.prog (pls F28.f) := trivial
theorem mixed : Try.prog.follows .mixedOrders = true := by kernel_rfl
def fP (x28 : F28.FT) : FT := fun ((n0, n1), k, end0, many) => bif !n1 then
 some (([], (2 : Int)), n0, n1) else bif decide (k < (0 : Int)) then
 some (([], (6 : Int)), n0, n1) else bif decide (k ≥ (↑n0.length : Int)) then
 bif decide ((0 : Nat) + n0.length ≤ n0.length) && true then
 some (([], (6 : Int)), List.take n0.length n0, n1) else none else bif decide ((0 : Int) ≤ k ∧ k < (↑n0.length : Int) ∧ (0 : Nat) < n0.length) then
 bif decide ((0 : Nat) + k.toNat < n0.length) then
 bif end0 != (0 : Int) then
 bif end0 != (1 : Int) then
 bif decide ((0 : Nat) + (n0.getD ((0 : Nat) + k.toNat) (false, (0 : Int), [], [])).snd.snd.fst.length ≤ (n0.getD ((0 : Nat) + k.toNat) (false, (0 : Int), [], [])).snd.snd.fst.length) && true then
 bif decide ((0 : Nat) + List.length (n0.getD ((0 : Nat) + k.toNat) (false, (0 : Int), [], [])).snd.snd.snd ≤ List.length (n0.getD ((0 : Nat) + k.toNat) (false, (0 : Int), [], [])).snd.snd.snd) && true then
 bif decide ((0 : Nat) + n0.length ≤ (n0.set ((0 : Nat) + k.toNat) ((n0.getD ((0 : Nat) + k.toNat) (false, (0 : Int), [], [])).fst, (n0.getD ((0 : Nat) + k.toNat) (false, (0 : Int), [], [])).snd.fst, List.take (n0.getD ((0 : Nat) + k.toNat) (false, (0 : Int), [], [])).snd.snd.fst.length (List.drop (0 : Nat) (n0.getD ((0 : Nat) + k.toNat) (false, (0 : Int), [], [])).snd.snd.fst), List.take (List.length (n0.getD ((0 : Nat) + k.toNat) (false, (0 : Int), [], [])).snd.snd.snd) (List.drop (0 : Nat) (n0.getD ((0 : Nat) + k.toNat) (false, (0 : Int), [], [])).snd.snd.snd))).length) && true then
 some (([], (1 : Int)), List.take n0.length (List.drop (0 : Nat) (n0.set ((0 : Nat) + k.toNat) ((n0.getD ((0 : Nat) + k.toNat) (false, (0 : Int), [], [])).fst, (n0.getD ((0 : Nat) + k.toNat) (false, (0 : Int), [], [])).snd.fst, List.take (n0.getD ((0 : Nat) + k.toNat) (false, (0 : Int), [], [])).snd.snd.fst.length (List.drop (0 : Nat) (n0.getD ((0 : Nat) + k.toNat) (false, (0 : Int), [], [])).snd.snd.fst), List.take (List.length (n0.getD ((0 : Nat) + k.toNat) (false, (0 : Int), [], [])).snd.snd.snd) (List.drop (0 : Nat) (n0.getD ((0 : Nat) + k.toNat) (false, (0 : Int), [], [])).snd.snd.snd)))), n1) else none else none else none else bif !decide (many ≥ (0 : Int)) then
 bif decide ((0 : Nat) + (n0.getD ((0 : Nat) + k.toNat) (false, (0 : Int), [], [])).snd.snd.fst.length ≤ (n0.getD ((0 : Nat) + k.toNat) (false, (0 : Int), [], [])).snd.snd.fst.length) && true then
 bif decide ((0 : Nat) + List.length (n0.getD ((0 : Nat) + k.toNat) (false, (0 : Int), [], [])).snd.snd.snd ≤ List.length (n0.getD ((0 : Nat) + k.toNat) (false, (0 : Int), [], [])).snd.snd.snd) && true then
 bif decide ((0 : Nat) + n0.length ≤ (n0.set ((0 : Nat) + k.toNat) ((n0.getD ((0 : Nat) + k.toNat) (false, (0 : Int), [], [])).fst, (n0.getD ((0 : Nat) + k.toNat) (false, (0 : Int), [], [])).snd.fst, List.take (n0.getD ((0 : Nat) + k.toNat) (false, (0 : Int), [], [])).snd.snd.fst.length (List.drop (0 : Nat) (n0.getD ((0 : Nat) + k.toNat) (false, (0 : Int), [], [])).snd.snd.fst), List.take (List.length (n0.getD ((0 : Nat) + k.toNat) (false, (0 : Int), [], [])).snd.snd.snd) (List.drop (0 : Nat) (n0.getD ((0 : Nat) + k.toNat) (false, (0 : Int), [], [])).snd.snd.snd))).length) && true then
 some (([], (1 : Int)), List.take n0.length (List.drop (0 : Nat) (n0.set ((0 : Nat) + k.toNat) ((n0.getD ((0 : Nat) + k.toNat) (false, (0 : Int), [], [])).fst, (n0.getD ((0 : Nat) + k.toNat) (false, (0 : Int), [], [])).snd.fst, List.take (n0.getD ((0 : Nat) + k.toNat) (false, (0 : Int), [], [])).snd.snd.fst.length (List.drop (0 : Nat) (n0.getD ((0 : Nat) + k.toNat) (false, (0 : Int), [], [])).snd.snd.fst), List.take (List.length (n0.getD ((0 : Nat) + k.toNat) (false, (0 : Int), [], [])).snd.snd.snd) (List.drop (0 : Nat) (n0.getD ((0 : Nat) + k.toNat) (false, (0 : Int), [], [])).snd.snd.snd)))), n1) else none else none else none else bif !(n0.getD ((0 : Nat) + k.toNat) (false, (0 : Int), [], [])).fst then
 bif decide ((0 : Nat) + (n0.getD ((0 : Nat) + k.toNat) (false, (0 : Int), [], [])).snd.snd.fst.length ≤ (n0.getD ((0 : Nat) + k.toNat) (false, (0 : Int), [], [])).snd.snd.fst.length) && true then
 bif decide ((0 : Nat) + List.length (n0.getD ((0 : Nat) + k.toNat) (false, (0 : Int), [], [])).snd.snd.snd ≤ List.length (n0.getD ((0 : Nat) + k.toNat) (false, (0 : Int), [], [])).snd.snd.snd) && true then
 bif decide ((0 : Nat) + n0.length ≤ (n0.set ((0 : Nat) + k.toNat) ((n0.getD ((0 : Nat) + k.toNat) (false, (0 : Int), [], [])).fst, (n0.getD ((0 : Nat) + k.toNat) (false, (0 : Int), [], [])).snd.fst, List.take (n0.getD ((0 : Nat) + k.toNat) (false, (0 : Int), [], [])).snd.snd.fst.length (List.drop (0 : Nat) (n0.getD ((0 : Nat) + k.toNat) (false, (0 : Int), [], [])).snd.snd.fst), List.take (List.length (n0.getD ((0 : Nat) + k.toNat) (false, (0 : Int), [], [])).snd.snd.snd) (List.drop (0 : Nat) (n0.getD ((0 : Nat) + k.toNat) (false, (0 : Int), [], [])).snd.snd.snd))).length) && true then
 some (([], (10 : Int)), List.take n0.length (List.drop (0 : Nat) (n0.set ((0 : Nat) + k.toNat) ((n0.getD ((0 : Nat) + k.toNat) (false, (0 : Int), [], [])).fst, (n0.getD ((0 : Nat) + k.toNat) (false, (0 : Int), [], [])).snd.fst, List.take (n0.getD ((0 : Nat) + k.toNat) (false, (0 : Int), [], [])).snd.snd.fst.length (List.drop (0 : Nat) (n0.getD ((0 : Nat) + k.toNat) (false, (0 : Int), [], [])).snd.snd.fst), List.take (List.length (n0.getD ((0 : Nat) + k.toNat) (false, (0 : Int), [], [])).snd.snd.snd) (List.drop (0 : Nat) (n0.getD ((0 : Nat) + k.toNat) (false, (0 : Int), [], [])).snd.snd.snd)))), n1) else none else none else none else bif decide ((0 : Int) ≤ end0 ∧ end0 < (2 : Int)) then
 bif end0.toNat.beq (0 : Nat) then
 bif decide (((0 : Int) ≤ if (↑(n0.getD ((0 : Nat) + k.toNat) (false, (0 : Int), [], [])).snd.snd.fst.length : Int) < many then
 (↑(n0.getD ((0 : Nat) + k.toNat) (false, (0 : Int), [], [])).snd.snd.fst.length : Int) else many) ∧ (if (↑(n0.getD ((0 : Nat) + k.toNat) (false, (0 : Int), [], [])).snd.snd.fst.length : Int) < many then
 (↑(n0.getD ((0 : Nat) + k.toNat) (false, (0 : Int), [], [])).snd.snd.fst.length : Int) else many) ≤ none.getD (↑(n0.getD ((0 : Nat) + k.toNat) (false, (0 : Int), [], [])).snd.snd.fst.length : Int) ∧ none.getD (↑(n0.getD ((0 : Nat) + k.toNat) (false, (0 : Int), [], [])).snd.snd.fst.length : Int) ≤ (↑(n0.getD ((0 : Nat) + k.toNat) (false, (0 : Int), [], [])).snd.snd.fst.length : Int) ∧ (0 : Nat) + (n0.getD ((0 : Nat) + k.toNat) (false, (0 : Int), [], [])).snd.snd.fst.length ≤ (n0.getD ((0 : Nat) + k.toNat) (false, (0 : Int), [], [])).snd.snd.fst.length) then
 bif decide ((if (↑(n0.getD ((0 : Nat) + k.toNat) (false, (0 : Int), [], [])).snd.snd.fst.length : Int) < many then
 (↑(n0.getD ((0 : Nat) + k.toNat) (false, (0 : Int), [], [])).snd.snd.fst.length : Int) else many) = (↑(n0.getD ((0 : Nat) + k.toNat) (false, (0 : Int), [], [])).snd.snd.fst.length : Int)) then
 bif decide ((0 : Nat) ≤ (0 : Nat) + (n0.getD ((0 : Nat) + k.toNat) (false, (0 : Int), [], [])).snd.snd.fst.length ∧ (0 : Nat) + (n0.getD ((0 : Nat) + k.toNat) (false, (0 : Int), [], [])).snd.snd.fst.length ≤ (n0.getD ((0 : Nat) + k.toNat) (false, (0 : Int), [], [])).snd.snd.fst.length) then
 (x28 []).bind fun r0 => bif decide ((0 : Int) ≤ end0 ∧ end0 < (2 : Int)) then
 bif end0.toNat.beq (0 : Nat) then
 bif decide ((0 : Int) ≤ (0 : Int) ∧ (0 : Int) ≤ (some (if (↑(n0.getD ((0 : Nat) + k.toNat) (false, (0 : Int), [], [])).snd.snd.fst.length : Int) < many then
 (↑(n0.getD ((0 : Nat) + k.toNat) (false, (0 : Int), [], [])).snd.snd.fst.length : Int) else many)).getD (↑(n0.getD ((0 : Nat) + k.toNat) (false, (0 : Int), [], [])).snd.snd.fst.length : Int) ∧ ((some (if (↑(n0.getD ((0 : Nat) + k.toNat) (false, (0 : Int), [], [])).snd.snd.fst.length : Int) < many then
 (↑(n0.getD ((0 : Nat) + k.toNat) (false, (0 : Int), [], [])).snd.snd.fst.length : Int) else many)).getD (↑(n0.getD ((0 : Nat) + k.toNat) (false, (0 : Int), [], [])).snd.snd.fst.length : Int) ≤ if (↑(n0.getD ((0 : Nat) + k.toNat) (false, (0 : Int), [], [])).snd.snd.fst.length : Int) < many then
 (↑(n0.getD ((0 : Nat) + k.toNat) (false, (0 : Int), [], [])).snd.snd.fst.length : Int) else many) ∧ (if (↑(n0.getD ((0 : Nat) + k.toNat) (false, (0 : Int), [], [])).snd.snd.fst.length : Int) < many then
 (↑(n0.getD ((0 : Nat) + k.toNat) (false, (0 : Int), [], [])).snd.snd.fst.length : Int) else many) ≤ (↑(n0.getD ((0 : Nat) + k.toNat) (false, (0 : Int), [], [])).snd.snd.fst.length : Int) ∧ (0 : Nat) + (n0.getD ((0 : Nat) + k.toNat) (false, (0 : Int), [], [])).snd.snd.fst.length ≤ (n0.getD ((0 : Nat) + k.toNat) (false, (0 : Int), [], [])).snd.snd.fst.length) then
 bif decide ((↑(if (↑(n0.getD ((0 : Nat) + k.toNat) (false, (0 : Int), [], [])).snd.snd.fst.length : Int) < many then
 (↑(n0.getD ((0 : Nat) + k.toNat) (false, (0 : Int), [], [])).snd.snd.fst.length : Int) else many).toNat : Int) = (0 : Int)) then
 bif decide ((0 : Nat) + ((some (if (↑(n0.getD ((0 : Nat) + k.toNat) (false, (0 : Int), [], [])).snd.snd.fst.length : Int) < many then
 (↑(n0.getD ((0 : Nat) + k.toNat) (false, (0 : Int), [], [])).snd.snd.fst.length : Int) else many)).getD (↑(n0.getD ((0 : Nat) + k.toNat) (false, (0 : Int), [], [])).snd.snd.fst.length : Int) - (0 : Int)).toNat ≤ (n0.getD ((0 : Nat) + k.toNat) (false, (0 : Int), [], [])).snd.snd.fst.length) && (decide (((some (if (↑(n0.getD ((0 : Nat) + k.toNat) (false, (0 : Int), [], [])).snd.snd.fst.length : Int) < many then
 (↑(n0.getD ((0 : Nat) + k.toNat) (false, (0 : Int), [], [])).snd.snd.fst.length : Int) else many)).getD (↑(n0.getD ((0 : Nat) + k.toNat) (false, (0 : Int), [], [])).snd.snd.fst.length : Int) - (0 : Int)).toNat ≤ (if (↑(n0.getD ((0 : Nat) + k.toNat) (false, (0 : Int), [], [])).snd.snd.fst.length : Int) < many then
 (↑(n0.getD ((0 : Nat) + k.toNat) (false, (0 : Int), [], [])).snd.snd.fst.length : Int) else many).toNat - (0 : Nat)) && (false || decide ((0 : Nat) + ((if (↑(n0.getD ((0 : Nat) + k.toNat) (false, (0 : Int), [], [])).snd.snd.fst.length : Int) < many then
 (↑(n0.getD ((0 : Nat) + k.toNat) (false, (0 : Int), [], [])).snd.snd.fst.length : Int) else many).toNat - (0 : Nat)) ≤ (n0.getD ((0 : Nat) + k.toNat) (false, (0 : Int), [], [])).snd.snd.fst.length))) then
 bif decide ((0 : Nat) + List.length r0.fst ≤ List.length r0.fst) && true then
 bif decide ((0 : Nat) + List.length (n0.getD ((0 : Nat) + k.toNat) (false, (0 : Int), [], [])).snd.snd.snd ≤ List.length (n0.getD ((0 : Nat) + k.toNat) (false, (0 : Int), [], [])).snd.snd.snd) && true then
 bif decide ((0 : Nat) + n0.length ≤ (n0.set ((0 : Nat) + k.toNat) ((n0.getD ((0 : Nat) + k.toNat) (false, (0 : Int), [], [])).fst, (n0.getD ((0 : Nat) + k.toNat) (false, (0 : Int), [], [])).snd.fst, List.take (List.length r0.fst) (List.drop (0 : Nat) r0.fst), List.take (List.length (n0.getD ((0 : Nat) + k.toNat) (false, (0 : Int), [], [])).snd.snd.snd) (List.drop (0 : Nat) (n0.getD ((0 : Nat) + k.toNat) (false, (0 : Int), [], [])).snd.snd.snd))).length) && true then
 some ((List.take ((some (if (↑(n0.getD ((0 : Nat) + k.toNat) (false, (0 : Int), [], [])).snd.snd.fst.length : Int) < many then
 (↑(n0.getD ((0 : Nat) + k.toNat) (false, (0 : Int), [], [])).snd.snd.fst.length : Int) else many)).getD (↑(n0.getD ((0 : Nat) + k.toNat) (false, (0 : Int), [], [])).snd.snd.fst.length : Int) - (0 : Int)).toNat (List.drop (0 : Nat) (n0.getD ((0 : Nat) + k.toNat) (false, (0 : Int), [], [])).snd.snd.fst), (0 : Int)), List.take n0.length (List.drop (0 : Nat) (n0.set ((0 : Nat) + k.toNat) ((n0.getD ((0 : Nat) + k.toNat) (false, (0 : Int), [], [])).fst, (n0.getD ((0 : Nat) + k.toNat) (false, (0 : Int), [], [])).snd.fst, List.take (List.length r0.fst) (List.drop (0 : Nat) r0.fst), List.take (List.length (n0.getD ((0 : Nat) + k.toNat) (false, (0 : Int), [], [])).snd.snd.snd) (List.drop (0 : Nat) (n0.getD ((0 : Nat) + k.toNat) (false, (0 : Int), [], [])).snd.snd.snd)))), n1) else none else none else none else none else bif decide ((0 : Nat) + ((some (if (↑(n0.getD ((0 : Nat) + k.toNat) (false, (0 : Int), [], [])).snd.snd.fst.length : Int) < many then
 (↑(n0.getD ((0 : Nat) + k.toNat) (false, (0 : Int), [], [])).snd.snd.fst.length : Int) else many)).getD (↑(n0.getD ((0 : Nat) + k.toNat) (false, (0 : Int), [], [])).snd.snd.fst.length : Int) - (0 : Int)).toNat ≤ (n0.getD ((0 : Nat) + k.toNat) (false, (0 : Int), [], [])).snd.snd.fst.length) && (decide (((some (if (↑(n0.getD ((0 : Nat) + k.toNat) (false, (0 : Int), [], [])).snd.snd.fst.length : Int) < many then
 (↑(n0.getD ((0 : Nat) + k.toNat) (false, (0 : Int), [], [])).snd.snd.fst.length : Int) else many)).getD (↑(n0.getD ((0 : Nat) + k.toNat) (false, (0 : Int), [], [])).snd.snd.fst.length : Int) - (0 : Int)).toNat ≤ (if (↑(n0.getD ((0 : Nat) + k.toNat) (false, (0 : Int), [], [])).snd.snd.fst.length : Int) < many then
 (↑(n0.getD ((0 : Nat) + k.toNat) (false, (0 : Int), [], [])).snd.snd.fst.length : Int) else many).toNat - (0 : Nat)) && (false || decide ((0 : Nat) + ((if (↑(n0.getD ((0 : Nat) + k.toNat) (false, (0 : Int), [], [])).snd.snd.fst.length : Int) < many then
 (↑(n0.getD ((0 : Nat) + k.toNat) (false, (0 : Int), [], [])).snd.snd.fst.length : Int) else many).toNat - (0 : Nat)) ≤ (n0.getD ((0 : Nat) + k.toNat) (false, (0 : Int), [], [])).snd.snd.fst.length))) then
 bif decide ((0 : Nat) + List.length r0.fst ≤ List.length r0.fst) && true then
 bif decide ((0 : Nat) + List.length (n0.getD ((0 : Nat) + k.toNat) (false, (0 : Int), [], [])).snd.snd.snd ≤ List.length (n0.getD ((0 : Nat) + k.toNat) (false, (0 : Int), [], [])).snd.snd.snd) && true then
 bif decide ((0 : Nat) + n0.length ≤ (n0.set ((0 : Nat) + k.toNat) ((n0.getD ((0 : Nat) + k.toNat) (false, (0 : Int), [], [])).fst, (n0.getD ((0 : Nat) + k.toNat) (false, (0 : Int), [], [])).snd.fst, List.take (List.length r0.fst) (List.drop (0 : Nat) r0.fst), List.take (List.length (n0.getD ((0 : Nat) + k.toNat) (false, (0 : Int), [], [])).snd.snd.snd) (List.drop (0 : Nat) (n0.getD ((0 : Nat) + k.toNat) (false, (0 : Int), [], [])).snd.snd.snd))).length) && true then
 some ((List.take ((some (if (↑(n0.getD ((0 : Nat) + k.toNat) (false, (0 : Int), [], [])).snd.snd.fst.length : Int) < many then
 (↑(n0.getD ((0 : Nat) + k.toNat) (false, (0 : Int), [], [])).snd.snd.fst.length : Int) else many)).getD (↑(n0.getD ((0 : Nat) + k.toNat) (false, (0 : Int), [], [])).snd.snd.fst.length : Int) - (0 : Int)).toNat (List.drop (0 : Nat) (n0.getD ((0 : Nat) + k.toNat) (false, (0 : Int), [], [])).snd.snd.fst), (0 : Int)), List.take n0.length (List.drop (0 : Nat) (n0.set ((0 : Nat) + k.toNat) ((n0.getD ((0 : Nat) + k.toNat) (false, (0 : Int), [], [])).fst, (n0.getD ((0 : Nat) + k.toNat) (false, (0 : Int), [], [])).snd.fst, List.take (List.length r0.fst) (List.drop (0 : Nat) r0.fst), List.take (List.length (n0.getD ((0 : Nat) + k.toNat) (false, (0 : Int), [], [])).snd.snd.snd) (List.drop (0 : Nat) (n0.getD ((0 : Nat) + k.toNat) (false, (0 : Int), [], [])).snd.snd.snd)))), n1) else none else none else none else none else none else bif end0.toNat.beq (1 : Nat) then
 bif decide ((0 : Int) ≤ (0 : Int) ∧ (0 : Int) ≤ (some (if (↑(n0.getD ((0 : Nat) + k.toNat) (false, (0 : Int), [], [])).snd.snd.fst.length : Int) < many then
 (↑(n0.getD ((0 : Nat) + k.toNat) (false, (0 : Int), [], [])).snd.snd.fst.length : Int) else many)).getD (↑(n0.getD ((0 : Nat) + k.toNat) (false, (0 : Int), [], [])).snd.snd.fst.length : Int) ∧ ((some (if (↑(n0.getD ((0 : Nat) + k.toNat) (false, (0 : Int), [], [])).snd.snd.fst.length : Int) < many then
 (↑(n0.getD ((0 : Nat) + k.toNat) (false, (0 : Int), [], [])).snd.snd.fst.length : Int) else many)).getD (↑(n0.getD ((0 : Nat) + k.toNat) (false, (0 : Int), [], [])).snd.snd.fst.length : Int) ≤ if (↑(n0.getD ((0 : Nat) + k.toNat) (false, (0 : Int), [], [])).snd.snd.fst.length : Int) < many then
 (↑(n0.getD ((0 : Nat) + k.toNat) (false, (0 : Int), [], [])).snd.snd.fst.length : Int) else many) ∧ (if (↑(n0.getD ((0 : Nat) + k.toNat) (false, (0 : Int), [], [])).snd.snd.fst.length : Int) < many then
 (↑(n0.getD ((0 : Nat) + k.toNat) (false, (0 : Int), [], [])).snd.snd.fst.length : Int) else many) ≤ (↑(n0.getD ((0 : Nat) + k.toNat) (false, (0 : Int), [], [])).snd.snd.fst.length : Int) ∧ (0 : Nat) + (n0.getD ((0 : Nat) + k.toNat) (false, (0 : Int), [], [])).snd.snd.fst.length ≤ (n0.getD ((0 : Nat) + k.toNat) (false, (0 : Int), [], [])).snd.snd.fst.length) then
 bif decide ((↑(if (↑(n0.getD ((0 : Nat) + k.toNat) (false, (0 : Int), [], [])).snd.snd.fst.length : Int) < many then
 (↑(n0.getD ((0 : Nat) + k.toNat) (false, (0 : Int), [], [])).snd.snd.fst.length : Int) else many).toNat : Int) = (0 : Int)) then
 bif decide ((0 : Nat) + ((some (if (↑(n0.getD ((0 : Nat) + k.toNat) (false, (0 : Int), [], [])).snd.snd.fst.length : Int) < many then
 (↑(n0.getD ((0 : Nat) + k.toNat) (false, (0 : Int), [], [])).snd.snd.fst.length : Int) else many)).getD (↑(n0.getD ((0 : Nat) + k.toNat) (false, (0 : Int), [], [])).snd.snd.fst.length : Int) - (0 : Int)).toNat ≤ (n0.getD ((0 : Nat) + k.toNat) (false, (0 : Int), [], [])).snd.snd.fst.length) && (decide (((some (if (↑(n0.getD ((0 : Nat) + k.toNat) (false, (0 : Int), [], [])).snd.snd.fst.length : Int) < many then
 (↑(n0.getD ((0 : Nat) + k.toNat) (false, (0 : Int), [], [])).snd.snd.fst.length : Int) else many)).getD (↑(n0.getD ((0 : Nat) + k.toNat) (false, (0 : Int), [], [])).snd.snd.fst.length : Int) - (0 : Int)).toNat ≤ (if (↑(n0.getD ((0 : Nat) + k.toNat) (false, (0 : Int), [], [])).snd.snd.fst.length : Int) < many then
 (↑(n0.getD ((0 : Nat) + k.toNat) (false, (0 : Int), [], [])).snd.snd.fst.length : Int) else many).toNat - (0 : Nat)) && (false || decide ((0 : Nat) + ((if (↑(n0.getD ((0 : Nat) + k.toNat) (false, (0 : Int), [], [])).snd.snd.fst.length : Int) < many then
 (↑(n0.getD ((0 : Nat) + k.toNat) (false, (0 : Int), [], [])).snd.snd.fst.length : Int) else many).toNat - (0 : Nat)) ≤ (n0.getD ((0 : Nat) + k.toNat) (false, (0 : Int), [], [])).snd.snd.fst.length))) then
 bif decide ((0 : Nat) + (n0.getD ((0 : Nat) + k.toNat) (false, (0 : Int), [], [])).snd.snd.fst.length ≤ (n0.getD ((0 : Nat) + k.toNat) (false, (0 : Int), [], [])).snd.snd.fst.length) && true then
 bif decide ((0 : Nat) + List.length r0.fst ≤ List.length r0.fst) && true then
 bif decide ((0 : Nat) + n0.length ≤ (n0.set ((0 : Nat) + k.toNat) ((n0.getD ((0 : Nat) + k.toNat) (false, (0 : Int), [], [])).fst, (n0.getD ((0 : Nat) + k.toNat) (false, (0 : Int), [], [])).snd.fst, List.take (n0.getD ((0 : Nat) + k.toNat) (false, (0 : Int), [], [])).snd.snd.fst.length (List.drop (0 : Nat) (n0.getD ((0 : Nat) + k.toNat) (false, (0 : Int), [], [])).snd.snd.fst), List.take (List.length r0.fst) (List.drop (0 : Nat) r0.fst))).length) && true then
 none else none else none else none else none else bif decide ((0 : Nat) + ((some (if (↑(n0.getD ((0 : Nat) + k.toNat) (false, (0 : Int), [], [])).snd.snd.fst.length : Int) < many then
 (↑(n0.getD ((0 : Nat) + k.toNat) (false, (0 : Int), [], [])).snd.snd.fst.length : Int) else many)).getD (↑(n0.getD ((0 : Nat) + k.toNat) (false, (0 : Int), [], [])).snd.snd.fst.length : Int) - (0 : Int)).toNat ≤ (n0.getD ((0 : Nat) + k.toNat) (false, (0 : Int), [], [])).snd.snd.fst.length) && (decide (((some (if (↑(n0.getD ((0 : Nat) + k.toNat) (false, (0 : Int), [], [])).snd.snd.fst.length : Int) < many then
 (↑(n0.getD ((0 : Nat) + k.toNat) (false, (0 : Int), [], [])).snd.snd.fst.length : Int) else many)).getD (↑(n0.getD ((0 : Nat) + k.toNat) (false, (0 : Int), [], [])).snd.snd.fst.length : Int) - (0 : Int)).toNat ≤ (if (↑(n0.getD ((0 : Nat) + k.toNat) (false, (0 : Int), [], [])).snd.snd.fst.length : Int) < many then
 (↑(n0.getD ((0 : Nat) + k.toNat) (false, (0 : Int), [], [])).snd.snd.fst.length : Int) else many).toNat - (0 : Nat)) && (false || decide ((0 : Nat) + ((if (↑(n0.getD ((0 : Nat) + k.toNat) (false, (0 : Int), [], [])).snd.snd.fst.length : Int) < many then
 (↑(n0.getD ((0 : Nat) + k.toNat) (false, (0 : Int), [], [])).snd.snd.fst.length : Int) else many).toNat - (0 : Nat)) ≤ (n0.getD ((0 : Nat) + k.toNat) (false, (0 : Int), [], [])).snd.snd.fst.length))) then
 bif decide ((0 : Nat) + (n0.getD ((0 : Nat) + k.toNat) (false, (0 : Int), [], [])).snd.snd.fst.length ≤ (n0.getD ((0 : Nat) + k.toNat) (false, (0 : Int), [], [])).snd.snd.fst.length) && true then
 bif decide ((0 : Nat) + List.length r0.fst ≤ List.length r0.fst) && true then
 bif decide ((0 : Nat) + n0.length ≤ (n0.set ((0 : Nat) + k.toNat) ((n0.getD ((0 : Nat) + k.toNat) (false, (0 : Int), [], [])).fst, (n0.getD ((0 : Nat) + k.toNat) (false, (0 : Int), [], [])).snd.fst, List.take (n0.getD ((0 : Nat) + k.toNat) (false, (0 : Int), [], [])).snd.snd.fst.length (List.drop (0 : Nat) (n0.getD ((0 : Nat) + k.toNat) (false, (0 : Int), [], [])).snd.snd.fst), List.take (List.length r0.fst) (List.drop (0 : Nat) r0.fst))).length) && true then
 none else none else none else none else none else none else none else none else none else bif decide ((0 : Nat) + (if (↑(n0.getD ((0 : Nat) + k.toNat) (false, (0 : Int), [], [])).snd.snd.fst.length : Int) < many then
 (↑(n0.getD ((0 : Nat) + k.toNat) (false, (0 : Int), [], [])).snd.snd.fst.length : Int) else many).toNat + (none.getD (↑(n0.getD ((0 : Nat) + k.toNat) (false, (0 : Int), [], [])).snd.snd.fst.length : Int) - if (↑(n0.getD ((0 : Nat) + k.toNat) (false, (0 : Int), [], [])).snd.snd.fst.length : Int) < many then
 (↑(n0.getD ((0 : Nat) + k.toNat) (false, (0 : Int), [], [])).snd.snd.fst.length : Int) else many).toNat ≤ (n0.getD ((0 : Nat) + k.toNat) (false, (0 : Int), [], [])).snd.snd.fst.length) && true then
 (x28 (List.take (none.getD (↑(n0.getD ((0 : Nat) + k.toNat) (false, (0 : Int), [], [])).snd.snd.fst.length : Int) - if (↑(n0.getD ((0 : Nat) + k.toNat) (false, (0 : Int), [], [])).snd.snd.fst.length : Int) < many then
 (↑(n0.getD ((0 : Nat) + k.toNat) (false, (0 : Int), [], [])).snd.snd.fst.length : Int) else many).toNat (List.drop ((0 : Nat) + (if (↑(n0.getD ((0 : Nat) + k.toNat) (false, (0 : Int), [], [])).snd.snd.fst.length : Int) < many then
 (↑(n0.getD ((0 : Nat) + k.toNat) (false, (0 : Int), [], [])).snd.snd.fst.length : Int) else many).toNat) (n0.getD ((0 : Nat) + k.toNat) (false, (0 : Int), [], [])).snd.snd.fst))).bind fun r0 => bif decide ((0 : Int) ≤ end0 ∧ end0 < (2 : Int)) then
 bif end0.toNat.beq (0 : Nat) then
 bif decide ((0 : Int) ≤ (0 : Int) ∧ (0 : Int) ≤ (some (if (↑(n0.getD ((0 : Nat) + k.toNat) (false, (0 : Int), [], [])).snd.snd.fst.length : Int) < many then
 (↑(n0.getD ((0 : Nat) + k.toNat) (false, (0 : Int), [], [])).snd.snd.fst.length : Int) else many)).getD (↑(n0.getD ((0 : Nat) + k.toNat) (false, (0 : Int), [], [])).snd.snd.fst.length : Int) ∧ ((some (if (↑(n0.getD ((0 : Nat) + k.toNat) (false, (0 : Int), [], [])).snd.snd.fst.length : Int) < many then
 (↑(n0.getD ((0 : Nat) + k.toNat) (false, (0 : Int), [], [])).snd.snd.fst.length : Int) else many)).getD (↑(n0.getD ((0 : Nat) + k.toNat) (false, (0 : Int), [], [])).snd.snd.fst.length : Int) ≤ if (↑(n0.getD ((0 : Nat) + k.toNat) (false, (0 : Int), [], [])).snd.snd.fst.length : Int) < many then
 (↑(n0.getD ((0 : Nat) + k.toNat) (false, (0 : Int), [], [])).snd.snd.fst.length : Int) else many) ∧ (if (↑(n0.getD ((0 : Nat) + k.toNat) (false, (0 : Int), [], [])).snd.snd.fst.length : Int) < many then
 (↑(n0.getD ((0 : Nat) + k.toNat) (false, (0 : Int), [], [])).snd.snd.fst.length : Int) else many) ≤ (↑(n0.getD ((0 : Nat) + k.toNat) (false, (0 : Int), [], [])).snd.snd.fst.length : Int) ∧ (0 : Nat) + (n0.getD ((0 : Nat) + k.toNat) (false, (0 : Int), [], [])).snd.snd.fst.length ≤ (n0.getD ((0 : Nat) + k.toNat) (false, (0 : Int), [], [])).snd.snd.fst.length) then
 bif decide ((↑(if (↑(n0.getD ((0 : Nat) + k.toNat) (false, (0 : Int), [], [])).snd.snd.fst.length : Int) < many then
 (↑(n0.getD ((0 : Nat) + k.toNat) (false, (0 : Int), [], [])).snd.snd.fst.length : Int) else many).toNat : Int) = (0 : Int)) then
 bif decide ((0 : Nat) + ((some (if (↑(n0.getD ((0 : Nat) + k.toNat) (false, (0 : Int), [], [])).snd.snd.fst.length : Int) < many then
 (↑(n0.getD ((0 : Nat) + k.toNat) (false, (0 : Int), [], [])).snd.snd.fst.length : Int) else many)).getD (↑(n0.getD ((0 : Nat) + k.toNat) (false, (0 : Int), [], [])).snd.snd.fst.length : Int) - (0 : Int)).toNat ≤ (n0.getD ((0 : Nat) + k.toNat) (false, (0 : Int), [], [])).snd.snd.fst.length) && (decide (((some (if (↑(n0.getD ((0 : Nat) + k.toNat) (false, (0 : Int), [], [])).snd.snd.fst.length : Int) < many then
 (↑(n0.getD ((0 : Nat) + k.toNat) (false, (0 : Int), [], [])).snd.snd.fst.length : Int) else many)).getD (↑(n0.getD ((0 : Nat) + k.toNat) (false, (0 : Int), [], [])).snd.snd.fst.length : Int) - (0 : Int)).toNat ≤ (if (↑(n0.getD ((0 : Nat) + k.toNat) (false, (0 : Int), [], [])).snd.snd.fst.length : Int) < many then
 (↑(n0.getD ((0 : Nat) + k.toNat) (false, (0 : Int), [], [])).snd.snd.fst.length : Int) else many).toNat - (0 : Nat)) && (false || decide ((0 : Nat) + ((if (↑(n0.getD ((0 : Nat) + k.toNat) (false, (0 : Int), [], [])).snd.snd.fst.length : Int) < many then
 (↑(n0.getD ((0 : Nat) + k.toNat) (false, (0 : Int), [], [])).snd.snd.fst.length : Int) else many).toNat - (0 : Nat)) ≤ (n0.getD ((0 : Nat) + k.toNat) (false, (0 : Int), [], [])).snd.snd.fst.length))) then
 bif decide ((0 : Nat) + List.length r0.fst ≤ List.length r0.fst) && true then
 bif decide ((0 : Nat) + List.length (n0.getD ((0 : Nat) + k.toNat) (false, (0 : Int), [], [])).snd.snd.snd ≤ List.length (n0.getD ((0 : Nat) + k.toNat) (false, (0 : Int), [], [])).snd.snd.snd) && true then
 bif decide ((0 : Nat) + n0.length ≤ (n0.set ((0 : Nat) + k.toNat) ((n0.getD ((0 : Nat) + k.toNat) (false, (0 : Int), [], [])).fst, (n0.getD ((0 : Nat) + k.toNat) (false, (0 : Int), [], [])).snd.fst, List.take (List.length r0.fst) (List.drop (0 : Nat) r0.fst), List.take (List.length (n0.getD ((0 : Nat) + k.toNat) (false, (0 : Int), [], [])).snd.snd.snd) (List.drop (0 : Nat) (n0.getD ((0 : Nat) + k.toNat) (false, (0 : Int), [], [])).snd.snd.snd))).length) && true then
 some ((List.take ((some (if (↑(n0.getD ((0 : Nat) + k.toNat) (false, (0 : Int), [], [])).snd.snd.fst.length : Int) < many then
 (↑(n0.getD ((0 : Nat) + k.toNat) (false, (0 : Int), [], [])).snd.snd.fst.length : Int) else many)).getD (↑(n0.getD ((0 : Nat) + k.toNat) (false, (0 : Int), [], [])).snd.snd.fst.length : Int) - (0 : Int)).toNat (List.drop (0 : Nat) (n0.getD ((0 : Nat) + k.toNat) (false, (0 : Int), [], [])).snd.snd.fst), (0 : Int)), List.take n0.length (List.drop (0 : Nat) (n0.set ((0 : Nat) + k.toNat) ((n0.getD ((0 : Nat) + k.toNat) (false, (0 : Int), [], [])).fst, (n0.getD ((0 : Nat) + k.toNat) (false, (0 : Int), [], [])).snd.fst, List.take (List.length r0.fst) (List.drop (0 : Nat) r0.fst), List.take (List.length (n0.getD ((0 : Nat) + k.toNat) (false, (0 : Int), [], [])).snd.snd.snd) (List.drop (0 : Nat) (n0.getD ((0 : Nat) + k.toNat) (false, (0 : Int), [], [])).snd.snd.snd)))), n1) else none else none else none else none else bif decide ((0 : Nat) + ((some (if (↑(n0.getD ((0 : Nat) + k.toNat) (false, (0 : Int), [], [])).snd.snd.fst.length : Int) < many then
 (↑(n0.getD ((0 : Nat) + k.toNat) (false, (0 : Int), [], [])).snd.snd.fst.length : Int) else many)).getD (↑(n0.getD ((0 : Nat) + k.toNat) (false, (0 : Int), [], [])).snd.snd.fst.length : Int) - (0 : Int)).toNat ≤ (n0.getD ((0 : Nat) + k.toNat) (false, (0 : Int), [], [])).snd.snd.fst.length) && (decide (((some (if (↑(n0.getD ((0 : Nat) + k.toNat) (false, (0 : Int), [], [])).snd.snd.fst.length : Int) < many then
 (↑(n0.getD ((0 : Nat) + k.toNat) (false, (0 : Int), [], [])).snd.snd.fst.length : Int) else many)).getD (↑(n0.getD ((0 : Nat) + k.toNat) (false, (0 : Int), [], [])).snd.snd.fst.length : Int) - (0 : Int)).toNat ≤ (if (↑(n0.getD ((0 : Nat) + k.toNat) (false, (0 : Int), [], [])).snd.snd.fst.length : Int) < many then
 (↑(n0.getD ((0 : Nat) + k.toNat) (false, (0 : Int), [], [])).snd.snd.fst.length : Int) else many).toNat - (0 : Nat)) && (false || decide ((0 : Nat) + ((if (↑(n0.getD ((0 : Nat) + k.toNat) (false, (0 : Int), [], [])).snd.snd.fst.length : Int) < many then
 (↑(n0.getD ((0 : Nat) + k.toNat) (false, (0 : Int), [], [])).snd.snd.fst.length : Int) else many).toNat - (0 : Nat)) ≤ (n0.getD ((0 : Nat) + k.toNat) (false, (0 : Int), [], [])).snd.snd.fst.length))) then
 bif decide ((0 : Nat) + List.length r0.fst ≤ List.length r0.fst) && true then
 bif decide ((0 : Nat) + List.length (n0.getD ((0 : Nat) + k.toNat) (false, (0 : Int), [], [])).snd.snd.snd ≤ List.length (n0.getD ((0 : Nat) + k.toNat) (false, (0 : Int), [], [])).snd.snd.snd) && true then
 bif decide ((0 : Nat) + n0.length ≤ (n0.set ((0 : Nat) + k.toNat) ((n0.getD ((0 : Nat) + k.toNat) (false, (0 : Int), [], [])).fst, (n0.getD ((0 : Nat) + k.toNat) (false, (0 : Int), [], [])).snd.fst, List.take (List.length r0.fst) (List.drop (0 : Nat) r0.fst), List.take (List.length (n0.getD ((0 : Nat) + k.toNat) (false, (0 : Int), [], [])).snd.snd.snd) (List.drop (0 : Nat) (n0.getD ((0 : Nat) + k.toNat) (false, (0 : Int), [], [])).snd.snd.snd))).length) && true then
 some ((List.take ((some (if (↑(n0.getD ((0 : Nat) + k.toNat) (false, (0 : Int), [], [])).snd.snd.fst.length : Int) < many then
 (↑(n0.getD ((0 : Nat) + k.toNat) (false, (0 : Int), [], [])).snd.snd.fst.length : Int) else many)).getD (↑(n0.getD ((0 : Nat) + k.toNat) (false, (0 : Int), [], [])).snd.snd.fst.length : Int) - (0 : Int)).toNat (List.drop (0 : Nat) (n0.getD ((0 : Nat) + k.toNat) (false, (0 : Int), [], [])).snd.snd.fst), (0 : Int)), List.take n0.length (List.drop (0 : Nat) (n0.set ((0 : Nat) + k.toNat) ((n0.getD ((0 : Nat) + k.toNat) (false, (0 : Int), [], [])).fst, (n0.getD ((0 : Nat) + k.toNat) (false, (0 : Int), [], [])).snd.fst, List.take (List.length r0.fst) (List.drop (0 : Nat) r0.fst), List.take (List.length (n0.getD ((0 : Nat) + k.toNat) (false, (0 : Int), [], [])).snd.snd.snd) (List.drop (0 : Nat) (n0.getD ((0 : Nat) + k.toNat) (false, (0 : Int), [], [])).snd.snd.snd)))), n1) else none else none else none else none else none else bif end0.toNat.beq (1 : Nat) then
 bif decide ((0 : Int) ≤ (0 : Int) ∧ (0 : Int) ≤ (some (if (↑(n0.getD ((0 : Nat) + k.toNat) (false, (0 : Int), [], [])).snd.snd.fst.length : Int) < many then
 (↑(n0.getD ((0 : Nat) + k.toNat) (false, (0 : Int), [], [])).snd.snd.fst.length : Int) else many)).getD (↑(n0.getD ((0 : Nat) + k.toNat) (false, (0 : Int), [], [])).snd.snd.fst.length : Int) ∧ ((some (if (↑(n0.getD ((0 : Nat) + k.toNat) (false, (0 : Int), [], [])).snd.snd.fst.length : Int) < many then
 (↑(n0.getD ((0 : Nat) + k.toNat) (false, (0 : Int), [], [])).snd.snd.fst.length : Int) else many)).getD (↑(n0.getD ((0 : Nat) + k.toNat) (false, (0 : Int), [], [])).snd.snd.fst.length : Int) ≤ if (↑(n0.getD ((0 : Nat) + k.toNat) (false, (0 : Int), [], [])).snd.snd.fst.length : Int) < many then
 (↑(n0.getD ((0 : Nat) + k.toNat) (false, (0 : Int), [], [])).snd.snd.fst.length : Int) else many) ∧ (if (↑(n0.getD ((0 : Nat) + k.toNat) (false, (0 : Int), [], [])).snd.snd.fst.length : Int) < many then
 (↑(n0.getD ((0 : Nat) + k.toNat) (false, (0 : Int), [], [])).snd.snd.fst.length : Int) else many) ≤ (↑(n0.getD ((0 : Nat) + k.toNat) (false, (0 : Int), [], [])).snd.snd.fst.length : Int) ∧ (0 : Nat) + (n0.getD ((0 : Nat) + k.toNat) (false, (0 : Int), [], [])).snd.snd.fst.length ≤ (n0.getD ((0 : Nat) + k.toNat) (false, (0 : Int), [], [])).snd.snd.fst.length) then
 bif decide ((↑(if (↑(n0.getD ((0 : Nat) + k.toNat) (false, (0 : Int), [], [])).snd.snd.fst.length : Int) < many then
 (↑(n0.getD ((0 : Nat) + k.toNat) (false, (0 : Int), [], [])).snd.snd.fst.length : Int) else many).toNat : Int) = (0 : Int)) then
 bif decide ((0 : Nat) + ((some (if (↑(n0.getD ((0 : Nat) + k.toNat) (false, (0 : Int), [], [])).snd.snd.fst.length : Int) < many then
 (↑(n0.getD ((0 : Nat) + k.toNat) (false, (0 : Int), [], [])).snd.snd.fst.length : Int) else many)).getD (↑(n0.getD ((0 : Nat) + k.toNat) (false, (0 : Int), [], [])).snd.snd.fst.length : Int) - (0 : Int)).toNat ≤ (n0.getD ((0 : Nat) + k.toNat) (false, (0 : Int), [], [])).snd.snd.fst.length) && (decide (((some (if (↑(n0.getD ((0 : Nat) + k.toNat) (false, (0 : Int), [], [])).snd.snd.fst.length : Int) < many then
 (↑(n0.getD ((0 : Nat) + k.toNat) (false, (0 : Int), [], [])).snd.snd.fst.length : Int) else many)).getD (↑(n0.getD ((0 : Nat) + k.toNat) (false, (0 : Int), [], [])).snd.snd.fst.length : Int) - (0 : Int)).toNat ≤ (if (↑(n0.getD ((0 : Nat) + k.toNat) (false, (0 : Int), [], [])).snd.snd.fst.length : Int) < many then
 (↑(n0.getD ((0 : Nat) + k.toNat) (false, (0 : Int), [], [])).snd.snd.fst.length : Int) else many).toNat - (0 : Nat)) && (false || decide ((0 : Nat) + ((if (↑(n0.getD ((0 : Nat) + k.toNat) (false, (0 : Int), [], [])).snd.snd.fst.length : Int) < many then
 (↑(n0.getD ((0 : Nat) + k.toNat) (false, (0 : Int), [], [])).snd.snd.fst.length : Int) else many).toNat - (0 : Nat)) ≤ (n0.getD ((0 : Nat) + k.toNat) (false, (0 : Int), [], [])).snd.snd.fst.length))) then
 bif decide ((0 : Nat) + (n0.getD ((0 : Nat) + k.toNat) (false, (0 : Int), [], [])).snd.snd.fst.length ≤ (n0.getD ((0 : Nat) + k.toNat) (false, (0 : Int), [], [])).snd.snd.fst.length) && true then
 bif decide ((0 : Nat) + List.length r0.fst ≤ List.length r0.fst) && true then
 bif decide ((0 : Nat) + n0.length ≤ (n0.set ((0 : Nat) + k.toNat) ((n0.getD ((0 : Nat) + k.toNat) (false, (0 : Int), [], [])).fst, (n0.getD ((0 : Nat) + k.toNat) (false, (0 : Int), [], [])).snd.fst, List.take (n0.getD ((0 : Nat) + k.toNat) (false, (0 : Int), [], [])).snd.snd.fst.length (List.drop (0 : Nat) (n0.getD ((0 : Nat) + k.toNat) (false, (0 : Int), [], [])).snd.snd.fst), List.take (List.length r0.fst) (List.drop (0 : Nat) r0.fst))).length) && true then
 none else none else none else none else none else bif decide ((0 : Nat) + ((some (if (↑(n0.getD ((0 : Nat) + k.toNat) (false, (0 : Int), [], [])).snd.snd.fst.length : Int) < many then
 (↑(n0.getD ((0 : Nat) + k.toNat) (false, (0 : Int), [], [])).snd.snd.fst.length : Int) else many)).getD (↑(n0.getD ((0 : Nat) + k.toNat) (false, (0 : Int), [], [])).snd.snd.fst.length : Int) - (0 : Int)).toNat ≤ (n0.getD ((0 : Nat) + k.toNat) (false, (0 : Int), [], [])).snd.snd.fst.length) && (decide (((some (if (↑(n0.getD ((0 : Nat) + k.toNat) (false, (0 : Int), [], [])).snd.snd.fst.length : Int) < many then
 (↑(n0.getD ((0 : Nat) + k.toNat) (false, (0 : Int), [], [])).snd.snd.fst.length : Int) else many)).getD (↑(n0.getD ((0 : Nat) + k.toNat) (false, (0 : Int), [], [])).snd.snd.fst.length : Int) - (0 : Int)).toNat ≤ (if (↑(n0.getD ((0 : Nat) + k.toNat) (false, (0 : Int), [], [])).snd.snd.fst.length : Int) < many then
 (↑(n0.getD ((0 : Nat) + k.toNat) (false, (0 : Int), [], [])).snd.snd.fst.length : Int) else many).toNat - (0 : Nat)) && (false || decide ((0 : Nat) + ((if (↑(n0.getD ((0 : Nat) + k.toNat) (false, (0 : Int), [], [])).snd.snd.fst.length : Int) < many then
 (↑(n0.getD ((0 : Nat) + k.toNat) (false, (0 : Int), [], [])).snd.snd.fst.length : Int) else many).toNat - (0 : Nat)) ≤ (n0.getD ((0 : Nat) + k.toNat) (false, (0 : Int), [], [])).snd.snd.fst.length))) then
 bif decide ((0 : Nat) + (n0.getD ((0 : Nat) + k.toNat) (false, (0 : Int), [], [])).snd.snd.fst.length ≤ (n0.getD ((0 : Nat) + k.toNat) (false, (0 : Int), [], [])).snd.snd.fst.length) && true then
 bif decide ((0 : Nat) + List.length r0.fst ≤ List.length r0.fst) && true then
 bif decide ((0 : Nat) + n0.length ≤ (n0.set ((0 : Nat) + k.toNat) ((n0.getD ((0 : Nat) + k.toNat) (false, (0 : Int), [], [])).fst, (n0.getD ((0 : Nat) + k.toNat) (false, (0 : Int), [], [])).snd.fst, List.take (n0.getD ((0 : Nat) + k.toNat) (false, (0 : Int), [], [])).snd.snd.fst.length (List.drop (0 : Nat) (n0.getD ((0 : Nat) + k.toNat) (false, (0 : Int), [], [])).snd.snd.fst), List.take (List.length r0.fst) (List.drop (0 : Nat) r0.fst))).length) && true then
 none else none else none else none else none else none else none else none else none else none else bif end0.toNat.beq (1 : Nat) then
 bif decide (((0 : Int) ≤ if (↑(List.length (n0.getD ((0 : Nat) + k.toNat) (false, (0 : Int), [], [])).snd.snd.snd) : Int) < many then
 (↑(List.length (n0.getD ((0 : Nat) + k.toNat) (false, (0 : Int), [], [])).snd.snd.snd) : Int) else many) ∧ (if (↑(List.length (n0.getD ((0 : Nat) + k.toNat) (false, (0 : Int), [], [])).snd.snd.snd) : Int) < many then
 (↑(List.length (n0.getD ((0 : Nat) + k.toNat) (false, (0 : Int), [], [])).snd.snd.snd) : Int) else many) ≤ none.getD (↑(List.length (n0.getD ((0 : Nat) + k.toNat) (false, (0 : Int), [], [])).snd.snd.snd) : Int) ∧ none.getD (↑(List.length (n0.getD ((0 : Nat) + k.toNat) (false, (0 : Int), [], [])).snd.snd.snd) : Int) ≤ (↑(List.length (n0.getD ((0 : Nat) + k.toNat) (false, (0 : Int), [], [])).snd.snd.snd) : Int) ∧ (0 : Nat) + List.length (n0.getD ((0 : Nat) + k.toNat) (false, (0 : Int), [], [])).snd.snd.snd ≤ List.length (n0.getD ((0 : Nat) + k.toNat) (false, (0 : Int), [], [])).snd.snd.snd) then
 bif decide ((if (↑(List.length (n0.getD ((0 : Nat) + k.toNat) (false, (0 : Int), [], [])).snd.snd.snd) : Int) < many then
 (↑(List.length (n0.getD ((0 : Nat) + k.toNat) (false, (0 : Int), [], [])).snd.snd.snd) : Int) else many) = (↑(List.length (n0.getD ((0 : Nat) + k.toNat) (false, (0 : Int), [], [])).snd.snd.snd) : Int)) then
 bif decide ((0 : Nat) ≤ (0 : Nat) + List.length (n0.getD ((0 : Nat) + k.toNat) (false, (0 : Int), [], [])).snd.snd.snd ∧ (0 : Nat) + List.length (n0.getD ((0 : Nat) + k.toNat) (false, (0 : Int), [], [])).snd.snd.snd ≤ List.length (n0.getD ((0 : Nat) + k.toNat) (false, (0 : Int), [], [])).snd.snd.snd) then
 (x28 []).bind fun r0 => bif decide ((0 : Int) ≤ end0 ∧ end0 < (2 : Int)) then
 bif end0.toNat.beq (0 : Nat) then
 bif decide ((0 : Int) ≤ (0 : Int) ∧ (0 : Int) ≤ (some (if (↑(List.length (n0.getD ((0 : Nat) + k.toNat) (false, (0 : Int), [], [])).snd.snd.snd) : Int) < many then
 (↑(List.length (n0.getD ((0 : Nat) + k.toNat) (false, (0 : Int), [], [])).snd.snd.snd) : Int) else many)).getD (↑(List.length (n0.getD ((0 : Nat) + k.toNat) (false, (0 : Int), [], [])).snd.snd.snd) : Int) ∧ ((some (if (↑(List.length (n0.getD ((0 : Nat) + k.toNat) (false, (0 : Int), [], [])).snd.snd.snd) : Int) < many then
 (↑(List.length (n0.getD ((0 : Nat) + k.toNat) (false, (0 : Int), [], [])).snd.snd.snd) : Int) else many)).getD (↑(List.length (n0.getD ((0 : Nat) + k.toNat) (false, (0 : Int), [], [])).snd.snd.snd) : Int) ≤ if (↑(List.length (n0.getD ((0 : Nat) + k.toNat) (false, (0 : Int), [], [])).snd.snd.snd) : Int) < many then
 (↑(List.length (n0.getD ((0 : Nat) + k.toNat) (false, (0 : Int), [], [])).snd.snd.snd) : Int) else many) ∧ (if (↑(List.length (n0.getD ((0 : Nat) + k.toNat) (false, (0 : Int), [], [])).snd.snd.snd) : Int) < many then
 (↑(List.length (n0.getD ((0 : Nat) + k.toNat) (false, (0 : Int), [], [])).snd.snd.snd) : Int) else many) ≤ (↑(List.length (n0.getD ((0 : Nat) + k.toNat) (false, (0 : Int), [], [])).snd.snd.snd) : Int) ∧ (0 : Nat) + List.length (n0.getD ((0 : Nat) + k.toNat) (false, (0 : Int), [], [])).snd.snd.snd ≤ List.length (n0.getD ((0 : Nat) + k.toNat) (false, (0 : Int), [], [])).snd.snd.snd) then
 bif decide ((↑(if (↑(List.length (n0.getD ((0 : Nat) + k.toNat) (false, (0 : Int), [], [])).snd.snd.snd) : Int) < many then
 (↑(List.length (n0.getD ((0 : Nat) + k.toNat) (false, (0 : Int), [], [])).snd.snd.snd) : Int) else many).toNat : Int) = (0 : Int)) then
 bif decide ((0 : Nat) + ((some (if (↑(List.length (n0.getD ((0 : Nat) + k.toNat) (false, (0 : Int), [], [])).snd.snd.snd) : Int) < many then
 (↑(List.length (n0.getD ((0 : Nat) + k.toNat) (false, (0 : Int), [], [])).snd.snd.snd) : Int) else many)).getD (↑(List.length (n0.getD ((0 : Nat) + k.toNat) (false, (0 : Int), [], [])).snd.snd.snd) : Int) - (0 : Int)).toNat ≤ List.length (n0.getD ((0 : Nat) + k.toNat) (false, (0 : Int), [], [])).snd.snd.snd) && (decide (((some (if (↑(List.length (n0.getD ((0 : Nat) + k.toNat) (false, (0 : Int), [], [])).snd.snd.snd) : Int) < many then
 (↑(List.length (n0.getD ((0 : Nat) + k.toNat) (false, (0 : Int), [], [])).snd.snd.snd) : Int) else many)).getD (↑(List.length (n0.getD ((0 : Nat) + k.toNat) (false, (0 : Int), [], [])).snd.snd.snd) : Int) - (0 : Int)).toNat ≤ (if (↑(List.length (n0.getD ((0 : Nat) + k.toNat) (false, (0 : Int), [], [])).snd.snd.snd) : Int) < many then
 (↑(List.length (n0.getD ((0 : Nat) + k.toNat) (false, (0 : Int), [], [])).snd.snd.snd) : Int) else many).toNat - (0 : Nat)) && (false || decide ((0 : Nat) + ((if (↑(List.length (n0.getD ((0 : Nat) + k.toNat) (false, (0 : Int), [], [])).snd.snd.snd) : Int) < many then
 (↑(List.length (n0.getD ((0 : Nat) + k.toNat) (false, (0 : Int), [], [])).snd.snd.snd) : Int) else many).toNat - (0 : Nat)) ≤ List.length (n0.getD ((0 : Nat) + k.toNat) (false, (0 : Int), [], [])).snd.snd.snd))) then
 bif decide ((0 : Nat) + List.length r0.fst ≤ List.length r0.fst) && true then
 bif decide ((0 : Nat) + List.length (n0.getD ((0 : Nat) + k.toNat) (false, (0 : Int), [], [])).snd.snd.snd ≤ List.length (n0.getD ((0 : Nat) + k.toNat) (false, (0 : Int), [], [])).snd.snd.snd) && true then
 bif decide ((0 : Nat) + n0.length ≤ (n0.set ((0 : Nat) + k.toNat) ((n0.getD ((0 : Nat) + k.toNat) (false, (0 : Int), [], [])).fst, (n0.getD ((0 : Nat) + k.toNat) (false, (0 : Int), [], [])).snd.fst, List.take (List.length r0.fst) (List.drop (0 : Nat) r0.fst), List.take (List.length (n0.getD ((0 : Nat) + k.toNat) (false, (0 : Int), [], [])).snd.snd.snd) (List.drop (0 : Nat) (n0.getD ((0 : Nat) + k.toNat) (false, (0 : Int), [], [])).snd.snd.snd))).length) && true then
 none else none else none else none else none else bif decide ((0 : Nat) + ((some (if (↑(List.length (n0.getD ((0 : Nat) + k.toNat) (false, (0 : Int), [], [])).snd.snd.snd) : Int) < many then
 (↑(List.length (n0.getD ((0 : Nat) + k.toNat) (false, (0 : Int), [], [])).snd.snd.snd) : Int) else many)).getD (↑(List.length (n0.getD ((0 : Nat) + k.toNat) (false, (0 : Int), [], [])).snd.snd.snd) : Int) - (0 : Int)).toNat ≤ List.length (n0.getD ((0 : Nat) + k.toNat) (false, (0 : Int), [], [])).snd.snd.snd) && (decide (((some (if (↑(List.length (n0.getD ((0 : Nat) + k.toNat) (false, (0 : Int), [], [])).snd.snd.snd) : Int) < many then
 (↑(List.length (n0.getD ((0 : Nat) + k.toNat) (false, (0 : Int), [], [])).snd.snd.snd) : Int) else many)).getD (↑(List.length (n0.getD ((0 : Nat) + k.toNat) (false, (0 : Int), [], [])).snd.snd.snd) : Int) - (0 : Int)).toNat ≤ (if (↑(List.length (n0.getD ((0 : Nat) + k.toNat) (false, (0 : Int), [], [])).snd.snd.snd) : Int) < many then
 (↑(List.length (n0.getD ((0 : Nat) + k.toNat) (false, (0 : Int), [], [])).snd.snd.snd) : Int) else many).toNat - (0 : Nat)) && (false || decide ((0 : Nat) + ((if (↑(List.length (n0.getD ((0 : Nat) + k.toNat) (false, (0 : Int), [], [])).snd.snd.snd) : Int) < many then
 (↑(List.length (n0.getD ((0 : Nat) + k.toNat) (false, (0 : Int), [], [])).snd.snd.snd) : Int) else many).toNat - (0 : Nat)) ≤ List.length (n0.getD ((0 : Nat) + k.toNat) (false, (0 : Int), [], [])).snd.snd.snd))) then
 bif decide ((0 : Nat) + List.length r0.fst ≤ List.length r0.fst) && true then
 bif decide ((0 : Nat) + List.length (n0.getD ((0 : Nat) + k.toNat) (false, (0 : Int), [], [])).snd.snd.snd ≤ List.length (n0.getD ((0 : Nat) + k.toNat) (false, (0 : Int), [], [])).snd.snd.snd) && true then
 bif decide ((0 : Nat) + n0.length ≤ (n0.set ((0 : Nat) + k.toNat) ((n0.getD ((0 : Nat) + k.toNat) (false, (0 : Int), [], [])).fst, (n0.getD ((0 : Nat) + k.toNat) (false, (0 : Int), [], [])).snd.fst, List.take (List.length r0.fst) (List.drop (0 : Nat) r0.fst), List.take (List.length (n0.getD ((0 : Nat) + k.toNat) (false, (0 : Int), [], [])).snd.snd.snd) (List.drop (0 : Nat) (n0.getD ((0 : Nat) + k.toNat) (false, (0 : Int), [], [])).snd.snd.snd))).length) && true then
 none else none else none else none else none else none else bif end0.toNat.beq (1 : Nat) then
 bif decide ((0 : Int) ≤ (0 : Int) ∧ (0 : Int) ≤ (some (if (↑(List.length (n0.getD ((0 : Nat) + k.toNat) (false, (0 : Int), [], [])).snd.snd.snd) : Int) < many then
 (↑(List.length (n0.getD ((0 : Nat) + k.toNat) (false, (0 : Int), [], [])).snd.snd.snd) : Int) else many)).getD (↑(List.length (n0.getD ((0 : Nat) + k.toNat) (false, (0 : Int), [], [])).snd.snd.snd) : Int) ∧ ((some (if (↑(List.length (n0.getD ((0 : Nat) + k.toNat) (false, (0 : Int), [], [])).snd.snd.snd) : Int) < many then
 (↑(List.length (n0.getD ((0 : Nat) + k.toNat) (false, (0 : Int), [], [])).snd.snd.snd) : Int) else many)).getD (↑(List.length (n0.getD ((0 : Nat) + k.toNat) (false, (0 : Int), [], [])).snd.snd.snd) : Int) ≤ if (↑(List.length (n0.getD ((0 : Nat) + k.toNat) (false, (0 : Int), [], [])).snd.snd.snd) : Int) < many then
 (↑(List.length (n0.getD ((0 : Nat) + k.toNat) (false, (0 : Int), [], [])).snd.snd.snd) : Int) else many) ∧ (if (↑(List.length (n0.getD ((0 : Nat) + k.toNat) (false, (0 : Int), [], [])).snd.snd.snd) : Int) < many then
 (↑(List.length (n0.getD ((0 : Nat) + k.toNat) (false, (0 : Int), [], [])).snd.snd.snd) : Int) else many) ≤ (↑(List.length (n0.getD ((0 : Nat) + k.toNat) (false, (0 : Int), [], [])).snd.snd.snd) : Int) ∧ (0 : Nat) + List.length (n0.getD ((0 : Nat) + k.toNat) (false, (0 : Int), [], [])).snd.snd.snd ≤ List.length (n0.getD ((0 : Nat) + k.toNat) (false, (0 : Int), [], [])).snd.snd.snd) then
 bif decide ((↑(if (↑(List.length (n0.getD ((0 : Nat) + k.toNat) (false, (0 : Int), [], [])).snd.snd.snd) : Int) < many then
 (↑(List.length (n0.getD ((0 : Nat) + k.toNat) (false, (0 : Int), [], [])).snd.snd.snd) : Int) else many).toNat : Int) = (0 : Int)) then
 bif decide ((0 : Nat) + ((some (if (↑(List.length (n0.getD ((0 : Nat) + k.toNat) (false, (0 : Int), [], [])).snd.snd.snd) : Int) < many then
 (↑(List.length (n0.getD ((0 : Nat) + k.toNat) (false, (0 : Int), [], [])).snd.snd.snd) : Int) else many)).getD (↑(List.length (n0.getD ((0 : Nat) + k.toNat) (false, (0 : Int), [], [])).snd.snd.snd) : Int) - (0 : Int)).toNat ≤ List.length (n0.getD ((0 : Nat) + k.toNat) (false, (0 : Int), [], [])).snd.snd.snd) && (decide (((some (if (↑(List.length (n0.getD ((0 : Nat) + k.toNat) (false, (0 : Int), [], [])).snd.snd.snd) : Int) < many then
 (↑(List.length (n0.getD ((0 : Nat) + k.toNat) (false, (0 : Int), [], [])).snd.snd.snd) : Int) else many)).getD (↑(List.length (n0.getD ((0 : Nat) + k.toNat) (false, (0 : Int), [], [])).snd.snd.snd) : Int) - (0 : Int)).toNat ≤ (if (↑(List.length (n0.getD ((0 : Nat) + k.toNat) (false, (0 : Int), [], [])).snd.snd.snd) : Int) < many then
 (↑(List.length (n0.getD ((0 : Nat) + k.toNat) (false, (0 : Int), [], [])).snd.snd.snd) : Int) else many).toNat - (0 : Nat)) && (false || decide ((0 : Nat) + ((if (↑(List.length (n0.getD ((0 : Nat) + k.toNat) (false, (0 : Int), [], [])).snd.snd.snd) : Int) < many then
 (↑(List.length (n0.getD ((0 : Nat) + k.toNat) (false, (0 : Int), [], [])).snd.snd.snd) : Int) else many).toNat - (0 : Nat)) ≤ List.length (n0.getD ((0 : Nat) + k.toNat) (false, (0 : Int), [], [])).snd.snd.snd))) then
 bif decide ((0 : Nat) + (n0.getD ((0 : Nat) + k.toNat) (false, (0 : Int), [], [])).snd.snd.fst.length ≤ (n0.getD ((0 : Nat) + k.toNat) (false, (0 : Int), [], [])).snd.snd.fst.length) && true then
 bif decide ((0 : Nat) + List.length r0.fst ≤ List.length r0.fst) && true then
 bif decide ((0 : Nat) + n0.length ≤ (n0.set ((0 : Nat) + k.toNat) ((n0.getD ((0 : Nat) + k.toNat) (false, (0 : Int), [], [])).fst, (n0.getD ((0 : Nat) + k.toNat) (false, (0 : Int), [], [])).snd.fst, List.take (n0.getD ((0 : Nat) + k.toNat) (false, (0 : Int), [], [])).snd.snd.fst.length (List.drop (0 : Nat) (n0.getD ((0 : Nat) + k.toNat) (false, (0 : Int), [], [])).snd.snd.fst), List.take (List.length r0.fst) (List.drop (0 : Nat) r0.fst))).length) && true then
 some ((List.take ((some (if (↑(List.length (n0.getD ((0 : Nat) + k.toNat) (false, (0 : Int), [], [])).snd.snd.snd) : Int) < many then
 (↑(List.length (n0.getD ((0 : Nat) + k.toNat) (false, (0 : Int), [], [])).snd.snd.snd) : Int) else many)).getD (↑(List.length (n0.getD ((0 : Nat) + k.toNat) (false, (0 : Int), [], [])).snd.snd.snd) : Int) - (0 : Int)).toNat (List.drop (0 : Nat) (n0.getD ((0 : Nat) + k.toNat) (false, (0 : Int), [], [])).snd.snd.snd), (0 : Int)), List.take n0.length (List.drop (0 : Nat) (n0.set ((0 : Nat) + k.toNat) ((n0.getD ((0 : Nat) + k.toNat) (false, (0 : Int), [], [])).fst, (n0.getD ((0 : Nat) + k.toNat) (false, (0 : Int), [], [])).snd.fst, List.take (n0.getD ((0 : Nat) + k.toNat) (false, (0 : Int), [], [])).snd.snd.fst.length (List.drop (0 : Nat) (n0.getD ((0 : Nat) + k.toNat) (false, (0 : Int), [], [])).snd.snd.fst), List.take (List.length r0.fst) (List.drop (0 : Nat) r0.fst)))), n1) else none else none else none else none else bif decide ((0 : Nat) + ((some (if (↑(List.length (n0.getD ((0 : Nat) + k.toNat) (false, (0 : Int), [], [])).snd.snd.snd) : Int) < many then
 (↑(List.length (n0.getD ((0 : Nat) + k.toNat) (false, (0 : Int), [], [])).snd.snd.snd) : Int) else many)).getD (↑(List.length (n0.getD ((0 : Nat) + k.toNat) (false, (0 : Int), [], [])).snd.snd.snd) : Int) - (0 : Int)).toNat ≤ List.length (n0.getD ((0 : Nat) + k.toNat) (false, (0 : Int), [], [])).snd.snd.snd) && (decide (((some (if (↑(List.length (n0.getD ((0 : Nat) + k.toNat) (false, (0 : Int), [], [])).snd.snd.snd) : Int) < many then
 (↑(List.length (n0.getD ((0 : Nat) + k.toNat) (false, (0 : Int), [], [])).snd.snd.snd) : Int) else many)).getD (↑(List.length (n0.getD ((0 : Nat) + k.toNat) (false, (0 : Int), [], [])).snd.snd.snd) : Int) - (0 : Int)).toNat ≤ (if (↑(List.length (n0.getD ((0 : Nat) + k.toNat) (false, (0 : Int), [], [])).snd.snd.snd) : Int) < many then
 (↑(List.length (n0.getD ((0 : Nat) + k.toNat) (false, (0 : Int), [], [])).snd.snd.snd) : Int) else many).toNat - (0 : Nat)) && (false || decide ((0 : Nat) + ((if (↑(List.length (n0.getD ((0 : Nat) + k.toNat) (false, (0 : Int), [], [])).snd.snd.snd) : Int) < many then
 (↑(List.length (n0.getD ((0 : Nat) + k.toNat) (false, (0 : Int), [], [])).snd.snd.snd) : Int) else many).toNat - (0 : Nat)) ≤ List.length (n0.getD ((0 : Nat) + k.toNat) (false, (0 : Int), [], [])).snd.snd.snd))) then
 bif decide ((0 : Nat) + (n0.getD ((0 : Nat) + k.toNat) (false, (0 : Int), [], [])).snd.snd.fst.length ≤ (n0.getD ((0 : Nat) + k.toNat) (false, (0 : Int), [], [])).snd.snd.fst.length) && true then
 bif decide ((0 : Nat) + List.length r0.fst ≤ List.length r0.fst) && true then
 bif decide ((0 : Nat) + n0.length ≤ (n0.set ((0 : Nat) + k.toNat) ((n0.getD ((0 : Nat) + k.toNat) (false, (0 : Int), [], [])).fst, (n0.getD ((0 : Nat) + k.toNat) (false, (0 : Int), [], [])).snd.fst, List.take (n0.getD ((0 : Nat) + k.toNat) (false, (0 : Int), [], [])).snd.snd.fst.length (List.drop (0 : Nat) (n0.getD ((0 : Nat) + k.toNat) (false, (0 : Int), [], [])).snd.snd.fst), List.take (List.length r0.fst) (List.drop (0 : Nat) r0.fst))).length) && true then
 some ((List.take ((some (if (↑(List.length (n0.getD ((0 : Nat) + k.toNat) (false, (0 : Int), [], [])).snd.snd.snd) : Int) < many then
 (↑(List.length (n0.getD ((0 : Nat) + k.toNat) (false, (0 : Int), [], [])).snd.snd.snd) : Int) else many)).getD (↑(List.length (n0.getD ((0 : Nat) + k.toNat) (false, (0 : Int), [], [])).snd.snd.snd) : Int) - (0 : Int)).toNat (List.drop (0 : Nat) (n0.getD ((0 : Nat) + k.toNat) (false, (0 : Int), [], [])).snd.snd.snd), (0 : Int)), List.take n0.length (List.drop (0 : Nat) (n0.set ((0 : Nat) + k.toNat) ((n0.getD ((0 : Nat) + k.toNat) (false, (0 : Int), [], [])).fst, (n0.getD ((0 : Nat) + k.toNat) (false, (0 : Int), [], [])).snd.fst, List.take (n0.getD ((0 : Nat) + k.toNat) (false, (0 : Int), [], [])).snd.snd.fst.length (List.drop (0 : Nat) (n0.getD ((0 : Nat) + k.toNat) (false, (0 : Int), [], [])).snd.snd.fst), List.take (List.length r0.fst) (List.drop (0 : Nat) r0.fst)))), n1) else none else none else none else none else none else none else none else none else bif decide ((0 : Nat) + (if (↑(List.length (n0.getD ((0 : Nat) + k.toNat) (false, (0 : Int), [], [])).snd.snd.snd) : Int) < many then
 (↑(List.length (n0.getD ((0 : Nat) + k.toNat) (false, (0 : Int), [], [])).snd.snd.snd) : Int) else many).toNat + (none.getD (↑(List.length (n0.getD ((0 : Nat) + k.toNat) (false, (0 : Int), [], [])).snd.snd.snd) : Int) - if (↑(List.length (n0.getD ((0 : Nat) + k.toNat) (false, (0 : Int), [], [])).snd.snd.snd) : Int) < many then
 (↑(List.length (n0.getD ((0 : Nat) + k.toNat) (false, (0 : Int), [], [])).snd.snd.snd) : Int) else many).toNat ≤ List.length (n0.getD ((0 : Nat) + k.toNat) (false, (0 : Int), [], [])).snd.snd.snd) && true then
 (x28 (List.take (none.getD (↑(List.length (n0.getD ((0 : Nat) + k.toNat) (false, (0 : Int), [], [])).snd.snd.snd) : Int) - if (↑(List.length (n0.getD ((0 : Nat) + k.toNat) (false, (0 : Int), [], [])).snd.snd.snd) : Int) < many then
 (↑(List.length (n0.getD ((0 : Nat) + k.toNat) (false, (0 : Int), [], [])).snd.snd.snd) : Int) else many).toNat (List.drop ((0 : Nat) + (if (↑(List.length (n0.getD ((0 : Nat) + k.toNat) (false, (0 : Int), [], [])).snd.snd.snd) : Int) < many then
 (↑(List.length (n0.getD ((0 : Nat) + k.toNat) (false, (0 : Int), [], [])).snd.snd.snd) : Int) else many).toNat) (n0.getD ((0 : Nat) + k.toNat) (false, (0 : Int), [], [])).snd.snd.snd))).bind fun r0 => bif decide ((0 : Int) ≤ end0 ∧ end0 < (2 : Int)) then
 bif end0.toNat.beq (0 : Nat) then
 bif decide ((0 : Int) ≤ (0 : Int) ∧ (0 : Int) ≤ (some (if (↑(List.length (n0.getD ((0 : Nat) + k.toNat) (false, (0 : Int), [], [])).snd.snd.snd) : Int) < many then
 (↑(List.length (n0.getD ((0 : Nat) + k.toNat) (false, (0 : Int), [], [])).snd.snd.snd) : Int) else many)).getD (↑(List.length (n0.getD ((0 : Nat) + k.toNat) (false, (0 : Int), [], [])).snd.snd.snd) : Int) ∧ ((some (if (↑(List.length (n0.getD ((0 : Nat) + k.toNat) (false, (0 : Int), [], [])).snd.snd.snd) : Int) < many then
 (↑(List.length (n0.getD ((0 : Nat) + k.toNat) (false, (0 : Int), [], [])).snd.snd.snd) : Int) else many)).getD (↑(List.length (n0.getD ((0 : Nat) + k.toNat) (false, (0 : Int), [], [])).snd.snd.snd) : Int) ≤ if (↑(List.length (n0.getD ((0 : Nat) + k.toNat) (false, (0 : Int), [], [])).snd.snd.snd) : Int) < many then
 (↑(List.length (n0.getD ((0 : Nat) + k.toNat) (false, (0 : Int), [], [])).snd.snd.snd) : Int) else many) ∧ (if (↑(List.length (n0.getD ((0 : Nat) + k.toNat) (false, (0 : Int), [], [])).snd.snd.snd) : Int) < many then
 (↑(List.length (n0.getD ((0 : Nat) + k.toNat) (false, (0 : Int), [], [])).snd.snd.snd) : Int) else many) ≤ (↑(List.length (n0.getD ((0 : Nat) + k.toNat) (false, (0 : Int), [], [])).snd.snd.snd) : Int) ∧ (0 : Nat) + List.length (n0.getD ((0 : Nat) + k.toNat) (false, (0 : Int), [], [])).snd.snd.snd ≤ List.length (n0.getD ((0 : Nat) + k.toNat) (false, (0 : Int), [], [])).snd.snd.snd) then
 bif decide ((↑(if (↑(List.length (n0.getD ((0 : Nat) + k.toNat) (false, (0 : Int), [], [])).snd.snd.snd) : Int) < many then
 (↑(List.length (n0.getD ((0 : Nat) + k.toNat) (false, (0 : Int), [], [])).snd.snd.snd) : Int) else many).toNat : Int) = (0 : Int)) then
 bif decide ((0 : Nat) + ((some (if (↑(List.length (n0.getD ((0 : Nat) + k.toNat) (false, (0 : Int), [], [])).snd.snd.snd) : Int) < many then
 (↑(List.length (n0.getD ((0 : Nat) + k.toNat) (false, (0 : Int), [], [])).snd.snd.snd) : Int) else many)).getD (↑(List.length (n0.getD ((0 : Nat) + k.toNat) (false, (0 : Int), [], [])).snd.snd.snd) : Int) - (0 : Int)).toNat ≤ List.length (n0.getD ((0 : Nat) + k.toNat) (false, (0 : Int), [], [])).snd.snd.snd) && (decide (((some (if (↑(List.length (n0.getD ((0 : Nat) + k.toNat) (false, (0 : Int), [], [])).snd.snd.snd) : Int) < many then
 (↑(List.length (n0.getD ((0 : Nat) + k.toNat) (false, (0 : Int), [], [])).snd.snd.snd) : Int) else many)).getD (↑(List.length (n0.getD ((0 : Nat) + k.toNat) (false, (0 : Int), [], [])).snd.snd.snd) : Int) - (0 : Int)).toNat ≤ (if (↑(List.length (n0.getD ((0 : Nat) + k.toNat) (false, (0 : Int), [], [])).snd.snd.snd) : Int) < many then
 (↑(List.length (n0.getD ((0 : Nat) + k.toNat) (false, (0 : Int), [], [])).snd.snd.snd) : Int) else many).toNat - (0 : Nat)) && (false || decide ((0 : Nat) + ((if (↑(List.length (n0.getD ((0 : Nat) + k.toNat) (false, (0 : Int), [], [])).snd.snd.snd) : Int) < many then
 (↑(List.length (n0.getD ((0 : Nat) + k.toNat) (false, (0 : Int), [], [])).snd.snd.snd) : Int) else many).toNat - (0 : Nat)) ≤ List.length (n0.getD ((0 : Nat) + k.toNat) (false, (0 : Int), [], [])).snd.snd.snd))) then
 bif decide ((0 : Nat) + List.length r0.fst ≤ List.length r0.fst) && true then
 bif decide ((0 : Nat) + List.length (n0.getD ((0 : Nat) + k.toNat) (false, (0 : Int), [], [])).snd.snd.snd ≤ List.length (n0.getD ((0 : Nat) + k.toNat) (false, (0 : Int), [], [])).snd.snd.snd) && true then
 bif decide ((0 : Nat) + n0.length ≤ (n0.set ((0 : Nat) + k.toNat) ((n0.getD ((0 : Nat) + k.toNat) (false, (0 : Int), [], [])).fst, (n0.getD ((0 : Nat) + k.toNat) (false, (0 : Int), [], [])).snd.fst, List.take (List.length r0.fst) (List.drop (0 : Nat) r0.fst), List.take (List.length (n0.getD ((0 : Nat) + k.toNat) (false, (0 : Int), [], [])).snd.snd.snd) (List.drop (0 : Nat) (n0.getD ((0 : Nat) + k.toNat) (false, (0 : Int), [], [])).snd.snd.snd))).length) && true then
 none else none else none else none else none else bif decide ((0 : Nat) + ((some (if (↑(List.length (n0.getD ((0 : Nat) + k.toNat) (false, (0 : Int), [], [])).snd.snd.snd) : Int) < many then
 (↑(List.length (n0.getD ((0 : Nat) + k.toNat) (false, (0 : Int), [], [])).snd.snd.snd) : Int) else many)).getD (↑(List.length (n0.getD ((0 : Nat) + k.toNat) (false, (0 : Int), [], [])).snd.snd.snd) : Int) - (0 : Int)).toNat ≤ List.length (n0.getD ((0 : Nat) + k.toNat) (false, (0 : Int), [], [])).snd.snd.snd) && (decide (((some (if (↑(List.length (n0.getD ((0 : Nat) + k.toNat) (false, (0 : Int), [], [])).snd.snd.snd) : Int) < many then
 (↑(List.length (n0.getD ((0 : Nat) + k.toNat) (false, (0 : Int), [], [])).snd.snd.snd) : Int) else many)).getD (↑(List.length (n0.getD ((0 : Nat) + k.toNat) (false, (0 : Int), [], [])).snd.snd.snd) : Int) - (0 : Int)).toNat ≤ (if (↑(List.length (n0.getD ((0 : Nat) + k.toNat) (false, (0 : Int), [], [])).snd.snd.snd) : Int) < many then
 (↑(List.length (n0.getD ((0 : Nat) + k.toNat) (false, (0 : Int), [], [])).snd.snd.snd) : Int) else many).toNat - (0 : Nat)) && (false || decide ((0 : Nat) + ((if (↑(List.length (n0.getD ((0 : Nat) + k.toNat) (false, (0 : Int), [], [])).snd.snd.snd) : Int) < many then
 (↑(List.length (n0.getD ((0 : Nat) + k.toNat) (false, (0 : Int), [], [])).snd.snd.snd) : Int) else many).toNat - (0 : Nat)) ≤ List.length (n0.getD ((0 : Nat) + k.toNat) (false, (0 : Int), [], [])).snd.snd.snd))) then
 bif decide ((0 : Nat) + List.length r0.fst ≤ List.length r0.fst) && true then
 bif decide ((0 : Nat) + List.length (n0.getD ((0 : Nat) + k.toNat) (false, (0 : Int), [], [])).snd.snd.snd ≤ List.length (n0.getD ((0 : Nat) + k.toNat) (false, (0 : Int), [], [])).snd.snd.snd) && true then
 bif decide ((0 : Nat) + n0.length ≤ (n0.set ((0 : Nat) + k.toNat) ((n0.getD ((0 : Nat) + k.toNat) (false, (0 : Int), [], [])).fst, (n0.getD ((0 : Nat) + k.toNat) (false, (0 : Int), [], [])).snd.fst, List.take (List.length r0.fst) (List.drop (0 : Nat) r0.fst), List.take (List.length (n0.getD ((0 : Nat) + k.toNat) (false, (0 : Int), [], [])).snd.snd.snd) (List.drop (0 : Nat) (n0.getD ((0 : Nat) + k.toNat) (false, (0 : Int), [], [])).snd.snd.snd))).length) && true then
 none else none else none else none else none else none else bif end0.toNat.beq (1 : Nat) then
 bif decide ((0 : Int) ≤ (0 : Int) ∧ (0 : Int) ≤ (some (if (↑(List.length (n0.getD ((0 : Nat) + k.toNat) (false, (0 : Int), [], [])).snd.snd.snd) : Int) < many then
 (↑(List.length (n0.getD ((0 : Nat) + k.toNat) (false, (0 : Int), [], [])).snd.snd.snd) : Int) else many)).getD (↑(List.length (n0.getD ((0 : Nat) + k.toNat) (false, (0 : Int), [], [])).snd.snd.snd) : Int) ∧ ((some (if (↑(List.length (n0.getD ((0 : Nat) + k.toNat) (false, (0 : Int), [], [])).snd.snd.snd) : Int) < many then
 (↑(List.length (n0.getD ((0 : Nat) + k.toNat) (false, (0 : Int), [], [])).snd.snd.snd) : Int) else many)).getD (↑(List.length (n0.getD ((0 : Nat) + k.toNat) (false, (0 : Int), [], [])).snd.snd.snd) : Int) ≤ if (↑(List.length (n0.getD ((0 : Nat) + k.toNat) (false, (0 : Int), [], [])).snd.snd.snd) : Int) < many then
 (↑(List.length (n0.getD ((0 : Nat) + k.toNat) (false, (0 : Int), [], [])).snd.snd.snd) : Int) else many) ∧ (if (↑(List.length (n0.getD ((0 : Nat) + k.toNat) (false, (0 : Int), [], [])).snd.snd.snd) : Int) < many then
 (↑(List.length (n0.getD ((0 : Nat) + k.toNat) (false, (0 : Int), [], [])).snd.snd.snd) : Int) else many) ≤ (↑(List.length (n0.getD ((0 : Nat) + k.toNat) (false, (0 : Int), [], [])).snd.snd.snd) : Int) ∧ (0 : Nat) + List.length (n0.getD ((0 : Nat) + k.toNat) (false, (0 : Int), [], [])).snd.snd.snd ≤ List.length (n0.getD ((0 : Nat) + k.toNat) (false, (0 : Int), [], [])).snd.snd.snd) then
 bif decide ((↑(if (↑(List.length (n0.getD ((0 : Nat) + k.toNat) (false, (0 : Int), [], [])).snd.snd.snd) : Int) < many then
 (↑(List.length (n0.getD ((0 : Nat) + k.toNat) (false, (0 : Int), [], [])).snd.snd.snd) : Int) else many).toNat : Int) = (0 : Int)) then
 bif decide ((0 : Nat) + ((some (if (↑(List.length (n0.getD ((0 : Nat) + k.toNat) (false, (0 : Int), [], [])).snd.snd.snd) : Int) < many then
 (↑(List.length (n0.getD ((0 : Nat) + k.toNat) (false, (0 : Int), [], [])).snd.snd.snd) : Int) else many)).getD (↑(List.length (n0.getD ((0 : Nat) + k.toNat) (false, (0 : Int), [], [])).snd.snd.snd) : Int) - (0 : Int)).toNat ≤ List.length (n0.getD ((0 : Nat) + k.toNat) (false, (0 : Int), [], [])).snd.snd.snd) && (decide (((some (if (↑(List.length (n0.getD ((0 : Nat) + k.toNat) (false, (0 : Int), [], [])).snd.snd.snd) : Int) < many then
 (↑(List.length (n0.getD ((0 : Nat) + k.toNat) (false, (0 : Int), [], [])).snd.snd.snd) : Int) else many)).getD (↑(List.length (n0.getD ((0 : Nat) + k.toNat) (false, (0 : Int), [], [])).snd.snd.snd) : Int) - (0 : Int)).toNat ≤ (if (↑(List.length (n0.getD ((0 : Nat) + k.toNat) (false, (0 : Int), [], [])).snd.snd.snd) : Int) < many then
 (↑(List.length (n0.getD ((0 : Nat) + k.toNat) (false, (0 : Int), [], [])).snd.snd.snd) : Int) else many).toNat - (0 : Nat)) && (false || decide ((0 : Nat) + ((if (↑(List.length (n0.getD ((0 : Nat) + k.toNat) (false, (0 : Int), [], [])).snd.snd.snd) : Int) < many then
 (↑(List.length (n0.getD ((0 : Nat) + k.toNat) (false, (0 : Int), [], [])).snd.snd.snd) : Int) else many).toNat - (0 : Nat)) ≤ List.length (n0.getD ((0 : Nat) + k.toNat) (false, (0 : Int), [], [])).snd.snd.snd))) then
 bif decide ((0 : Nat) + (n0.getD ((0 : Nat) + k.toNat) (false, (0 : Int), [], [])).snd.snd.fst.length ≤ (n0.getD ((0 : Nat) + k.toNat) (false, (0 : Int), [], [])).snd.snd.fst.length) && true then
 bif decide ((0 : Nat) + List.length r0.fst ≤ List.length r0.fst) && true then
 bif decide ((0 : Nat) + n0.length ≤ (n0.set ((0 : Nat) + k.toNat) ((n0.getD ((0 : Nat) + k.toNat) (false, (0 : Int), [], [])).fst, (n0.getD ((0 : Nat) + k.toNat) (false, (0 : Int), [], [])).snd.fst, List.take (n0.getD ((0 : Nat) + k.toNat) (false, (0 : Int), [], [])).snd.snd.fst.length (List.drop (0 : Nat) (n0.getD ((0 : Nat) + k.toNat) (false, (0 : Int), [], [])).snd.snd.fst), List.take (List.length r0.fst) (List.drop (0 : Nat) r0.fst))).length) && true then
 some ((List.take ((some (if (↑(List.length (n0.getD ((0 : Nat) + k.toNat) (false, (0 : Int), [], [])).snd.snd.snd) : Int) < many then
 (↑(List.length (n0.getD ((0 : Nat) + k.toNat) (false, (0 : Int), [], [])).snd.snd.snd) : Int) else many)).getD (↑(List.length (n0.getD ((0 : Nat) + k.toNat) (false, (0 : Int), [], [])).snd.snd.snd) : Int) - (0 : Int)).toNat (List.drop (0 : Nat) (n0.getD ((0 : Nat) + k.toNat) (false, (0 : Int), [], [])).snd.snd.snd), (0 : Int)), List.take n0.length (List.drop (0 : Nat) (n0.set ((0 : Nat) + k.toNat) ((n0.getD ((0 : Nat) + k.toNat) (false, (0 : Int), [], [])).fst, (n0.getD ((0 : Nat) + k.toNat) (false, (0 : Int), [], [])).snd.fst, List.take (n0.getD ((0 : Nat) + k.toNat) (false, (0 : Int), [], [])).snd.snd.fst.length (List.drop (0 : Nat) (n0.getD ((0 : Nat) + k.toNat) (false, (0 : Int), [], [])).snd.snd.fst), List.take (List.length r0.fst) (List.drop (0 : Nat) r0.fst)))), n1) else none else none else none else none else bif decide ((0 : Nat) + ((some (if (↑(List.length (n0.getD ((0 : Nat) + k.toNat) (false, (0 : Int), [], [])).snd.snd.snd) : Int) < many then
 (↑(List.length (n0.getD ((0 : Nat) + k.toNat) (false, (0 : Int), [], [])).snd.snd.snd) : Int) else many)).getD (↑(List.length (n0.getD ((0 : Nat) + k.toNat) (false, (0 : Int), [], [])).snd.snd.snd) : Int) - (0 : Int)).toNat ≤ List.length (n0.getD ((0 : Nat) + k.toNat) (false, (0 : Int), [], [])).snd.snd.snd) && (decide (((some (if (↑(List.length (n0.getD ((0 : Nat) + k.toNat) (false, (0 : Int), [], [])).snd.snd.snd) : Int) < many then
 (↑(List.length (n0.getD ((0 : Nat) + k.toNat) (false, (0 : Int), [], [])).snd.snd.snd) : Int) else many)).getD (↑(List.length (n0.getD ((0 : Nat) + k.toNat) (false, (0 : Int), [], [])).snd.snd.snd) : Int) - (0 : Int)).toNat ≤ (if (↑(List.length (n0.getD ((0 : Nat) + k.toNat) (false, (0 : Int), [], [])).snd.snd.snd) : Int) < many then
 (↑(List.length (n0.getD ((0 : Nat) + k.toNat) (false, (0 : Int), [], [])).snd.snd.snd) : Int) else many).toNat - (0 : Nat)) && (false || decide ((0 : Nat) + ((if (↑(List.length (n0.getD ((0 : Nat) + k.toNat) (false, (0 : Int), [], [])).snd.snd.snd) : Int) < many then
 (↑(List.length (n0.getD ((0 : Nat) + k.toNat) (false, (0 : Int), [], [])).snd.snd.snd) : Int) else many).toNat - (0 : Nat)) ≤ List.length (n0.getD ((0 : Nat) + k.toNat) (false, (0 : Int), [], [])).snd.snd.snd))) then
 bif decide ((0 : Nat) + (n0.getD ((0 : Nat) + k.toNat) (false, (0 : Int), [], [])).snd.snd.fst.length ≤ (n0.getD ((0 : Nat) + k.toNat) (false, (0 : Int), [], [])).snd.snd.fst.length) && true then
 bif decide ((0 : Nat) + List.length r0.fst ≤ List.length r0.fst) && true then
 bif decide ((0 : Nat) + n0.length ≤ (n0.set ((0 : Nat) + k.toNat) ((n0.getD ((0 : Nat) + k.toNat) (false, (0 : Int), [], [])).fst, (n0.getD ((0 : Nat) + k.toNat) (false, (0 : Int), [], [])).snd.fst, List.take (n0.getD ((0 : Nat) + k.toNat) (false, (0 : Int), [], [])).snd.snd.fst.length (List.drop (0 : Nat) (n0.getD ((0 : Nat) + k.toNat) (false, (0 : Int), [], [])).snd.snd.fst), List.take (List.length r0.fst) (List.drop (0 : Nat) r0.fst))).length) && true then
 some ((List.take ((some (if (↑(List.length (n0.getD ((0 : Nat) + k.toNat) (false, (0 : Int), [], [])).snd.snd.snd) : Int) < many then
 (↑(List.length (n0.getD ((0 : Nat) + k.toNat) (false, (0 : Int), [], [])).snd.snd.snd) : Int) else many)).getD (↑(List.length (n0.getD ((0 : Nat) + k.toNat) (false, (0 : Int), [], [])).snd.snd.snd) : Int) - (0 : Int)).toNat (List.drop (0 : Nat) (n0.getD ((0 : Nat) + k.toNat) (false, (0 : Int), [], [])).snd.snd.snd), (0 : Int)), List.take n0.length (List.drop (0 : Nat) (n0.set ((0 : Nat) + k.toNat) ((n0.getD ((0 : Nat) + k.toNat) (false, (0 : Int), [], [])).fst, (n0.getD ((0 : Nat) + k.toNat) (false, (0 : Int), [], [])).snd.fst, List.take (n0.getD ((0 : Nat) + k.toNat) (false, (0 : Int), [], [])).snd.snd.fst.length (List.drop (0 : Nat) (n0.getD ((0 : Nat) + k.toNat) (false, (0 : Int), [], [])).snd.snd.fst), List.take (List.length r0.fst) (List.drop (0 : Nat) r0.fst)))), n1) else none else none else none else none else none else none else none else none else none else none else none else bif !decide (many ≥ (0 : Int)) then
 bif decide ((0 : Nat) + (n0.getD ((0 : Nat) + k.toNat) (false, (0 : Int), [], [])).snd.snd.fst.length ≤ (n0.getD ((0 : Nat) + k.toNat) (false, (0 : Int), [], [])).snd.snd.fst.length) && true then
 bif decide ((0 : Nat) + List.length (n0.getD ((0 : Nat) + k.toNat) (false, (0 : Int), [], [])).snd.snd.snd ≤ List.length (n0.getD ((0 : Nat) + k.toNat) (false, (0 : Int), [], [])).snd.snd.snd) && true then
 bif decide ((0 : Nat) + n0.length ≤ (n0.set ((0 : Nat) + k.toNat) ((n0.getD ((0 : Nat) + k.toNat) (false, (0 : Int), [], [])).fst, (n0.getD ((0 : Nat) + k.toNat) (false, (0 : Int), [], [])).snd.fst, List.take (n0.getD ((0 : Nat) + k.toNat) (false, (0 : Int), [], [])).snd.snd.fst.length (List.drop (0 : Nat) (n0.getD ((0 : Nat) + k.toNat) (false, (0 : Int), [], [])).snd.snd.fst), List.take (List.length (n0.getD ((0 : Nat) + k.toNat) (false, (0 : Int), [], [])).snd.snd.snd) (List.drop (0 : Nat) (n0.getD ((0 : Nat) + k.toNat) (false, (0 : Int), [], [])).snd.snd.snd))).length) && true then
 some (([], (1 : Int)), List.take n0.length (List.drop (0 : Nat) (n0.set ((0 : Nat) + k.toNat) ((n0.getD ((0 : Nat) + k.toNat) (false, (0 : Int), [], [])).fst, (n0.getD ((0 : Nat) + k.toNat) (false, (0 : Int), [], [])).snd.fst, List.take (n0.getD ((0 : Nat) + k.toNat) (false, (0 : Int), [], [])).snd.snd.fst.length (List.drop (0 : Nat) (n0.getD ((0 : Nat) + k.toNat) (false, (0 : Int), [], [])).snd.snd.fst), List.take (List.length (n0.getD ((0 : Nat) + k.toNat) (false, (0 : Int), [], [])).snd.snd.snd) (List.drop (0 : Nat) (n0.getD ((0 : Nat) + k.toNat) (false, (0 : Int), [], [])).snd.snd.snd)))), n1) else none else none else none else bif !(n0.getD ((0 : Nat) + k.toNat) (false, (0 : Int), [], [])).fst then
 bif decide ((0 : Nat) + (n0.getD ((0 : Nat) + k.toNat) (false, (0 : Int), [], [])).snd.snd.fst.length ≤ (n0.getD ((0 : Nat) + k.toNat) (false, (0 : Int), [], [])).snd.snd.fst.length) && true then
 bif decide ((0 : Nat) + List.length (n0.getD ((0 : Nat) + k.toNat) (false, (0 : Int), [], [])).snd.snd.snd ≤ List.length (n0.getD ((0 : Nat) + k.toNat) (false, (0 : Int), [], [])).snd.snd.snd) && true then
 bif decide ((0 : Nat) + n0.length ≤ (n0.set ((0 : Nat) + k.toNat) ((n0.getD ((0 : Nat) + k.toNat) (false, (0 : Int), [], [])).fst, (n0.getD ((0 : Nat) + k.toNat) (false, (0 : Int), [], [])).snd.fst, List.take (n0.getD ((0 : Nat) + k.toNat) (false, (0 : Int), [], [])).snd.snd.fst.length (List.drop (0 : Nat) (n0.getD ((0 : Nat) + k.toNat) (false, (0 : Int), [], [])).snd.snd.fst), List.take (List.length (n0.getD ((0 : Nat) + k.toNat) (false, (0 : Int), [], [])).snd.snd.snd) (List.drop (0 : Nat) (n0.getD ((0 : Nat) + k.toNat) (false, (0 : Int), [], [])).snd.snd.snd))).length) && true then
 some (([], (10 : Int)), List.take n0.length (List.drop (0 : Nat) (n0.set ((0 : Nat) + k.toNat) ((n0.getD ((0 : Nat) + k.toNat) (false, (0 : Int), [], [])).fst, (n0.getD ((0 : Nat) + k.toNat) (false, (0 : Int), [], [])).snd.fst, List.take (n0.getD ((0 : Nat) + k.toNat) (false, (0 : Int), [], [])).snd.snd.fst.length (List.drop (0 : Nat) (n0.getD ((0 : Nat) + k.toNat) (false, (0 : Int), [], [])).snd.snd.fst), List.take (List.length (n0.getD ((0 : Nat) + k.toNat) (false, (0 : Int), [], [])).snd.snd.snd) (List.drop (0 : Nat) (n0.getD ((0 : Nat) + k.toNat) (false, (0 : Int), [], [])).snd.snd.snd)))), n1) else none else none else none else bif decide ((0 : Int) ≤ end0 ∧ end0 < (2 : Int)) then
 bif end0.toNat.beq (0 : Nat) then
 bif decide (((0 : Int) ≤ if (↑(n0.getD ((0 : Nat) + k.toNat) (false, (0 : Int), [], [])).snd.snd.fst.length : Int) < many then
 (↑(n0.getD ((0 : Nat) + k.toNat) (false, (0 : Int), [], [])).snd.snd.fst.length : Int) else many) ∧ (if (↑(n0.getD ((0 : Nat) + k.toNat) (false, (0 : Int), [], [])).snd.snd.fst.length : Int) < many then
 (↑(n0.getD ((0 : Nat) + k.toNat) (false, (0 : Int), [], [])).snd.snd.fst.length : Int) else many) ≤ none.getD (↑(n0.getD ((0 : Nat) + k.toNat) (false, (0 : Int), [], [])).snd.snd.fst.length : Int) ∧ none.getD (↑(n0.getD ((0 : Nat) + k.toNat) (false, (0 : Int), [], [])).snd.snd.fst.length : Int) ≤ (↑(n0.getD ((0 : Nat) + k.toNat) (false, (0 : Int), [], [])).snd.snd.fst.length : Int) ∧ (0 : Nat) + (n0.getD ((0 : Nat) + k.toNat) (false, (0 : Int), [], [])).snd.snd.fst.length ≤ (n0.getD ((0 : Nat) + k.toNat) (false, (0 : Int), [], [])).snd.snd.fst.length) then
 bif decide ((if (↑(n0.getD ((0 : Nat) + k.toNat) (false, (0 : Int), [], [])).snd.snd.fst.length : Int) < many then
 (↑(n0.getD ((0 : Nat) + k.toNat) (false, (0 : Int), [], [])).snd.snd.fst.length : Int) else many) = (↑(n0.getD ((0 : Nat) + k.toNat) (false, (0 : Int), [], [])).snd.snd.fst.length : Int)) then
 bif decide ((0 : Nat) ≤ (0 : Nat) + (n0.getD ((0 : Nat) + k.toNat) (false, (0 : Int), [], [])).snd.snd.fst.length ∧ (0 : Nat) + (n0.getD ((0 : Nat) + k.toNat) (false, (0 : Int), [], [])).snd.snd.fst.length ≤ (n0.getD ((0 : Nat) + k.toNat) (false, (0 : Int), [], [])).snd.snd.fst.length) then
 (x28 []).bind fun r0 => bif decide ((0 : Int) ≤ end0 ∧ end0 < (2 : Int)) then
 bif end0.toNat.beq (0 : Nat) then
 bif decide ((0 : Int) ≤ (0 : Int) ∧ (0 : Int) ≤ (some (if (↑(n0.getD ((0 : Nat) + k.toNat) (false, (0 : Int), [], [])).snd.snd.fst.length : Int) < many then
 (↑(n0.getD ((0 : Nat) + k.toNat) (false, (0 : Int), [], [])).snd.snd.fst.length : Int) else many)).getD (↑(n0.getD ((0 : Nat) + k.toNat) (false, (0 : Int), [], [])).snd.snd.fst.length : Int) ∧ ((some (if (↑(n0.getD ((0 : Nat) + k.toNat) (false, (0 : Int), [], [])).snd.snd.fst.length : Int) < many then
 (↑(n0.getD ((0 : Nat) + k.toNat) (false, (0 : Int), [], [])).snd.snd.fst.length : Int) else many)).getD (↑(n0.getD ((0 : Nat) + k.toNat) (false, (0 : Int), [], [])).snd.snd.fst.length : Int) ≤ if (↑(n0.getD ((0 : Nat) + k.toNat) (false, (0 : Int), [], [])).snd.snd.fst.length : Int) < many then
 (↑(n0.getD ((0 : Nat) + k.toNat) (false, (0 : Int), [], [])).snd.snd.fst.length : Int) else many) ∧ (if (↑(n0.getD ((0 : Nat) + k.toNat) (false, (0 : Int), [], [])).snd.snd.fst.length : Int) < many then
 (↑(n0.getD ((0 : Nat) + k.toNat) (false, (0 : Int), [], [])).snd.snd.fst.length : Int) else many) ≤ (↑(n0.getD ((0 : Nat) + k.toNat) (false, (0 : Int), [], [])).snd.snd.fst.length : Int) ∧ (0 : Nat) + (n0.getD ((0 : Nat) + k.toNat) (false, (0 : Int), [], [])).snd.snd.fst.length ≤ (n0.getD ((0 : Nat) + k.toNat) (false, (0 : Int), [], [])).snd.snd.fst.length) then
 bif decide ((↑(if (↑(n0.getD ((0 : Nat) + k.toNat) (false, (0 : Int), [], [])).snd.snd.fst.length : Int) < many then
 (↑(n0.getD ((0 : Nat) + k.toNat) (false, (0 : Int), [], [])).snd.snd.fst.length : Int) else many).toNat : Int) = (0 : Int)) then
 bif decide ((0 : Nat) + ((some (if (↑(n0.getD ((0 : Nat) + k.toNat) (false, (0 : Int), [], [])).snd.snd.fst.length : Int) < many then
 (↑(n0.getD ((0 : Nat) + k.toNat) (false, (0 : Int), [], [])).snd.snd.fst.length : Int) else many)).getD (↑(n0.getD ((0 : Nat) + k.toNat) (false, (0 : Int), [], [])).snd.snd.fst.length : Int) - (0 : Int)).toNat ≤ (n0.getD ((0 : Nat) + k.toNat) (false, (0 : Int), [], [])).snd.snd.fst.length) && (decide (((some (if (↑(n0.getD ((0 : Nat) + k.toNat) (false, (0 : Int), [], [])).snd.snd.fst.length : Int) < many then
 (↑(n0.getD ((0 : Nat) + k.toNat) (false, (0 : Int), [], [])).snd.snd.fst.length : Int) else many)).getD (↑(n0.getD ((0 : Nat) + k.toNat) (false, (0 : Int), [], [])).snd.snd.fst.length : Int) - (0 : Int)).toNat ≤ (if (↑(n0.getD ((0 : Nat) + k.toNat) (false, (0 : Int), [], [])).snd.snd.fst.length : Int) < many then
 (↑(n0.getD ((0 : Nat) + k.toNat) (false, (0 : Int), [], [])).snd.snd.fst.length : Int) else many).toNat - (0 : Nat)) && (false || decide ((0 : Nat) + ((if (↑(n0.getD ((0 : Nat) + k.toNat) (false, (0 : Int), [], [])).snd.snd.fst.length : Int) < many then
 (↑(n0.getD ((0 : Nat) + k.toNat) (false, (0 : Int), [], [])).snd.snd.fst.length : Int) else many).toNat - (0 : Nat)) ≤ (n0.getD ((0 : Nat) + k.toNat) (false, (0 : Int), [], [])).snd.snd.fst.length))) then
 bif decide ((0 : Nat) + List.length r0.fst ≤ List.length r0.fst) && true then
 bif decide ((0 : Nat) + List.length (n0.getD ((0 : Nat) + k.toNat) (false, (0 : Int), [], [])).snd.snd.snd ≤ List.length (n0.getD ((0 : Nat) + k.toNat) (false, (0 : Int), [], [])).snd.snd.snd) && true then
 bif decide ((0 : Nat) + n0.length ≤ (n0.set ((0 : Nat) + k.toNat) ((n0.getD ((0 : Nat) + k.toNat) (false, (0 : Int), [], [])).fst, (n0.getD ((0 : Nat) + k.toNat) (false, (0 : Int), [], [])).snd.fst, List.take (List.length r0.fst) (List.drop (0 : Nat) r0.fst), List.take (List.length (n0.getD ((0 : Nat) + k.toNat) (false, (0 : Int), [], [])).snd.snd.snd) (List.drop (0 : Nat) (n0.getD ((0 : Nat) + k.toNat) (false, (0 : Int), [], [])).snd.snd.snd))).length) && true then
 some ((List.take ((some (if (↑(n0.getD ((0 : Nat) + k.toNat) (false, (0 : Int), [], [])).snd.snd.fst.length : Int) < many then
 (↑(n0.getD ((0 : Nat) + k.toNat) (false, (0 : Int), [], [])).snd.snd.fst.length : Int) else many)).getD (↑(n0.getD ((0 : Nat) + k.toNat) (false, (0 : Int), [], [])).snd.snd.fst.length : Int) - (0 : Int)).toNat (List.drop (0 : Nat) (n0.getD ((0 : Nat) + k.toNat) (false, (0 : Int), [], [])).snd.snd.fst), (0 : Int)), List.take n0.length (List.drop (0 : Nat) (n0.set ((0 : Nat) + k.toNat) ((n0.getD ((0 : Nat) + k.toNat) (false, (0 : Int), [], [])).fst, (n0.getD ((0 : Nat) + k.toNat) (false, (0 : Int), [], [])).snd.fst, List.take (List.length r0.fst) (List.drop (0 : Nat) r0.fst), List.take (List.length (n0.getD ((0 : Nat) + k.toNat) (false, (0 : Int), [], [])).snd.snd.snd) (List.drop (0 : Nat) (n0.getD ((0 : Nat) + k.toNat) (false, (0 : Int), [], [])).snd.snd.snd)))), n1) else none else none else none else none else bif decide ((0 : Nat) + ((some (if (↑(n0.getD ((0 : Nat) + k.toNat) (false, (0 : Int), [], [])).snd.snd.fst.length : Int) < many then
 (↑(n0.getD ((0 : Nat) + k.toNat) (false, (0 : Int), [], [])).snd.snd.fst.length : Int) else many)).getD (↑(n0.getD ((0 : Nat) + k.toNat) (false, (0 : Int), [], [])).snd.snd.fst.length : Int) - (0 : Int)).toNat ≤ (n0.getD ((0 : Nat) + k.toNat) (false, (0 : Int), [], [])).snd.snd.fst.length) && (decide (((some (if (↑(n0.getD ((0 : Nat) + k.toNat) (false, (0 : Int), [], [])).snd.snd.fst.length : Int) < many then
 (↑(n0.getD ((0 : Nat) + k.toNat) (false, (0 : Int), [], [])).snd.snd.fst.length : Int) else many)).getD (↑(n0.getD ((0 : Nat) + k.toNat) (false, (0 : Int), [], [])).snd.snd.fst.length : Int) - (0 : Int)).toNat ≤ (if (↑(n0.getD ((0 : Nat) + k.toNat) (false, (0 : Int), [], [])).snd.snd.fst.length : Int) < many then
 (↑(n0.getD ((0 : Nat) + k.toNat) (false, (0 : Int), [], [])).snd.snd.fst.length : Int) else many).toNat - (0 : Nat)) && (false || decide ((0 : Nat) + ((if (↑(n0.getD ((0 : Nat) + k.toNat) (false, (0 : Int), [], [])).snd.snd.fst.length : Int) < many then
 (↑(n0.getD ((0 : Nat) + k.toNat) (false, (0 : Int), [], [])).snd.snd.fst.length : Int) else many).toNat - (0 : Nat)) ≤ (n0.getD ((0 : Nat) + k.toNat) (false, (0 : Int), [], [])).snd.snd.fst.length))) then
 bif decide ((0 : Nat) + List.length r0.fst ≤ List.length r0.fst) && true then
 bif decide ((0 : Nat) + List.length (n0.getD ((0 : Nat) + k.toNat) (false, (0 : Int), [], [])).snd.snd.snd ≤ List.length (n0.getD ((0 : Nat) + k.toNat) (false, (0 : Int), [], [])).snd.snd.snd) && true then
 bif decide ((0 : Nat) + n0.length ≤ (n0.set ((0 : Nat) + k.toNat) ((n0.getD ((0 : Nat) + k.toNat) (false, (0 : Int), [], [])).fst, (n0.getD ((0 : Nat) + k.toNat) (false, (0 : Int), [], [])).snd.fst, List.take (List.length r0.fst) (List.drop (0 : Nat) r0.fst), List.take (List.length (n0.getD ((0 : Nat) + k.toNat) (false, (0 : Int), [], [])).snd.snd.snd) (List.drop (0 : Nat) (n0.getD ((0 : Nat) + k.toNat) (false, (0 : Int), [], [])).snd.snd.snd))).length) && true then
 some ((List.take ((some (if (↑(n0.getD ((0 : Nat) + k.toNat) (false, (0 : Int), [], [])).snd.snd.fst.length : Int) < many then
 (↑(n0.getD ((0 : Nat) + k.toNat) (false, (0 : Int), [], [])).snd.snd.fst.length : Int) else many)).getD (↑(n0.getD ((0 : Nat) + k.toNat) (false, (0 : Int), [], [])).snd.snd.fst.length : Int) - (0 : Int)).toNat (List.drop (0 : Nat) (n0.getD ((0 : Nat) + k.toNat) (false, (0 : Int), [], [])).snd.snd.fst), (0 : Int)), List.take n0.length (List.drop (0 : Nat) (n0.set ((0 : Nat) + k.toNat) ((n0.getD ((0 : Nat) + k.toNat) (false, (0 : Int), [], [])).fst, (n0.getD ((0 : Nat) + k.toNat) (false, (0 : Int), [], [])).snd.fst, List.take (List.length r0.fst) (List.drop (0 : Nat) r0.fst), List.take (List.length (n0.getD ((0 : Nat) + k.toNat) (false, (0 : Int), [], [])).snd.snd.snd) (List.drop (0 : Nat) (n0.getD ((0 : Nat) + k.toNat) (false, (0 : Int), [], [])).snd.snd.snd)))), n1) else none else none else none else none else none else bif end0.toNat.beq (1 : Nat) then
 bif decide ((0 : Int) ≤ (0 : Int) ∧ (0 : Int) ≤ (some (if (↑(n0.getD ((0 : Nat) + k.toNat) (false, (0 : Int), [], [])).snd.snd.fst.length : Int) < many then
 (↑(n0.getD ((0 : Nat) + k.toNat) (false, (0 : Int), [], [])).snd.snd.fst.length : Int) else many)).getD (↑(n0.getD ((0 : Nat) + k.toNat) (false, (0 : Int), [], [])).snd.snd.fst.length : Int) ∧ ((some (if (↑(n0.getD ((0 : Nat) + k.toNat) (false, (0 : Int), [], [])).snd.snd.fst.length : Int) < many then
 (↑(n0.getD ((0 : Nat) + k.toNat) (false, (0 : Int), [], [])).snd.snd.fst.length : Int) else many)).getD (↑(n0.getD ((0 : Nat) + k.toNat) (false, (0 : Int), [], [])).snd.snd.fst.length : Int) ≤ if (↑(n0.getD ((0 : Nat) + k.toNat) (false, (0 : Int), [], [])).snd.snd.fst.length : Int) < many then
 (↑(n0.getD ((0 : Nat) + k.toNat) (false, (0 : Int), [], [])).snd.snd.fst.length : Int) else many) ∧ (if (↑(n0.getD ((0 : Nat) + k.toNat) (false, (0 : Int), [], [])).snd.snd.fst.length : Int) < many then
 (↑(n0.getD ((0 : Nat) + k.toNat) (false, (0 : Int), [], [])).snd.snd.fst.length : Int) else many) ≤ (↑(n0.getD ((0 : Nat) + k.toNat) (false, (0 : Int), [], [])).snd.snd.fst.length : Int) ∧ (0 : Nat) + (n0.getD ((0 : Nat) + k.toNat) (false, (0 : Int), [], [])).snd.snd.fst.length ≤ (n0.getD ((0 : Nat) + k.toNat) (false, (0 : Int), [], [])).snd.snd.fst.length) then
 bif decide ((↑(if (↑(n0.getD ((0 : Nat) + k.toNat) (false, (0 : Int), [], [])).snd.snd.fst.length : Int) < many then
 (↑(n0.getD ((0 : Nat) + k.toNat) (false, (0 : Int), [], [])).snd.snd.fst.length : Int) else many).toNat : Int) = (0 : Int)) then
 bif decide ((0 : Nat) + ((some (if (↑(n0.getD ((0 : Nat) + k.toNat) (false, (0 : Int), [], [])).snd.snd.fst.length : Int) < many then
 (↑(n0.getD ((0 : Nat) + k.toNat) (false, (0 : Int), [], [])).snd.snd.fst.length : Int) else many)).getD (↑(n0.getD ((0 : Nat) + k.toNat) (false, (0 : Int), [], [])).snd.snd.fst.length : Int) - (0 : Int)).toNat ≤ (n0.getD ((0 : Nat) + k.toNat) (false, (0 : Int), [], [])).snd.snd.fst.length) && (decide (((some (if (↑(n0.getD ((0 : Nat) + k.toNat) (false, (0 : Int), [], [])).snd.snd.fst.length : Int) < many then
 (↑(n0.getD ((0 : Nat) + k.toNat) (false, (0 : Int), [], [])).snd.snd.fst.length : Int) else many)).getD (↑(n0.getD ((0 : Nat) + k.toNat) (false, (0 : Int), [], [])).snd.snd.fst.length : Int) - (0 : Int)).toNat ≤ (if (↑(n0.getD ((0 : Nat) + k.toNat) (false, (0 : Int), [], [])).snd.snd.fst.length : Int) < many then
 (↑(n0.getD ((0 : Nat) + k.toNat) (false, (0 : Int), [], [])).snd.snd.fst.length : Int) else many).toNat - (0 : Nat)) && (false || decide ((0 : Nat) + ((if (↑(n0.getD ((0 : Nat) + k.toNat) (false, (0 : Int), [], [])).snd.snd.fst.length : Int) < many then
 (↑(n0.getD ((0 : Nat) + k.toNat) (false, (0 : Int), [], [])).snd.snd.fst.length : Int) else many).toNat - (0 : Nat)) ≤ (n0.getD ((0 : Nat) + k.toNat) (false, (0 : Int), [], [])).snd.snd.fst.length))) then
 bif decide ((0 : Nat) + (n0.getD ((0 : Nat) + k.toNat) (false, (0 : Int), [], [])).snd.snd.fst.length ≤ (n0.getD ((0 : Nat) + k.toNat) (false, (0 : Int), [], [])).snd.snd.fst.length) && true then
 bif decide ((0 : Nat) + List.length r0.fst ≤ List.length r0.fst) && true then
 bif decide ((0 : Nat) + n0.length ≤ (n0.set ((0 : Nat) + k.toNat) ((n0.getD ((0 : Nat) + k.toNat) (false, (0 : Int), [], [])).fst, (n0.getD ((0 : Nat) + k.toNat) (false, (0 : Int), [], [])).snd.fst, List.take (n0.getD ((0 : Nat) + k.toNat) (false, (0 : Int), [], [])).snd.snd.fst.length (List.drop (0 : Nat) (n0.getD ((0 : Nat) + k.toNat) (false, (0 : Int), [], [])).snd.snd.fst), List.take (List.length r0.fst) (List.drop (0 : Nat) r0.fst))).length) && true then
 none else none else none else none else none else bif decide ((0 : Nat) + ((some (if (↑(n0.getD ((0 : Nat) + k.toNat) (false, (0 : Int), [], [])).snd.snd.fst.length : Int) < many then
 (↑(n0.getD ((0 : Nat) + k.toNat) (false, (0 : Int), [], [])).snd.snd.fst.length : Int) else many)).getD (↑(n0.getD ((0 : Nat) + k.toNat) (false, (0 : Int), [], [])).snd.snd.fst.length : Int) - (0 : Int)).toNat ≤ (n0.getD ((0 : Nat) + k.toNat) (false, (0 : Int), [], [])).snd.snd.fst.length) && (decide (((some (if (↑(n0.getD ((0 : Nat) + k.toNat) (false, (0 : Int), [], [])).snd.snd.fst.length : Int) < many then
 (↑(n0.getD ((0 : Nat) + k.toNat) (false, (0 : Int), [], [])).snd.snd.fst.length : Int) else many)).getD (↑(n0.getD ((0 : Nat) + k.toNat) (false, (0 : Int), [], [])).snd.snd.fst.length : Int) - (0 : Int)).toNat ≤ (if (↑(n0.getD ((0 : Nat) + k.toNat) (false, (0 : Int), [], [])).snd.snd.fst.length : Int) < many then
 (↑(n0.getD ((0 : Nat) + k.toNat) (false, (0 : Int), [], [])).snd.snd.fst.length : Int) else many).toNat - (0 : Nat)) && (false || decide ((0 : Nat) + ((if (↑(n0.getD ((0 : Nat) + k.toNat) (false, (0 : Int), [], [])).snd.snd.fst.length : Int) < many then
 (↑(n0.getD ((0 : Nat) + k.toNat) (false, (0 : Int), [], [])).snd.snd.fst.length : Int) else many).toNat - (0 : Nat)) ≤ (n0.getD ((0 : Nat) + k.toNat) (false, (0 : Int), [], [])).snd.snd.fst.length))) then
 bif decide ((0 : Nat) + (n0.getD ((0 : Nat) + k.toNat) (false, (0 : Int), [], [])).snd.snd.fst.length ≤ (n0.getD ((0 : Nat) + k.toNat) (false, (0 : Int), [], [])).snd.snd.fst.length) && true then
 bif decide ((0 : Nat) + List.length r0.fst ≤ List.length r0.fst) && true then
 bif decide ((0 : Nat) + n0.length ≤ (n0.set ((0 : Nat) + k.toNat) ((n0.getD ((0 : Nat) + k.toNat) (false, (0 : Int), [], [])).fst, (n0.getD ((0 : Nat) + k.toNat) (false, (0 : Int), [], [])).snd.fst, List.take (n0.getD ((0 : Nat) + k.toNat) (false, (0 : Int), [], [])).snd.snd.fst.length (List.drop (0 : Nat) (n0.getD ((0 : Nat) + k.toNat) (false, (0 : Int), [], [])).snd.snd.fst), List.take (List.length r0.fst) (List.drop (0 : Nat) r0.fst))).length) && true then
 none else none else none else none else none else none else none else none else none else bif decide ((0 : Nat) + (if (↑(n0.getD ((0 : Nat) + k.toNat) (false, (0 : Int), [], [])).snd.snd.fst.length : Int) < many then
 (↑(n0.getD ((0 : Nat) + k.toNat) (false, (0 : Int), [], [])).snd.snd.fst.length : Int) else many).toNat + (none.getD (↑(n0.getD ((0 : Nat) + k.toNat) (false, (0 : Int), [], [])).snd.snd.fst.length : Int) - if (↑(n0.getD ((0 : Nat) + k.toNat) (false, (0 : Int), [], [])).snd.snd.fst.length : Int) < many then
 (↑(n0.getD ((0 : Nat) + k.toNat) (false, (0 : Int), [], [])).snd.snd.fst.length : Int) else many).toNat ≤ (n0.getD ((0 : Nat) + k.toNat) (false, (0 : Int), [], [])).snd.snd.fst.length) && true then
 (x28 (List.take (none.getD (↑(n0.getD ((0 : Nat) + k.toNat) (false, (0 : Int), [], [])).snd.snd.fst.length : Int) - if (↑(n0.getD ((0 : Nat) + k.toNat) (false, (0 : Int), [], [])).snd.snd.fst.length : Int) < many then
 (↑(n0.getD ((0 : Nat) + k.toNat) (false, (0 : Int), [], [])).snd.snd.fst.length : Int) else many).toNat (List.drop ((0 : Nat) + (if (↑(n0.getD ((0 : Nat) + k.toNat) (false, (0 : Int), [], [])).snd.snd.fst.length : Int) < many then
 (↑(n0.getD ((0 : Nat) + k.toNat) (false, (0 : Int), [], [])).snd.snd.fst.length : Int) else many).toNat) (n0.getD ((0 : Nat) + k.toNat) (false, (0 : Int), [], [])).snd.snd.fst))).bind fun r0 => bif decide ((0 : Int) ≤ end0 ∧ end0 < (2 : Int)) then
 bif end0.toNat.beq (0 : Nat) then
 bif decide ((0 : Int) ≤ (0 : Int) ∧ (0 : Int) ≤ (some (if (↑(n0.getD ((0 : Nat) + k.toNat) (false, (0 : Int), [], [])).snd.snd.fst.length : Int) < many then
 (↑(n0.getD ((0 : Nat) + k.toNat) (false, (0 : Int), [], [])).snd.snd.fst.length : Int) else many)).getD (↑(n0.getD ((0 : Nat) + k.toNat) (false, (0 : Int), [], [])).snd.snd.fst.length : Int) ∧ ((some (if (↑(n0.getD ((0 : Nat) + k.toNat) (false, (0 : Int), [], [])).snd.snd.fst.length : Int) < many then
 (↑(n0.getD ((0 : Nat) + k.toNat) (false, (0 : Int), [], [])).snd.snd.fst.length : Int) else many)).getD (↑(n0.getD ((0 : Nat) + k.toNat) (false, (0 : Int), [], [])).snd.snd.fst.length : Int) ≤ if (↑(n0.getD ((0 : Nat) + k.toNat) (false, (0 : Int), [], [])).snd.snd.fst.length : Int) < many then
 (↑(n0.getD ((0 : Nat) + k.toNat) (false, (0 : Int), [], [])).snd.snd.fst.length : Int) else many) ∧ (if (↑(n0.getD ((0 : Nat) + k.toNat) (false, (0 : Int), [], [])).snd.snd.fst.length : Int) < many then
 (↑(n0.getD ((0 : Nat) + k.toNat) (false, (0 : Int), [], [])).snd.snd.fst.length : Int) else many) ≤ (↑(n0.getD ((0 : Nat) + k.toNat) (false, (0 : Int), [], [])).snd.snd.fst.length : Int) ∧ (0 : Nat) + (n0.getD ((0 : Nat) + k.toNat) (false, (0 : Int), [], [])).snd.snd.fst.length ≤ (n0.getD ((0 : Nat) + k.toNat) (false, (0 : Int), [], [])).snd.snd.fst.length) then
 bif decide ((↑(if (↑(n0.getD ((0 : Nat) + k.toNat) (false, (0 : Int), [], [])).snd.snd.fst.length : Int) < many then
 (↑(n0.getD ((0 : Nat) + k.toNat) (false, (0 : Int), [], [])).snd.snd.fst.length : Int) else many).toNat : Int) = (0 : Int)) then
 bif decide ((0 : Nat) + ((some (if (↑(n0.getD ((0 : Nat) + k.toNat) (false, (0 : Int), [], [])).snd.snd.fst.length : Int) < many then
 (↑(n0.getD ((0 : Nat) + k.toNat) (false, (0 : Int), [], [])).snd.snd.fst.length : Int) else many)).getD (↑(n0.getD ((0 : Nat) + k.toNat) (false, (0 : Int), [], [])).snd.snd.fst.length : Int) - (0 : Int)).toNat ≤ (n0.getD ((0 : Nat) + k.toNat) (false, (0 : Int), [], [])).snd.snd.fst.length) && (decide (((some (if (↑(n0.getD ((0 : Nat) + k.toNat) (false, (0 : Int), [], [])).snd.snd.fst.length : Int) < many then
 (↑(n0.getD ((0 : Nat) + k.toNat) (false, (0 : Int), [], [])).snd.snd.fst.length : Int) else many)).getD (↑(n0.getD ((0 : Nat) + k.toNat) (false, (0 : Int), [], [])).snd.snd.fst.length : Int) - (0 : Int)).toNat ≤ (if (↑(n0.getD ((0 : Nat) + k.toNat) (false, (0 : Int), [], [])).snd.snd.fst.length : Int) < many then
 (↑(n0.getD ((0 : Nat) + k.toNat) (false, (0 : Int), [], [])).snd.snd.fst.length : Int) else many).toNat - (0 : Nat)) && (false || decide ((0 : Nat) + ((if (↑(n0.getD ((0 : Nat) + k.toNat) (false, (0 : Int), [], [])).snd.snd.fst.length : Int) < many then
 (↑(n0.getD ((0 : Nat) + k.toNat) (false, (0 : Int), [], [])).snd.snd.fst.length : Int) else many).toNat - (0 : Nat)) ≤ (n0.getD ((0 : Nat) + k.toNat) (false, (0 : Int), [], [])).snd.snd.fst.length))) then
 bif decide ((0 : Nat) + List.length r0.fst ≤ List.length r0.fst) && true then
 bif decide ((0 : Nat) + List.length (n0.getD ((0 : Nat) + k.toNat) (false, (0 : Int), [], [])).snd.snd.snd ≤ List.length (n0.getD ((0 : Nat) + k.toNat) (false, (0 : Int), [], [])).snd.snd.snd) && true then
 bif decide ((0 : Nat) + n0.length ≤ (n0.set ((0 : Nat) + k.toNat) ((n0.getD ((0 : Nat) + k.toNat) (false, (0 : Int), [], [])).fst, (n0.getD ((0 : Nat) + k.toNat) (false, (0 : Int), [], [])).snd.fst, List.take (List.length r0.fst) (List.drop (0 : Nat) r0.fst), List.take (List.length (n0.getD ((0 : Nat) + k.toNat) (false, (0 : Int), [], [])).snd.snd.snd) (List.drop (0 : Nat) (n0.getD ((0 : Nat) + k.toNat) (false, (0 : Int), [], [])).snd.snd.snd))).length) && true then
 some ((List.take ((some (if (↑(n0.getD ((0 : Nat) + k.toNat) (false, (0 : Int), [], [])).snd.snd.fst.length : Int) < many then
 (↑(n0.getD ((0 : Nat) + k.toNat) (false, (0 : Int), [], [])).snd.snd.fst.length : Int) else many)).getD (↑(n0.getD ((0 : Nat) + k.toNat) (false, (0 : Int), [], [])).snd.snd.fst.length : Int) - (0 : Int)).toNat (List.drop (0 : Nat) (n0.getD ((0 : Nat) + k.toNat) (false, (0 : Int), [], [])).snd.snd.fst), (0 : Int)), List.take n0.length (List.drop (0 : Nat) (n0.set ((0 : Nat) + k.toNat) ((n0.getD ((0 : Nat) + k.toNat) (false, (0 : Int), [], [])).fst, (n0.getD ((0 : Nat) + k.toNat) (false, (0 : Int), [], [])).snd.fst, List.take (List.length r0.fst) (List.drop (0 : Nat) r0.fst), List.take (List.length (n0.getD ((0 : Nat) + k.toNat) (false, (0 : Int), [], [])).snd.snd.snd) (List.drop (0 : Nat) (n0.getD ((0 : Nat) + k.toNat) (false, (0 : Int), [], [])).snd.snd.snd)))), n1) else none else none else none else none else bif decide ((0 : Nat) + ((some (if (↑(n0.getD ((0 : Nat) + k.toNat) (false, (0 : Int), [], [])).snd.snd.fst.length : Int) < many then
 (↑(n0.getD ((0 : Nat) + k.toNat) (false, (0 : Int), [], [])).snd.snd.fst.length : Int) else many)).getD (↑(n0.getD ((0 : Nat) + k.toNat) (false, (0 : Int), [], [])).snd.snd.fst.length : Int) - (0 : Int)).toNat ≤ (n0.getD ((0 : Nat) + k.toNat) (false, (0 : Int), [], [])).snd.snd.fst.length) && (decide (((some (if (↑(n0.getD ((0 : Nat) + k.toNat) (false, (0 : Int), [], [])).snd.snd.fst.length : Int) < many then
 (↑(n0.getD ((0 : Nat) + k.toNat) (false, (0 : Int), [], [])).snd.snd.fst.length : Int) else many)).getD (↑(n0.getD ((0 : Nat) + k.toNat) (false, (0 : Int), [], [])).snd.snd.fst.length : Int) - (0 : Int)).toNat ≤ (if (↑(n0.getD ((0 : Nat) + k.toNat) (false, (0 : Int), [], [])).snd.snd.fst.length : Int) < many then
 (↑(n0.getD ((0 : Nat) + k.toNat) (false, (0 : Int), [], [])).snd.snd.fst.length : Int) else many).toNat - (0 : Nat)) && (false || decide ((0 : Nat) + ((if (↑(n0.getD ((0 : Nat) + k.toNat) (false, (0 : Int), [], [])).snd.snd.fst.length : Int) < many then
 (↑(n0.getD ((0 : Nat) + k.toNat) (false, (0 : Int), [], [])).snd.snd.fst.length : Int) else many).toNat - (0 : Nat)) ≤ (n0.getD ((0 : Nat) + k.toNat) (false, (0 : Int), [], [])).snd.snd.fst.length))) then
 bif decide ((0 : Nat) + List.length r0.fst ≤ List.length r0.fst) && true then
 bif decide ((0 : Nat) + List.length (n0.getD ((0 : Nat) + k.toNat) (false, (0 : Int), [], [])).snd.snd.snd ≤ List.length (n0.getD ((0 : Nat) + k.toNat) (false, (0 : Int), [], [])).snd.snd.snd) && true then
 bif decide ((0 : Nat) + n0.length ≤ (n0.set ((0 : Nat) + k.toNat) ((n0.getD ((0 : Nat) + k.toNat) (false, (0 : Int), [], [])).fst, (n0.getD ((0 : Nat) + k.toNat) (false, (0 : Int), [], [])).snd.fst, List.take (List.length r0.fst) (List.drop (0 : Nat) r0.fst), List.take (List.length (n0.getD ((0 : Nat) + k.toNat) (false, (0 : Int), [], [])).snd.snd.snd) (List.drop (0 : Nat) (n0.getD ((0 : Nat) + k.toNat) (false, (0 : Int), [], [])).snd.snd.snd))).length) && true then
 some ((List.take ((some (if (↑(n0.getD ((0 : Nat) + k.toNat) (false, (0 : Int), [], [])).snd.snd.fst.length : Int) < many then
 (↑(n0.getD ((0 : Nat) + k.toNat) (false, (0 : Int), [], [])).snd.snd.fst.length : Int) else many)).getD (↑(n0.getD ((0 : Nat) + k.toNat) (false, (0 : Int), [], [])).snd.snd.fst.length : Int) - (0 : Int)).toNat (List.drop (0 : Nat) (n0.getD ((0 : Nat) + k.toNat) (false, (0 : Int), [], [])).snd.snd.fst), (0 : Int)), List.take n0.length (List.drop (0 : Nat) (n0.set ((0 : Nat) + k.toNat) ((n0.getD ((0 : Nat) + k.toNat) (false, (0 : Int), [], [])).fst, (n0.getD ((0 : Nat) + k.toNat) (false, (0 : Int), [], [])).snd.fst, List.take (List.length r0.fst) (List.drop (0 : Nat) r0.fst), List.take (List.length (n0.getD ((0 : Nat) + k.toNat) (false, (0 : Int), [], [])).snd.snd.snd) (List.drop (0 : Nat) (n0.getD ((0 : Nat) + k.toNat) (false, (0 : Int), [], [])).snd.snd.snd)))), n1) else none else none else none else none else none else bif end0.toNat.beq (1 : Nat) then
 bif decide ((0 : Int) ≤ (0 : Int) ∧ (0 : Int) ≤ (some (if (↑(n0.getD ((0 : Nat) + k.toNat) (false, (0 : Int), [], [])).snd.snd.fst.length : Int) < many then
 (↑(n0.getD ((0 : Nat) + k.toNat) (false, (0 : Int), [], [])).snd.snd.fst.length : Int) else many)).getD (↑(n0.getD ((0 : Nat) + k.toNat) (false, (0 : Int), [], [])).snd.snd.fst.length : Int) ∧ ((some (if (↑(n0.getD ((0 : Nat) + k.toNat) (false, (0 : Int), [], [])).snd.snd.fst.length : Int) < many then
 (↑(n0.getD ((0 : Nat) + k.toNat) (false, (0 : Int), [], [])).snd.snd.fst.length : Int) else many)).getD (↑(n0.getD ((0 : Nat) + k.toNat) (false, (0 : Int), [], [])).snd.snd.fst.length : Int) ≤ if (↑(n0.getD ((0 : Nat) + k.toNat) (false, (0 : Int), [], [])).snd.snd.fst.length : Int) < many then
 (↑(n0.getD ((0 : Nat) + k.toNat) (false, (0 : Int), [], [])).snd.snd.fst.length : Int) else many) ∧ (if (↑(n0.getD ((0 : Nat) + k.toNat) (false, (0 : Int), [], [])).snd.snd.fst.length : Int) < many then
 (↑(n0.getD ((0 : Nat) + k.toNat) (false, (0 : Int), [], [])).snd.snd.fst.length : Int) else many) ≤ (↑(n0.getD ((0 : Nat) + k.toNat) (false, (0 : Int), [], [])).snd.snd.fst.length : Int) ∧ (0 : Nat) + (n0.getD ((0 : Nat) + k.toNat) (false, (0 : Int), [], [])).snd.snd.fst.length ≤ (n0.getD ((0 : Nat) + k.toNat) (false, (0 : Int), [], [])).snd.snd.fst.length) then
 bif decide ((↑(if (↑(n0.getD ((0 : Nat) + k.toNat) (false, (0 : Int), [], [])).snd.snd.fst.length : Int) < many then
 (↑(n0.getD ((0 : Nat) + k.toNat) (false, (0 : Int), [], [])).snd.snd.fst.length : Int) else many).toNat : Int) = (0 : Int)) then
 bif decide ((0 : Nat) + ((some (if (↑(n0.getD ((0 : Nat) + k.toNat) (false, (0 : Int), [], [])).snd.snd.fst.length : Int) < many then
 (↑(n0.getD ((0 : Nat) + k.toNat) (false, (0 : Int), [], [])).snd.snd.fst.length : Int) else many)).getD (↑(n0.getD ((0 : Nat) + k.toNat) (false, (0 : Int), [], [])).snd.snd.fst.length : Int) - (0 : Int)).toNat ≤ (n0.getD ((0 : Nat) + k.toNat) (false, (0 : Int), [], [])).snd.snd.fst.length) && (decide (((some (if (↑(n0.getD ((0 : Nat) + k.toNat) (false, (0 : Int), [], [])).snd.snd.fst.length : Int) < many then
 (↑(n0.getD ((0 : Nat) + k.toNat) (false, (0 : Int), [], [])).snd.snd.fst.length : Int) else many)).getD (↑(n0.getD ((0 : Nat) + k.toNat) (false, (0 : Int), [], [])).snd.snd.fst.length : Int) - (0 : Int)).toNat ≤ (if (↑(n0.getD ((0 : Nat) + k.toNat) (false, (0 : Int), [], [])).snd.snd.fst.length : Int) < many then
 (↑(n0.getD ((0 : Nat) + k.toNat) (false, (0 : Int), [], [])).snd.snd.fst.length : Int) else many).toNat - (0 : Nat)) && (false || decide ((0 : Nat) + ((if (↑(n0.getD ((0 : Nat) + k.toNat) (false, (0 : Int), [], [])).snd.snd.fst.length : Int) < many then
 (↑(n0.getD ((0 : Nat) + k.toNat) (false, (0 : Int), [], [])).snd.snd.fst.length : Int) else many).toNat - (0 : Nat)) ≤ (n0.getD ((0 : Nat) + k.toNat) (false, (0 : Int), [], [])).snd.snd.fst.length))) then
 bif decide ((0 : Nat) + (n0.getD ((0 : Nat) + k.toNat) (false, (0 : Int), [], [])).snd.snd.fst.length ≤ (n0.getD ((0 : Nat) + k.toNat) (false, (0 : Int), [], [])).snd.snd.fst.length) && true then
 bif decide ((0 : Nat) + List.length r0.fst ≤ List.length r0.fst) && true then
 bif decide ((0 : Nat) + n0.length ≤ (n0.set ((0 : Nat) + k.toNat) ((n0.getD ((0 : Nat) + k.toNat) (false, (0 : Int), [], [])).fst, (n0.getD ((0 : Nat) + k.toNat) (false, (0 : Int), [], [])).snd.fst, List.take (n0.getD ((0 : Nat) + k.toNat) (false, (0 : Int), [], [])).snd.snd.fst.length (List.drop (0 : Nat) (n0.getD ((0 : Nat) + k.toNat) (false, (0 : Int), [], [])).snd.snd.fst), List.take (List.length r0.fst) (List.drop (0 : Nat) r0.fst))).length) && true then
 none else none else none else none else none else bif decide ((0 : Nat) + ((some (if (↑(n0.getD ((0 : Nat) + k.toNat) (false, (0 : Int), [], [])).snd.snd.fst.length : Int) < many then
 (↑(n0.getD ((0 : Nat) + k.toNat) (false, (0 : Int), [], [])).snd.snd.fst.length : Int) else many)).getD (↑(n0.getD ((0 : Nat) + k.toNat) (false, (0 : Int), [], [])).snd.snd.fst.length : Int) - (0 : Int)).toNat ≤ (n0.getD ((0 : Nat) + k.toNat) (false, (0 : Int), [], [])).snd.snd.fst.length) && (decide (((some (if (↑(n0.getD ((0 : Nat) + k.toNat) (false, (0 : Int), [], [])).snd.snd.fst.length : Int) < many then
 (↑(n0.getD ((0 : Nat) + k.toNat) (false, (0 : Int), [], [])).snd.snd.fst.length : Int) else many)).getD (↑(n0.getD ((0 : Nat) + k.toNat) (false, (0 : Int), [], [])).snd.snd.fst.length : Int) - (0 : Int)).toNat ≤ (if (↑(n0.getD ((0 : Nat) + k.toNat) (false, (0 : Int), [], [])).snd.snd.fst.length : Int) < many then
 (↑(n0.getD ((0 : Nat) + k.toNat) (false, (0 : Int), [], [])).snd.snd.fst.length : Int) else many).toNat - (0 : Nat)) && (false || decide ((0 : Nat) + ((if (↑(n0.getD ((0 : Nat) + k.toNat) (false, (0 : Int), [], [])).snd.snd.fst.length : Int) < many then
 (↑(n0.getD ((0 : Nat) + k.toNat) (false, (0 : Int), [], [])).snd.snd.fst.length : Int) else many).toNat - (0 : Nat)) ≤ (n0.getD ((0 : Nat) + k.toNat) (false, (0 : Int), [], [])).snd.snd.fst.length))) then
 bif decide ((0 : Nat) + (n0.getD ((0 : Nat) + k.toNat) (false, (0 : Int), [], [])).snd.snd.fst.length ≤ (n0.getD ((0 : Nat) + k.toNat) (false, (0 : Int), [], [])).snd.snd.fst.length) && true then
 bif decide ((0 : Nat) + List.length r0.fst ≤ List.length r0.fst) && true then
 bif decide ((0 : Nat) + n0.length ≤ (n0.set ((0 : Nat) + k.toNat) ((n0.getD ((0 : Nat) + k.toNat) (false, (0 : Int), [], [])).fst, (n0.getD ((0 : Nat) + k.toNat) (false, (0 : Int), [], [])).snd.fst, List.take (n0.getD ((0 : Nat) + k.toNat) (false, (0 : Int), [], [])).snd.snd.fst.length (List.drop (0 : Nat) (n0.getD ((0 : Nat) + k.toNat) (false, (0 : Int), [], [])).snd.snd.fst), List.take (List.length r0.fst) (List.drop (0 : Nat) r0.fst))).length) && true then
 none else none else none else none else none else none else none else none else none else none else bif end0.toNat.beq (1 : Nat) then
 bif decide (((0 : Int) ≤ if (↑(List.length (n0.getD ((0 : Nat) + k.toNat) (false, (0 : Int), [], [])).snd.snd.snd) : Int) < many then
 (↑(List.length (n0.getD ((0 : Nat) + k.toNat) (false, (0 : Int), [], [])).snd.snd.snd) : Int) else many) ∧ (if (↑(List.length (n0.getD ((0 : Nat) + k.toNat) (false, (0 : Int), [], [])).snd.snd.snd) : Int) < many then
 (↑(List.length (n0.getD ((0 : Nat) + k.toNat) (false, (0 : Int), [], [])).snd.snd.snd) : Int) else many) ≤ none.getD (↑(List.length (n0.getD ((0 : Nat) + k.toNat) (false, (0 : Int), [], [])).snd.snd.snd) : Int) ∧ none.getD (↑(List.length (n0.getD ((0 : Nat) + k.toNat) (false, (0 : Int), [], [])).snd.snd.snd) : Int) ≤ (↑(List.length (n0.getD ((0 : Nat) + k.toNat) (false, (0 : Int), [], [])).snd.snd.snd) : Int) ∧ (0 : Nat) + List.length (n0.getD ((0 : Nat) + k.toNat) (false, (0 : Int), [], [])).snd.snd.snd ≤ List.length (n0.getD ((0 : Nat) + k.toNat) (false, (0 : Int), [], [])).snd.snd.snd) then
 bif decide ((if (↑(List.length (n0.getD ((0 : Nat) + k.toNat) (false, (0 : Int), [], [])).snd.snd.snd) : Int) < many then
 (↑(List.length (n0.getD ((0 : Nat) + k.toNat) (false, (0 : Int), [], [])).snd.snd.snd) : Int) else many) = (↑(List.length (n0.getD ((0 : Nat) + k.toNat) (false, (0 : Int), [], [])).snd.snd.snd) : Int)) then
 bif decide ((0 : Nat) ≤ (0 : Nat) + List.length (n0.getD ((0 : Nat) + k.toNat) (false, (0 : Int), [], [])).snd.snd.snd ∧ (0 : Nat) + List.length (n0.getD ((0 : Nat) + k.toNat) (false, (0 : Int), [], [])).snd.snd.snd ≤ List.length (n0.getD ((0 : Nat) + k.toNat) (false, (0 : Int), [], [])).snd.snd.snd) then
 (x28 []).bind fun r0 => bif decide ((0 : Int) ≤ end0 ∧ end0 < (2 : Int)) then
 bif end0.toNat.beq (0 : Nat) then
 bif decide ((0 : Int) ≤ (0 : Int) ∧ (0 : Int) ≤ (some (if (↑(List.length (n0.getD ((0 : Nat) + k.toNat) (false, (0 : Int), [], [])).snd.snd.snd) : Int) < many then
 (↑(List.length (n0.getD ((0 : Nat) + k.toNat) (false, (0 : Int), [], [])).snd.snd.snd) : Int) else many)).getD (↑(List.length (n0.getD ((0 : Nat) + k.toNat) (false, (0 : Int), [], [])).snd.snd.snd) : Int) ∧ ((some (if (↑(List.length (n0.getD ((0 : Nat) + k.toNat) (false, (0 : Int), [], [])).snd.snd.snd) : Int) < many then
 (↑(List.length (n0.getD ((0 : Nat) + k.toNat) (false, (0 : Int), [], [])).snd.snd.snd) : Int) else many)).getD (↑(List.length (n0.getD ((0 : Nat) + k.toNat) (false, (0 : Int), [], [])).snd.snd.snd) : Int) ≤ if (↑(List.length (n0.getD ((0 : Nat) + k.toNat) (false, (0 : Int), [], [])).snd.snd.snd) : Int) < many then
 (↑(List.length (n0.getD ((0 : Nat) + k.toNat) (false, (0 : Int), [], [])).snd.snd.snd) : Int) else many) ∧ (if (↑(List.length (n0.getD ((0 : Nat) + k.toNat) (false, (0 : Int), [], [])).snd.snd.snd) : Int) < many then
 (↑(List.length (n0.getD ((0 : Nat) + k.toNat) (false, (0 : Int), [], [])).snd.snd.snd) : Int) else many) ≤ (↑(List.length (n0.getD ((0 : Nat) + k.toNat) (false, (0 : Int), [], [])).snd.snd.snd) : Int) ∧ (0 : Nat) + List.length (n0.getD ((0 : Nat) + k.toNat) (false, (0 : Int), [], [])).snd.snd.snd ≤ List.length (n0.getD ((0 : Nat) + k.toNat) (false, (0 : Int), [], [])).snd.snd.snd) then
 bif decide ((↑(if (↑(List.length (n0.getD ((0 : Nat) + k.toNat) (false, (0 : Int), [], [])).snd.snd.snd) : Int) < many then
 (↑(List.length (n0.getD ((0 : Nat) + k.toNat) (false, (0 : Int), [], [])).snd.snd.snd) : Int) else many).toNat : Int) = (0 : Int)) then
 bif decide ((0 : Nat) + ((some (if (↑(List.length (n0.getD ((0 : Nat) + k.toNat) (false, (0 : Int), [], [])).snd.snd.snd) : Int) < many then
 (↑(List.length (n0.getD ((0 : Nat) + k.toNat) (false, (0 : Int), [], [])).snd.snd.snd) : Int) else many)).getD (↑(List.length (n0.getD ((0 : Nat) + k.toNat) (false, (0 : Int), [], [])).snd.snd.snd) : Int) - (0 : Int)).toNat ≤ List.length (n0.getD ((0 : Nat) + k.toNat) (false, (0 : Int), [], [])).snd.snd.snd) && (decide (((some (if (↑(List.length (n0.getD ((0 : Nat) + k.toNat) (false, (0 : Int), [], [])).snd.snd.snd) : Int) < many then
 (↑(List.length (n0.getD ((0 : Nat) + k.toNat) (false, (0 : Int), [], [])).snd.snd.snd) : Int) else many)).getD (↑(List.length (n0.getD ((0 : Nat) + k.toNat) (false, (0 : Int), [], [])).snd.snd.snd) : Int) - (0 : Int)).toNat ≤ (if (↑(List.length (n0.getD ((0 : Nat) + k.toNat) (false, (0 : Int), [], [])).snd.snd.snd) : Int) < many then
 (↑(List.length (n0.getD ((0 : Nat) + k.toNat) (false, (0 : Int), [], [])).snd.snd.snd) : Int) else many).toNat - (0 : Nat)) && (false || decide ((0 : Nat) + ((if (↑(List.length (n0.getD ((0 : Nat) + k.toNat) (false, (0 : Int), [], [])).snd.snd.snd) : Int) < many then
 (↑(List.length (n0.getD ((0 : Nat) + k.toNat) (false, (0 : Int), [], [])).snd.snd.snd) : Int) else many).toNat - (0 : Nat)) ≤ List.length (n0.getD ((0 : Nat) + k.toNat) (false, (0 : Int), [], [])).snd.snd.snd))) then
 bif decide ((0 : Nat) + List.length r0.fst ≤ List.length r0.fst) && true then
 bif decide ((0 : Nat) + List.length (n0.getD ((0 : Nat) + k.toNat) (false, (0 : Int), [], [])).snd.snd.snd ≤ List.length (n0.getD ((0 : Nat) + k.toNat) (false, (0 : Int), [], [])).snd.snd.snd) && true then
 bif decide ((0 : Nat) + n0.length ≤ (n0.set ((0 : Nat) + k.toNat) ((n0.getD ((0 : Nat) + k.toNat) (false, (0 : Int), [], [])).fst, (n0.getD ((0 : Nat) + k.toNat) (false, (0 : Int), [], [])).snd.fst, List.take (List.length r0.fst) (List.drop (0 : Nat) r0.fst), List.take (List.length (n0.getD ((0 : Nat) + k.toNat) (false, (0 : Int), [], [])).snd.snd.snd) (List.drop (0 : Nat) (n0.getD ((0 : Nat) + k.toNat) (false, (0 : Int), [], [])).snd.snd.snd))).length) && true then
 none else none else none else none else none else bif decide ((0 : Nat) + ((some (if (↑(List.length (n0.getD ((0 : Nat) + k.toNat) (false, (0 : Int), [], [])).snd.snd.snd) : Int) < many then
 (↑(List.length (n0.getD ((0 : Nat) + k.toNat) (false, (0 : Int), [], [])).snd.snd.snd) : Int) else many)).getD (↑(List.length (n0.getD ((0 : Nat) + k.toNat) (false, (0 : Int), [], [])).snd.snd.snd) : Int) - (0 : Int)).toNat ≤ List.length (n0.getD ((0 : Nat) + k.toNat) (false, (0 : Int), [], [])).snd.snd.snd) && (decide (((some (if (↑(List.length (n0.getD ((0 : Nat) + k.toNat) (false, (0 : Int), [], [])).snd.snd.snd) : Int) < many then
 (↑(List.length (n0.getD ((0 : Nat) + k.toNat) (false, (0 : Int), [], [])).snd.snd.snd) : Int) else many)).getD (↑(List.length (n0.getD ((0 : Nat) + k.toNat) (false, (0 : Int), [], [])).snd.snd.snd) : Int) - (0 : Int)).toNat ≤ (if (↑(List.length (n0.getD ((0 : Nat) + k.toNat) (false, (0 : Int), [], [])).snd.snd.snd) : Int) < many then
 (↑(List.length (n0.getD ((0 : Nat) + k.toNat) (false, (0 : Int), [], [])).snd.snd.snd) : Int) else many).toNat - (0 : Nat)) && (false || decide ((0 : Nat) + ((if (↑(List.length (n0.getD ((0 : Nat) + k.toNat) (false, (0 : Int), [], [])).snd.snd.snd) : Int) < many then
 (↑(List.length (n0.getD ((0 : Nat) + k.toNat) (false, (0 : Int), [], [])).snd.snd.snd) : Int) else many).toNat - (0 : Nat)) ≤ List.length (n0.getD ((0 : Nat) + k.toNat) (false, (0 : Int), [], [])).snd.snd.snd))) then
 bif decide ((0 : Nat) + List.length r0.fst ≤ List.length r0.fst) && true then
 bif decide ((0 : Nat) + List.length (n0.getD ((0 : Nat) + k.toNat) (false, (0 : Int), [], [])).snd.snd.snd ≤ List.length (n0.getD ((0 : Nat) + k.toNat) (false, (0 : Int), [], [])).snd.snd.snd) && true then
 bif decide ((0 : Nat) + n0.length ≤ (n0.set ((0 : Nat) + k.toNat) ((n0.getD ((0 : Nat) + k.toNat) (false, (0 : Int), [], [])).fst, (n0.getD ((0 : Nat) + k.toNat) (false, (0 : Int), [], [])).snd.fst, List.take (List.length r0.fst) (List.drop (0 : Nat) r0.fst), List.take (List.length (n0.getD ((0 : Nat) + k.toNat) (false, (0 : Int), [], [])).snd.snd.snd) (List.drop (0 : Nat) (n0.getD ((0 : Nat) + k.toNat) (false, (0 : Int), [], [])).snd.snd.snd))).length) && true then
 none else none else none else none else none else none else bif end0.toNat.beq (1 : Nat) then
 bif decide ((0 : Int) ≤ (0 : Int) ∧ (0 : Int) ≤ (some (if (↑(List.length (n0.getD ((0 : Nat) + k.toNat) (false, (0 : Int), [], [])).snd.snd.snd) : Int) < many then
 (↑(List.length (n0.getD ((0 : Nat) + k.toNat) (false, (0 : Int), [], [])).snd.snd.snd) : Int) else many)).getD (↑(List.length (n0.getD ((0 : Nat) + k.toNat) (false, (0 : Int), [], [])).snd.snd.snd) : Int) ∧ ((some (if (↑(List.length (n0.getD ((0 : Nat) + k.toNat) (false, (0 : Int), [], [])).snd.snd.snd) : Int) < many then
 (↑(List.length (n0.getD ((0 : Nat) + k.toNat) (false, (0 : Int), [], [])).snd.snd.snd) : Int) else many)).getD (↑(List.length (n0.getD ((0 : Nat) + k.toNat) (false, (0 : Int), [], [])).snd.snd.snd) : Int) ≤ if (↑(List.length (n0.getD ((0 : Nat) + k.toNat) (false, (0 : Int), [], [])).snd.snd.snd) : Int) < many then
 (↑(List.length (n0.getD ((0 : Nat) + k.toNat) (false, (0 : Int), [], [])).snd.snd.snd) : Int) else many) ∧ (if (↑(List.length (n0.getD ((0 : Nat) + k.toNat) (false, (0 : Int), [], [])).snd.snd.snd) : Int) < many then
 (↑(List.length (n0.getD ((0 : Nat) + k.toNat) (false, (0 : Int), [], [])).snd.snd.snd) : Int) else many) ≤ (↑(List.length (n0.getD ((0 : Nat) + k.toNat) (false, (0 : Int), [], [])).snd.snd.snd) : Int) ∧ (0 : Nat) + List.length (n0.getD ((0 : Nat) + k.toNat) (false, (0 : Int), [], [])).snd.snd.snd ≤ List.length (n0.getD ((0 : Nat) + k.toNat) (false, (0 : Int), [], [])).snd.snd.snd) then
 bif decide ((↑(if (↑(List.length (n0.getD ((0 : Nat) + k.toNat) (false, (0 : Int), [], [])).snd.snd.snd) : Int) < many then
 (↑(List.length (n0.getD ((0 : Nat) + k.toNat) (false, (0 : Int), [], [])).snd.snd.snd) : Int) else many).toNat : Int) = (0 : Int)) then
 bif decide ((0 : Nat) + ((some (if (↑(List.length (n0.getD ((0 : Nat) + k.toNat) (false, (0 : Int), [], [])).snd.snd.snd) : Int) < many then
 (↑(List.length (n0.getD ((0 : Nat) + k.toNat) (false, (0 : Int), [], [])).snd.snd.snd) : Int) else many)).getD (↑(List.length (n0.getD ((0 : Nat) + k.toNat) (false, (0 : Int), [], [])).snd.snd.snd) : Int) - (0 : Int)).toNat ≤ List.length (n0.getD ((0 : Nat) + k.toNat) (false, (0 : Int), [], [])).snd.snd.snd) && (decide (((some (if (↑(List.length (n0.getD ((0 : Nat) + k.toNat) (false, (0 : Int), [], [])).snd.snd.snd) : Int) < many then
 (↑(List.length (n0.getD ((0 : Nat) + k.toNat) (false, (0 : Int), [], [])).snd.snd.snd) : Int) else many)).getD (↑(List.length (n0.getD ((0 : Nat) + k.toNat) (false, (0 : Int), [], [])).snd.snd.snd) : Int) - (0 : Int)).toNat ≤ (if (↑(List.length (n0.getD ((0 : Nat) + k.toNat) (false, (0 : Int), [], [])).snd.snd.snd) : Int) < many then
 (↑(List.length (n0.getD ((0 : Nat) + k.toNat) (false, (0 : Int), [], [])).snd.snd.snd) : Int) else many).toNat - (0 : Nat)) && (false || decide ((0 : Nat) + ((if (↑(List.length (n0.getD ((0 : Nat) + k.toNat) (false, (0 : Int), [], [])).snd.snd.snd) : Int) < many then
 (↑(List.length (n0.getD ((0 : Nat) + k.toNat) (false, (0 : Int), [], [])).snd.snd.snd) : Int) else many).toNat - (0 : Nat)) ≤ List.length (n0.getD ((0 : Nat) + k.toNat) (false, (0 : Int), [], [])).snd.snd.snd))) then
 bif decide ((0 : Nat) + (n0.getD ((0 : Nat) + k.toNat) (false, (0 : Int), [], [])).snd.snd.fst.length ≤ (n0.getD ((0 : Nat) + k.toNat) (false, (0 : Int), [], [])).snd.snd.fst.length) && true then
 bif decide ((0 : Nat) + List.length r0.fst ≤ List.length r0.fst) && true then
 bif decide ((0 : Nat) + n0.length ≤ (n0.set ((0 : Nat) + k.toNat) ((n0.getD ((0 : Nat) + k.toNat) (false, (0 : Int), [], [])).fst, (n0.getD ((0 : Nat) + k.toNat) (false, (0 : Int), [], [])).snd.fst, List.take (n0.getD ((0 : Nat) + k.toNat) (false, (0 : Int), [], [])).snd.snd.fst.length (List.drop (0 : Nat) (n0.getD ((0 : Nat) + k.toNat) (false, (0 : Int), [], [])).snd.snd.fst), List.take (List.length r0.fst) (List.drop (0 : Nat) r0.fst))).length) && true then
 some ((List.take ((some (if (↑(List.length (n0.getD ((0 : Nat) + k.toNat) (false, (0 : Int), [], [])).snd.snd.snd) : Int) < many then
 (↑(List.length (n0.getD ((0 : Nat) + k.toNat) (false, (0 : Int), [], [])).snd.snd.snd) : Int) else many)).getD (↑(List.length (n0.getD ((0 : Nat) + k.toNat) (false, (0 : Int), [], [])).snd.snd.snd) : Int) - (0 : Int)).toNat (List.drop (0 : Nat) (n0.getD ((0 : Nat) + k.toNat) (false, (0 : Int), [], [])).snd.snd.snd), (0 : Int)), List.take n0.length (List.drop (0 : Nat) (n0.set ((0 : Nat) + k.toNat) ((n0.getD ((0 : Nat) + k.toNat) (false, (0 : Int), [], [])).fst, (n0.getD ((0 : Nat) + k.toNat) (false, (0 : Int), [], [])).snd.fst, List.take (n0.getD ((0 : Nat) + k.toNat) (false, (0 : Int), [], [])).snd.snd.fst.length (List.drop (0 : Nat) (n0.getD ((0 : Nat) + k.toNat) (false, (0 : Int), [], [])).snd.snd.fst), List.take (List.length r0.fst) (List.drop (0 : Nat) r0.fst)))), n1) else none else none else none else none else bif decide ((0 : Nat) + ((some (if (↑(List.length (n0.getD ((0 : Nat) + k.toNat) (false, (0 : Int), [], [])).snd.snd.snd) : Int) < many then
 (↑(List.length (n0.getD ((0 : Nat) + k.toNat) (false, (0 : Int), [], [])).snd.snd.snd) : Int) else many)).getD (↑(List.length (n0.getD ((0 : Nat) + k.toNat) (false, (0 : Int), [], [])).snd.snd.snd) : Int) - (0 : Int)).toNat ≤ List.length (n0.getD ((0 : Nat) + k.toNat) (false, (0 : Int), [], [])).snd.snd.snd) && (decide (((some (if (↑(List.length (n0.getD ((0 : Nat) + k.toNat) (false, (0 : Int), [], [])).snd.snd.snd) : Int) < many then
 (↑(List.length (n0.getD ((0 : Nat) + k.toNat) (false, (0 : Int), [], [])).snd.snd.snd) : Int) else many)).getD (↑(List.length (n0.getD ((0 : Nat) + k.toNat) (false, (0 : Int), [], [])).snd.snd.snd) : Int) - (0 : Int)).toNat ≤ (if (↑(List.length (n0.getD ((0 : Nat) + k.toNat) (false, (0 : Int), [], [])).snd.snd.snd) : Int) < many then
 (↑(List.length (n0.getD ((0 : Nat) + k.toNat) (false, (0 : Int), [], [])).snd.snd.snd) : Int) else many).toNat - (0 : Nat)) && (false || decide ((0 : Nat) + ((if (↑(List.length (n0.getD ((0 : Nat) + k.toNat) (false, (0 : Int), [], [])).snd.snd.snd) : Int) < many then
 (↑(List.length (n0.getD ((0 : Nat) + k.toNat) (false, (0 : Int), [], [])).snd.snd.snd) : Int) else many).toNat - (0 : Nat)) ≤ List.length (n0.getD ((0 : Nat) + k.toNat) (false, (0 : Int), [], [])).snd.snd.snd))) then
 bif decide ((0 : Nat) + (n0.getD ((0 : Nat) + k.toNat) (false, (0 : Int), [], [])).snd.snd.fst.length ≤ (n0.getD ((0 : Nat) + k.toNat) (false, (0 : Int), [], [])).snd.snd.fst.length) && true then
 bif decide ((0 : Nat) + List.length r0.fst ≤ List.length r0.fst) && true then
 bif decide ((0 : Nat) + n0.length ≤ (n0.set ((0 : Nat) + k.toNat) ((n0.getD ((0 : Nat) + k.toNat) (false, (0 : Int), [], [])).fst, (n0.getD ((0 : Nat) + k.toNat) (false, (0 : Int), [], [])).snd.fst, List.take (n0.getD ((0 : Nat) + k.toNat) (false, (0 : Int), [], [])).snd.snd.fst.length (List.drop (0 : Nat) (n0.getD ((0 : Nat) + k.toNat) (false, (0 : Int), [], [])).snd.snd.fst), List.take (List.length r0.fst) (List.drop (0 : Nat) r0.fst))).length) && true then
 some ((List.take ((some (if (↑(List.length (n0.getD ((0 : Nat) + k.toNat) (false, (0 : Int), [], [])).snd.snd.snd) : Int) < many then
 (↑(List.length (n0.getD ((0 : Nat) + k.toNat) (false, (0 : Int), [], [])).snd.snd.snd) : Int) else many)).getD (↑(List.length (n0.getD ((0 : Nat) + k.toNat) (false, (0 : Int), [], [])).snd.snd.snd) : Int) - (0 : Int)).toNat (List.drop (0 : Nat) (n0.getD ((0 : Nat) + k.toNat) (false, (0 : Int), [], [])).snd.snd.snd), (0 : Int)), List.take n0.length (List.drop (0 : Nat) (n0.set ((0 : Nat) + k.toNat) ((n0.getD ((0 : Nat) + k.toNat) (false, (0 : Int), [], [])).fst, (n0.getD ((0 : Nat) + k.toNat) (false, (0 : Int), [], [])).snd.fst, List.take (n0.getD ((0 : Nat) + k.toNat) (false, (0 : Int), [], [])).snd.snd.fst.length (List.drop (0 : Nat) (n0.getD ((0 : Nat) + k.toNat) (false, (0 : Int), [], [])).snd.snd.fst), List.take (List.length r0.fst) (List.drop (0 : Nat) r0.fst)))), n1) else none else none else none else none else none else none else none else none else bif decide ((0 : Nat) + (if (↑(List.length (n0.getD ((0 : Nat) + k.toNat) (false, (0 : Int), [], [])).snd.snd.snd) : Int) < many then
 (↑(List.length (n0.getD ((0 : Nat) + k.toNat) (false, (0 : Int), [], [])).snd.snd.snd) : Int) else many).toNat + (none.getD (↑(List.length (n0.getD ((0 : Nat) + k.toNat) (false, (0 : Int), [], [])).snd.snd.snd) : Int) - if (↑(List.length (n0.getD ((0 : Nat) + k.toNat) (false, (0 : Int), [], [])).snd.snd.snd) : Int) < many then
 (↑(List.length (n0.getD ((0 : Nat) + k.toNat) (false, (0 : Int), [], [])).snd.snd.snd) : Int) else many).toNat ≤ List.length (n0.getD ((0 : Nat) + k.toNat) (false, (0 : Int), [], [])).snd.snd.snd) && true then
 (x28 (List.take (none.getD (↑(List.length (n0.getD ((0 : Nat) + k.toNat) (false, (0 : Int), [], [])).snd.snd.snd) : Int) - if (↑(List.length (n0.getD ((0 : Nat) + k.toNat) (false, (0 : Int), [], [])).snd.snd.snd) : Int) < many then
 (↑(List.length (n0.getD ((0 : Nat) + k.toNat) (false, (0 : Int), [], [])).snd.snd.snd) : Int) else many).toNat (List.drop ((0 : Nat) + (if (↑(List.length (n0.getD ((0 : Nat) + k.toNat) (false, (0 : Int), [], [])).snd.snd.snd) : Int) < many then
 (↑(List.length (n0.getD ((0 : Nat) + k.toNat) (false, (0 : Int), [], [])).snd.snd.snd) : Int) else many).toNat) (n0.getD ((0 : Nat) + k.toNat) (false, (0 : Int), [], [])).snd.snd.snd))).bind fun r0 => bif decide ((0 : Int) ≤ end0 ∧ end0 < (2 : Int)) then
 bif end0.toNat.beq (0 : Nat) then
 bif decide ((0 : Int) ≤ (0 : Int) ∧ (0 : Int) ≤ (some (if (↑(List.length (n0.getD ((0 : Nat) + k.toNat) (false, (0 : Int), [], [])).snd.snd.snd) : Int) < many then
 (↑(List.length (n0.getD ((0 : Nat) + k.toNat) (false, (0 : Int), [], [])).snd.snd.snd) : Int) else many)).getD (↑(List.length (n0.getD ((0 : Nat) + k.toNat) (false, (0 : Int), [], [])).snd.snd.snd) : Int) ∧ ((some (if (↑(List.length (n0.getD ((0 : Nat) + k.toNat) (false, (0 : Int), [], [])).snd.snd.snd) : Int) < many then
 (↑(List.length (n0.getD ((0 : Nat) + k.toNat) (false, (0 : Int), [], [])).snd.snd.snd) : Int) else many)).getD (↑(List.length (n0.getD ((0 : Nat) + k.toNat) (false, (0 : Int), [], [])).snd.snd.snd) : Int) ≤ if (↑(List.length (n0.getD ((0 : Nat) + k.toNat) (false, (0 : Int), [], [])).snd.snd.snd) : Int) < many then
 (↑(List.length (n0.getD ((0 : Nat) + k.toNat) (false, (0 : Int), [], [])).snd.snd.snd) : Int) else many) ∧ (if (↑(List.length (n0.getD ((0 : Nat) + k.toNat) (false, (0 : Int), [], [])).snd.snd.snd) : Int) < many then
 (↑(List.length (n0.getD ((0 : Nat) + k.toNat) (false, (0 : Int), [], [])).snd.snd.snd) : Int) else many) ≤ (↑(List.length (n0.getD ((0 : Nat) + k.toNat) (false, (0 : Int), [], [])).snd.snd.snd) : Int) ∧ (0 : Nat) + List.length (n0.getD ((0 : Nat) + k.toNat) (false, (0 : Int), [], [])).snd.snd.snd ≤ List.length (n0.getD ((0 : Nat) + k.toNat) (false, (0 : Int), [], [])).snd.snd.snd) then
 bif decide ((↑(if (↑(List.length (n0.getD ((0 : Nat) + k.toNat) (false, (0 : Int), [], [])).snd.snd.snd) : Int) < many then
 (↑(List.length (n0.getD ((0 : Nat) + k.toNat) (false, (0 : Int), [], [])).snd.snd.snd) : Int) else many).toNat : Int) = (0 : Int)) then
 bif decide ((0 : Nat) + ((some (if (↑(List.length (n0.getD ((0 : Nat) + k.toNat) (false, (0 : Int), [], [])).snd.snd.snd) : Int) < many then
 (↑(List.length (n0.getD ((0 : Nat) + k.toNat) (false, (0 : Int), [], [])).snd.snd.snd) : Int) else many)).getD (↑(List.length (n0.getD ((0 : Nat) + k.toNat) (false, (0 : Int), [], [])).snd.snd.snd) : Int) - (0 : Int)).toNat ≤ List.length (n0.getD ((0 : Nat) + k.toNat) (false, (0 : Int), [], [])).snd.snd.snd) && (decide (((some (if (↑(List.length (n0.getD ((0 : Nat) + k.toNat) (false, (0 : Int), [], [])).snd.snd.snd) : Int) < many then
 (↑(List.length (n0.getD ((0 : Nat) + k.toNat) (false, (0 : Int), [], [])).snd.snd.snd) : Int) else many)).getD (↑(List.length (n0.getD ((0 : Nat) + k.toNat) (false, (0 : Int), [], [])).snd.snd.snd) : Int) - (0 : Int)).toNat ≤ (if (↑(List.length (n0.getD ((0 : Nat) + k.toNat) (false, (0 : Int), [], [])).snd.snd.snd) : Int) < many then
 (↑(List.length (n0.getD ((0 : Nat) + k.toNat) (false, (0 : Int), [], [])).snd.snd.snd) : Int) else many).toNat - (0 : Nat)) && (false || decide ((0 : Nat) + ((if (↑(List.length (n0.getD ((0 : Nat) + k.toNat) (false, (0 : Int), [], [])).snd.snd.snd) : Int) < many then
 (↑(List.length (n0.getD ((0 : Nat) + k.toNat) (false, (0 : Int), [], [])).snd.snd.snd) : Int) else many).toNat - (0 : Nat)) ≤ List.length (n0.getD ((0 : Nat) + k.toNat) (false, (0 : Int), [], [])).snd.snd.snd))) then
 bif decide ((0 : Nat) + List.length r0.fst ≤ List.length r0.fst) && true then
 bif decide ((0 : Nat) + List.length (n0.getD ((0 : Nat) + k.toNat) (false, (0 : Int), [], [])).snd.snd.snd ≤ List.length (n0.getD ((0 : Nat) + k.toNat) (false, (0 : Int), [], [])).snd.snd.snd) && true then
 bif decide ((0 : Nat) + n0.length ≤ (n0.set ((0 : Nat) + k.toNat) ((n0.getD ((0 : Nat) + k.toNat) (false, (0 : Int), [], [])).fst, (n0.getD ((0 : Nat) + k.toNat) (false, (0 : Int), [], [])).snd.fst, List.take (List.length r0.fst) (List.drop (0 : Nat) r0.fst), List.take (List.length (n0.getD ((0 : Nat) + k.toNat) (false, (0 : Int), [], [])).snd.snd.snd) (List.drop (0 : Nat) (n0.getD ((0 : Nat) + k.toNat) (false, (0 : Int), [], [])).snd.snd.snd))).length) && true then
 none else none else none else none else none else bif decide ((0 : Nat) + ((some (if (↑(List.length (n0.getD ((0 : Nat) + k.toNat) (false, (0 : Int), [], [])).snd.snd.snd) : Int) < many then
 (↑(List.length (n0.getD ((0 : Nat) + k.toNat) (false, (0 : Int), [], [])).snd.snd.snd) : Int) else many)).getD (↑(List.length (n0.getD ((0 : Nat) + k.toNat) (false, (0 : Int), [], [])).snd.snd.snd) : Int) - (0 : Int)).toNat ≤ List.length (n0.getD ((0 : Nat) + k.toNat) (false, (0 : Int), [], [])).snd.snd.snd) && (decide (((some (if (↑(List.length (n0.getD ((0 : Nat) + k.toNat) (false, (0 : Int), [], [])).snd.snd.snd) : Int) < many then
 (↑(List.length (n0.getD ((0 : Nat) + k.toNat) (false, (0 : Int), [], [])).snd.snd.snd) : Int) else many)).getD (↑(List.length (n0.getD ((0 : Nat) + k.toNat) (false, (0 : Int), [], [])).snd.snd.snd) : Int) - (0 : Int)).toNat ≤ (if (↑(List.length (n0.getD ((0 : Nat) + k.toNat) (false, (0 : Int), [], [])).snd.snd.snd) : Int) < many then
 (↑(List.length (n0.getD ((0 : Nat) + k.toNat) (false, (0 : Int), [], [])).snd.snd.snd) : Int) else many).toNat - (0 : Nat)) && (false || decide ((0 : Nat) + ((if (↑(List.length (n0.getD ((0 : Nat) + k.toNat) (false, (0 : Int), [], [])).snd.snd.snd) : Int) < many then
 (↑(List.length (n0.getD ((0 : Nat) + k.toNat) (false, (0 : Int), [], [])).snd.snd.snd) : Int) else many).toNat - (0 : Nat)) ≤ List.length (n0.getD ((0 : Nat) + k.toNat) (false, (0 : Int), [], [])).snd.snd.snd))) then
 bif decide ((0 : Nat) + List.length r0.fst ≤ List.length r0.fst) && true then
 bif decide ((0 : Nat) + List.length (n0.getD ((0 : Nat) + k.toNat) (false, (0 : Int), [], [])).snd.snd.snd ≤ List.length (n0.getD ((0 : Nat) + k.toNat) (false, (0 : Int), [], [])).snd.snd.snd) && true then
 bif decide ((0 : Nat) + n0.length ≤ (n0.set ((0 : Nat) + k.toNat) ((n0.getD ((0 : Nat) + k.toNat) (false, (0 : Int), [], [])).fst, (n0.getD ((0 : Nat) + k.toNat) (false, (0 : Int), [], [])).snd.fst, List.take (List.length r0.fst) (List.drop (0 : Nat) r0.fst), List.take (List.length (n0.getD ((0 : Nat) + k.toNat) (false, (0 : Int), [], [])).snd.snd.snd) (List.drop (0 : Nat) (n0.getD ((0 : Nat) + k.toNat) (false, (0 : Int), [], [])).snd.snd.snd))).length) && true then
 none else none else none else none else none else none else bif end0.toNat.beq (1 : Nat) then
 bif decide ((0 : Int) ≤ (0 : Int) ∧ (0 : Int) ≤ (some (if (↑(List.length (n0.getD ((0 : Nat) + k.toNat) (false, (0 : Int), [], [])).snd.snd.snd) : Int) < many then
 (↑(List.length (n0.getD ((0 : Nat) + k.toNat) (false, (0 : Int), [], [])).snd.snd.snd) : Int) else many)).getD (↑(List.length (n0.getD ((0 : Nat) + k.toNat) (false, (0 : Int), [], [])).snd.snd.snd) : Int) ∧ ((some (if (↑(List.length (n0.getD ((0 : Nat) + k.toNat) (false, (0 : Int), [], [])).snd.snd.snd) : Int) < many then
 (↑(List.length (n0.getD ((0 : Nat) + k.toNat) (false, (0 : Int), [], [])).snd.snd.snd) : Int) else many)).getD (↑(List.length (n0.getD ((0 : Nat) + k.toNat) (false, (0 : Int), [], [])).snd.snd.snd) : Int) ≤ if (↑(List.length (n0.getD ((0 : Nat) + k.toNat) (false, (0 : Int), [], [])).snd.snd.snd) : Int) < many then
 (↑(List.length (n0.getD ((0 : Nat) + k.toNat) (false, (0 : Int), [], [])).snd.snd.snd) : Int) else many) ∧ (if (↑(List.length (n0.getD ((0 : Nat) + k.toNat) (false, (0 : Int), [], [])).snd.snd.snd) : Int) < many then
 (↑(List.length (n0.getD ((0 : Nat) + k.toNat) (false, (0 : Int), [], [])).snd.snd.snd) : Int) else many) ≤ (↑(List.length (n0.getD ((0 : Nat) + k.toNat) (false, (0 : Int), [], [])).snd.snd.snd) : Int) ∧ (0 : Nat) + List.length (n0.getD ((0 : Nat) + k.toNat) (false, (0 : Int), [], [])).snd.snd.snd ≤ List.length (n0.getD ((0 : Nat) + k.toNat) (false, (0 : Int), [], [])).snd.snd.snd) then
 bif decide ((↑(if (↑(List.length (n0.getD ((0 : Nat) + k.toNat) (false, (0 : Int), [], [])).snd.snd.snd) : Int) < many then
 (↑(List.length (n0.getD ((0 : Nat) + k.toNat) (false, (0 : Int), [], [])).snd.snd.snd) : Int) else many).toNat : Int) = (0 : Int)) then
 bif decide ((0 : Nat) + ((some (if (↑(List.length (n0.getD ((0 : Nat) + k.toNat) (false, (0 : Int), [], [])).snd.snd.snd) : Int) < many then
 (↑(List.length (n0.getD ((0 : Nat) + k.toNat) (false, (0 : Int), [], [])).snd.snd.snd) : Int) else many)).getD (↑(List.length (n0.getD ((0 : Nat) + k.toNat) (false, (0 : Int), [], [])).snd.snd.snd) : Int) - (0 : Int)).toNat ≤ List.length (n0.getD ((0 : Nat) + k.toNat) (false, (0 : Int), [], [])).snd.snd.snd) && (decide (((some (if (↑(List.length (n0.getD ((0 : Nat) + k.toNat) (false, (0 : Int), [], [])).snd.snd.snd) : Int) < many then
 (↑(List.length (n0.getD ((0 : Nat) + k.toNat) (false, (0 : Int), [], [])).snd.snd.snd) : Int) else many)).getD (↑(List.length (n0.getD ((0 : Nat) + k.toNat) (false, (0 : Int), [], [])).snd.snd.snd) : Int) - (0 : Int)).toNat ≤ (if (↑(List.length (n0.getD ((0 : Nat) + k.toNat) (false, (0 : Int), [], [])).snd.snd.snd) : Int) < many then
 (↑(List.length (n0.getD ((0 : Nat) + k.toNat) (false, (0 : Int), [], [])).snd.snd.snd) : Int) else many).toNat - (0 : Nat)) && (false || decide ((0 : Nat) + ((if (↑(List.length (n0.getD ((0 : Nat) + k.toNat) (false, (0 : Int), [], [])).snd.snd.snd) : Int) < many then
 (↑(List.length (n0.getD ((0 : Nat) + k.toNat) (false, (0 : Int), [], [])).snd.snd.snd) : Int) else many).toNat - (0 : Nat)) ≤ List.length (n0.getD ((0 : Nat) + k.toNat) (false, (0 : Int), [], [])).snd.snd.snd))) then
 bif decide ((0 : Nat) + (n0.getD ((0 : Nat) + k.toNat) (false, (0 : Int), [], [])).snd.snd.fst.length ≤ (n0.getD ((0 : Nat) + k.toNat) (false, (0 : Int), [], [])).snd.snd.fst.length) && true then
 bif decide ((0 : Nat) + List.length r0.fst ≤ List.length r0.fst) && true then
 bif decide ((0 : Nat) + n0.length ≤ (n0.set ((0 : Nat) + k.toNat) ((n0.getD ((0 : Nat) + k.toNat) (false, (0 : Int), [], [])).fst, (n0.getD ((0 : Nat) + k.toNat) (false, (0 : Int), [], [])).snd.fst, List.take (n0.getD ((0 : Nat) + k.toNat) (false, (0 : Int), [], [])).snd.snd.fst.length (List.drop (0 : Nat) (n0.getD ((0 : Nat) + k.toNat) (false, (0 : Int), [], [])).snd.snd.fst), List.take (List.length r0.fst) (List.drop (0 : Nat) r0.fst))).length) && true then
 some ((List.take ((some (if (↑(List.length (n0.getD ((0 : Nat) + k.toNat) (false, (0 : Int), [], [])).snd.snd.snd) : Int) < many then
 (↑(List.length (n0.getD ((0 : Nat) + k.toNat) (false, (0 : Int), [], [])).snd.snd.snd) : Int) else many)).getD (↑(List.length (n0.getD ((0 : Nat) + k.toNat) (false, (0 : Int), [], [])).snd.snd.snd) : Int) - (0 : Int)).toNat (List.drop (0 : Nat) (n0.getD ((0 : Nat) + k.toNat) (false, (0 : Int), [], [])).snd.snd.snd), (0 : Int)), List.take n0.length (List.drop (0 : Nat) (n0.set ((0 : Nat) + k.toNat) ((n0.getD ((0 : Nat) + k.toNat) (false, (0 : Int), [], [])).fst, (n0.getD ((0 : Nat) + k.toNat) (false, (0 : Int), [], [])).snd.fst, List.take (n0.getD ((0 : Nat) + k.toNat) (false, (0 : Int), [], [])).snd.snd.fst.length (List.drop (0 : Nat) (n0.getD ((0 : Nat) + k.toNat) (false, (0 : Int), [], [])).snd.snd.fst), List.take (List.length r0.fst) (List.drop (0 : Nat) r0.fst)))), n1) else none else none else none else none else bif decide ((0 : Nat) + ((some (if (↑(List.length (n0.getD ((0 : Nat) + k.toNat) (false, (0 : Int), [], [])).snd.snd.snd) : Int) < many then
 (↑(List.length (n0.getD ((0 : Nat) + k.toNat) (false, (0 : Int), [], [])).snd.snd.snd) : Int) else many)).getD (↑(List.length (n0.getD ((0 : Nat) + k.toNat) (false, (0 : Int), [], [])).snd.snd.snd) : Int) - (0 : Int)).toNat ≤ List.length (n0.getD ((0 : Nat) + k.toNat) (false, (0 : Int), [], [])).snd.snd.snd) && (decide (((some (if (↑(List.length (n0.getD ((0 : Nat) + k.toNat) (false, (0 : Int), [], [])).snd.snd.snd) : Int) < many then
 (↑(List.length (n0.getD ((0 : Nat) + k.toNat) (false, (0 : Int), [], [])).snd.snd.snd) : Int) else many)).getD (↑(List.length (n0.getD ((0 : Nat) + k.toNat) (false, (0 : Int), [], [])).snd.snd.snd) : Int) - (0 : Int)).toNat ≤ (if (↑(List.length (n0.getD ((0 : Nat) + k.toNat) (false, (0 : Int), [], [])).snd.snd.snd) : Int) < many then
 (↑(List.length (n0.getD ((0 : Nat) + k.toNat) (false, (0 : Int), [], [])).snd.snd.snd) : Int) else many).toNat - (0 : Nat)) && (false || decide ((0 : Nat) + ((if (↑(List.length (n0.getD ((0 : Nat) + k.toNat) (false, (0 : Int), [], [])).snd.snd.snd) : Int) < many then
 (↑(List.length (n0.getD ((0 : Nat) + k.toNat) (false, (0 : Int), [], [])).snd.snd.snd) : Int) else many).toNat - (0 : Nat)) ≤ List.length (n0.getD ((0 : Nat) + k.toNat) (false, (0 : Int), [], [])).snd.snd.snd))) then
 bif decide ((0 : Nat) + (n0.getD ((0 : Nat) + k.toNat) (false, (0 : Int), [], [])).snd.snd.fst.length ≤ (n0.getD ((0 : Nat) + k.toNat) (false, (0 : Int), [], [])).snd.snd.fst.length) && true then
 bif decide ((0 : Nat) + List.length r0.fst ≤ List.length r0.fst) && true then
 bif decide ((0 : Nat) + n0.length ≤ (n0.set ((0 : Nat) + k.toNat) ((n0.getD ((0 : Nat) + k.toNat) (false, (0 : Int), [], [])).fst, (n0.getD ((0 : Nat) + k.toNat) (false, (0 : Int), [], [])).snd.fst, List.take (n0.getD ((0 : Nat) + k.toNat) (false, (0 : Int), [], [])).snd.snd.fst.length (List.drop (0 : Nat) (n0.getD ((0 : Nat) + k.toNat) (false, (0 : Int), [], [])).snd.snd.fst), List.take (List.length r0.fst) (List.drop (0 : Nat) r0.fst))).length) && true then
 some ((List.take ((some (if (↑(List.length (n0.getD ((0 : Nat) + k.toNat) (false, (0 : Int), [], [])).snd.snd.snd) : Int) < many then
 (↑(List.length (n0.getD ((0 : Nat) + k.toNat) (false, (0 : Int), [], [])).snd.snd.snd) : Int) else many)).getD (↑(List.length (n0.getD ((0 : Nat) + k.toNat) (false, (0 : Int), [], [])).snd.snd.snd) : Int) - (0 : Int)).toNat (List.drop (0 : Nat) (n0.getD ((0 : Nat) + k.toNat) (false, (0 : Int), [], [])).snd.snd.snd), (0 : Int)), List.take n0.length (List.drop (0 : Nat) (n0.set ((0 : Nat) + k.toNat) ((n0.getD ((0 : Nat) + k.toNat) (false, (0 : Int), [], [])).fst, (n0.getD ((0 : Nat) + k.toNat) (false, (0 : Int), [], [])).snd.fst, List.take (n0.getD ((0 : Nat) + k.toNat) (false, (0 : Int), [], [])).snd.snd.fst.length (List.drop (0 : Nat) (n0.getD ((0 : Nat) + k.toNat) (false, (0 : Int), [], [])).snd.snd.fst), List.take (List.length r0.fst) (List.drop (0 : Nat) r0.fst)))), n1) else none else none else none else none else none else none else none else none else none else none else none else none else none
theorem fe (x28 : F28.FT) (d : ((List (Bool × Int × List (Int) × List (Int))) × Bool) × Int × Int × Int) : bodyF (tabC Try.prog (tab x28) ((13, .none) :: pls x28) 100 10) 100 13 i o d = fP x28 d := by kernel_rfl
noncomputable def f : FT := fP F28.f
def plan : Plan := .none
theorem planOk : PlanOk Try.prog (plan) (bodyOf Try.prog 13) := (planOk_of (plan) _ [] (by kernel_rfl) trivial)
theorem meets : MeetsF Try.prog 13 ⟨i, o, f⟩ :=
  funcT (fuel := 100) (depth := 10) (pl := (13, plan) :: pls F28.f) mixed tabS ⟨planOk, plsP⟩ (fun d => fe F28.f d)
theorem spec : SpecOk Try.prog (fun _ => none) 13 (specF ⟨i, o, f⟩) := specF_ok (by kernel_rfl) meets
end Go.Proofs.Yteoiaihjapddoaa.F13

/- What comes of function 15 of this program, (*consulate.net.Net).Cut, as the engine gives it. -/
namespace Go.Proofs.Yteoiaihjapddoaa.F15
open Go Go.Proofs Go.Proofs.Yteoiaihjapddoaa Go.RowKit Go.Proofs.Yteoiaihjapddoaa.Sx
set_option linter.unusedVariables false
set_option maxRecDepth 100000
def tab : List (FuncId × Sx.Spec) := []
def pls : List (FuncId × Plan) := []
@[reducible] def i : Sh := .pt true 59 (.sl true 61 (.sc .bool (.sc (.int .i64) (.sl true 5 (.sc (.int .u8) .nil) (.sl true 5 (.sc (.int .u8) .nil) .nil)))) (.sc .bool .nil)) (.sc (.int .i64) .nil)
@[reducible] def o : Sh := .sc (.int .i64) .nil
abbrev FT := (((List (Bool × Int × List (Int) × List (Int))) × Bool) × Int) → Option (Int × (((List (Bool × Int × List (Int) × List (Int))) × Bool)))
theorem tabS : AllS Try.prog (tab) := trivial
theorem plsP : AllP Try.prog (pls) := trivial
theorem mixed : Try.prog.follows .mixedOrders = true := by kernel_rfl
def fP : FT := fun ((n0, n1), k) =>
    bif !n1 then some (2, n0, n1)
    else
      bif decide (k < 0) then some (6, n0, n1)
      else
       bif decide (k ≥ (↑n0.length : Int)) then
       bif decide (0 + n0.length ≤ n0.length) && true then some (6, List.take n0.length n0, n1) else none
       else
       bif decide (0 ≤ k ∧ k < (↑n0.length : Int) ∧ 0 < n0.length) then
       bif decide (0 + k.toNat < n0.length) then
       bif !(n0.getD (0 + k.toNat) (false, 0, [], [])).fst then
       bif
       decide
       (0 + (n0.getD (0 + k.toNat) (false, 0, [], [])).snd.snd.fst.length ≤
       (n0.getD (0 + k.toNat) (false, 0, [], [])).snd.snd.fst.length) &&
       true then
       bif
       decide
       (0 + List.length (n0.getD (0 + k.toNat) (false, 0, [], [])).snd.snd.snd ≤
       List.length (n0.getD (0 + k.toNat) (false, 0, [], [])).snd.snd.snd) &&
       true then
       bif
       decide
       (0 + n0.length ≤
       (n0.set (0 + k.toNat)
       ((n0.getD (0 + k.toNat) (false, 0, [], [])).fst,
       (n0.getD (0 + k.toNat) (false, 0, [], [])).snd.fst,
       List.take (n0.getD (0 + k.toNat) (false, 0, [], [])).snd.snd.fst.length
       (List.drop 0 (n0.getD (0 + k.toNat) (false, 0, [], [])).snd.snd.fst),
       List.take (List.length (n0.getD (0 + k.toNat) (false, 0, [], [])).snd.snd.snd)
       (List.drop 0 (n0.getD (0 + k.toNat) (false, 0, [], [])).snd.snd.snd))).length) &&
       true then
       some
       (10,
       List.take n0.length
       (List.drop 0
       (n0.set (0 + k.toNat)
       ((n0.getD (0 + k.toNat) (false, 0, [], [])).fst,
       (n0.getD (0 + k.toNat) (false, 0, [], [])).snd.fst,
       List.take (n0.getD (0 + k.toNat) (false, 0, [], [])).snd.snd.fst.length
       (List.drop 0 (n0.getD (0 + k.toNat) (false, 0, [], [])).snd.snd.fst),
       List.take (List.length (n0.getD (0 + k.toNat) (false, 0, [], [])).snd.snd.snd)
       (List.drop 0 (n0.getD (0 + k.toNat) (false, 0, [], [])).snd.snd.snd)))),
       n1)
       else none
       else none
       else none
       else
       bif
       decide
       (0 + n0.length ≤
       (n0.set (0 + k.toNat)
       (false, IntKind.i64.wrap ((n0.getD (0 + k.toNat) (false, 0, [], [])).snd.fst + 1), [],
       [])).length) &&
       true then
       some
       (0,
       List.take n0.length
       (List.drop 0
       (n0.set (0 + k.toNat)
       (false, IntKind.i64.wrap ((n0.getD (0 + k.toNat) (false, 0, [], [])).snd.fst + 1), [], []))),
       n1)
       else none
       else none
       else none
theorem fe (d : ((List (Bool × Int × List (Int) × List (Int))) × Bool) × Int) : bodyF (tabC Try.prog (tab) ((15, .none) :: pls) 100 10) 100 15 i o d = fP d := by kernel_rfl
noncomputable def f : FT := fP
def plan : Plan := .none
theorem planOk : PlanOk Try.prog (plan) (bodyOf Try.prog 15) := (planOk_of (plan) _ [] (by kernel_rfl) trivial)
theorem meets : MeetsF Try.prog 15 ⟨i, o, f⟩ :=
  funcT (fuel := 100) (depth := 10) (pl := (15, plan) :: pls) mixed tabS ⟨planOk, plsP⟩ (fun d => fe  d)
theorem spec : SpecOk Try.prog (fun _ => none) 15 (specF ⟨i, o, f⟩) := specF_ok (by kernel_rfl) meets
end Go.Proofs.Yteoiaihjapddoaa.F15

/- What comes of function 17 of this program, (*consulate.net.Net).Is, as the engine gives it. -/
namespace Go.Proofs.Yteoiaihjapddoaa.F17
open Go Go.Proofs Go.Proofs.Yteoiaihjapddoaa Go.RowKit Go.Proofs.Yteoiaihjapddoaa.Sx
set_option linter.unusedVariables false
set_option maxRecDepth 100000
def tab : List (FuncId × Sx.Spec) := []
def pls : List (FuncId × Plan) := []
@[reducible] def i : Sh := .pt true 59 (.sl true 61 (.sc .bool (.sc (.int .i64) (.sl true 5 (.sc (.int .u8) .nil) (.sl true 5 (.sc (.int .u8) .nil) .nil)))) (.sc .bool .nil)) (.sc (.int .i64) .nil)
@[reducible] def o : Sh := .sc .bool .nil
abbrev FT := (((List (Bool × Int × List (Int) × List (Int))) × Bool) × Int) → Option (Bool × (((List (Bool × Int × List (Int) × List (Int))) × Bool)))
theorem tabS : AllS Try.prog (tab) := trivial
theorem plsP : AllP Try.prog (pls) := trivial
theorem mixed : Try.prog.follows .mixedOrders = true := by kernel_rfl
def fP : FT := fun ((n0, n1), k) =>
    bif !n1 then some (false, n0, n1)
    else
      bif decide (k < 0) then some (false, n0, n1)
      else
       bif decide (k ≥ (↑n0.length : Int)) then
       bif decide (0 + n0.length ≤ n0.length) && true then some (false, List.take n0.length n0, n1) else none
       else
       bif decide (0 ≤ k ∧ k < (↑n0.length : Int) ∧ 0 < n0.length) then
       bif decide (0 + k.toNat < n0.length) then
       bif
       decide
       (0 + (n0.getD (0 + k.toNat) (false, 0, [], [])).snd.snd.fst.length ≤
       (n0.getD (0 + k.toNat) (false, 0, [], [])).snd.snd.fst.length) &&
       true then
       bif
       decide
       (0 + List.length (n0.getD (0 + k.toNat) (false, 0, [], [])).snd.snd.snd ≤
       List.length (n0.getD (0 + k.toNat) (false, 0, [], [])).snd.snd.snd) &&
       true then
       bif
       decide
       (0 + n0.length ≤
       (n0.set (0 + k.toNat)
       ((n0.getD (0 + k.toNat) (false, 0, [], [])).fst,
       (n0.getD (0 + k.toNat) (false, 0, [], [])).snd.fst,
       List.take (n0.getD (0 + k.toNat) (false, 0, [], [])).snd.snd.fst.length
       (List.drop 0 (n0.getD (0 + k.toNat) (false, 0, [], [])).snd.snd.fst),
       List.take (List.length (n0.getD (0 + k.toNat) (false, 0, [], [])).snd.snd.snd)
       (List.drop 0 (n0.getD (0 + k.toNat) (false, 0, [], [])).snd.snd.snd))).length) &&
       true then
       some
       ((n0.getD (0 + k.toNat) (false, 0, [], [])).fst,
       List.take n0.length
       (List.drop 0
       (n0.set (0 + k.toNat)
       ((n0.getD (0 + k.toNat) (false, 0, [], [])).fst,
       (n0.getD (0 + k.toNat) (false, 0, [], [])).snd.fst,
       List.take (n0.getD (0 + k.toNat) (false, 0, [], [])).snd.snd.fst.length
       (List.drop 0 (n0.getD (0 + k.toNat) (false, 0, [], [])).snd.snd.fst),
       List.take (List.length (n0.getD (0 + k.toNat) (false, 0, [], [])).snd.snd.snd)
       (List.drop 0 (n0.getD (0 + k.toNat) (false, 0, [], [])).snd.snd.snd)))),
       n1)
       else none
       else none
       else none
       else none
       else none
theorem fe (d : ((List (Bool × Int × List (Int) × List (Int))) × Bool) × Int) : bodyF (tabC Try.prog (tab) ((17, .none) :: pls) 100 10) 100 17 i o d = fP d := by kernel_rfl
noncomputable def f : FT := fP
def plan : Plan := .none
theorem planOk : PlanOk Try.prog (plan) (bodyOf Try.prog 17) := (planOk_of (plan) _ [] (by kernel_rfl) trivial)
theorem meets : MeetsF Try.prog 17 ⟨i, o, f⟩ :=
  funcT (fuel := 100) (depth := 10) (pl := (17, plan) :: pls) mixed tabS ⟨planOk, plsP⟩ (fun d => fe  d)
theorem spec : SpecOk Try.prog (fun _ => none) 17 (specF ⟨i, o, f⟩) := specF_ok (by kernel_rfl) meets
end Go.Proofs.Yteoiaihjapddoaa.F17

/- What comes of function 18 of this program, (*consulate.net.Net).Turn, as the engine gives it. -/
namespace Go.Proofs.Yteoiaihjapddoaa.F18
open Go Go.Proofs Go.Proofs.Yteoiaihjapddoaa Go.RowKit Go.Proofs.Yteoiaihjapddoaa.Sx
set_option linter.unusedVariables false
set_option maxRecDepth 100000
def tab : List (FuncId × Sx.Spec) := []
def pls : List (FuncId × Plan) := []
@[reducible] def i : Sh := .pt true 59 (.sl true 61 (.sc .bool (.sc (.int .i64) (.sl true 5 (.sc (.int .u8) .nil) (.sl true 5 (.sc (.int .u8) .nil) .nil)))) (.sc .bool .nil)) (.sc (.int .i64) .nil)
@[reducible] def o : Sh := .sc (.int .i64) .nil
abbrev FT := (((List (Bool × Int × List (Int) × List (Int))) × Bool) × Int) → Option (Int × (((List (Bool × Int × List (Int) × List (Int))) × Bool)))
theorem tabS : AllS Try.prog (tab) := trivial
theorem plsP : AllP Try.prog (pls) := trivial
theorem mixed : Try.prog.follows .mixedOrders = true := by kernel_rfl
def fP : FT := fun ((n0, n1), k) =>
    bif !n1 then some (0, n0, n1)
    else
      bif decide (k < 0) then some (0, n0, n1)
      else
       bif decide (k ≥ (↑n0.length : Int)) then
       bif decide (0 + n0.length ≤ n0.length) && true then some (0, List.take n0.length n0, n1) else none
       else
       bif decide (0 ≤ k ∧ k < (↑n0.length : Int) ∧ 0 < n0.length) then
       bif decide (0 + k.toNat < n0.length) then
       bif
       decide
       (0 + (n0.getD (0 + k.toNat) (false, 0, [], [])).snd.snd.fst.length ≤
       (n0.getD (0 + k.toNat) (false, 0, [], [])).snd.snd.fst.length) &&
       true then
       bif
       decide
       (0 + List.length (n0.getD (0 + k.toNat) (false, 0, [], [])).snd.snd.snd ≤
       List.length (n0.getD (0 + k.toNat) (false, 0, [], [])).snd.snd.snd) &&
       true then
       bif
       decide
       (0 + n0.length ≤
       (n0.set (0 + k.toNat)
       ((n0.getD (0 + k.toNat) (false, 0, [], [])).fst,
       (n0.getD (0 + k.toNat) (false, 0, [], [])).snd.fst,
       List.take (n0.getD (0 + k.toNat) (false, 0, [], [])).snd.snd.fst.length
       (List.drop 0 (n0.getD (0 + k.toNat) (false, 0, [], [])).snd.snd.fst),
       List.take (List.length (n0.getD (0 + k.toNat) (false, 0, [], [])).snd.snd.snd)
       (List.drop 0 (n0.getD (0 + k.toNat) (false, 0, [], [])).snd.snd.snd))).length) &&
       true then
       some
       ((n0.getD (0 + k.toNat) (false, 0, [], [])).snd.fst,
       List.take n0.length
       (List.drop 0
       (n0.set (0 + k.toNat)
       ((n0.getD (0 + k.toNat) (false, 0, [], [])).fst,
       (n0.getD (0 + k.toNat) (false, 0, [], [])).snd.fst,
       List.take (n0.getD (0 + k.toNat) (false, 0, [], [])).snd.snd.fst.length
       (List.drop 0 (n0.getD (0 + k.toNat) (false, 0, [], [])).snd.snd.fst),
       List.take (List.length (n0.getD (0 + k.toNat) (false, 0, [], [])).snd.snd.snd)
       (List.drop 0 (n0.getD (0 + k.toNat) (false, 0, [], [])).snd.snd.snd)))),
       n1)
       else none
       else none
       else none
       else none
       else none
theorem fe (d : ((List (Bool × Int × List (Int) × List (Int))) × Bool) × Int) : bodyF (tabC Try.prog (tab) ((18, .none) :: pls) 100 10) 100 18 i o d = fP d := by kernel_rfl
noncomputable def f : FT := fP
def plan : Plan := .none
theorem planOk : PlanOk Try.prog (plan) (bodyOf Try.prog 18) := (planOk_of (plan) _ [] (by kernel_rfl) trivial)
theorem meets : MeetsF Try.prog 18 ⟨i, o, f⟩ :=
  funcT (fuel := 100) (depth := 10) (pl := (18, plan) :: pls) mixed tabS ⟨planOk, plsP⟩ (fun d => fe  d)
theorem spec : SpecOk Try.prog (fun _ => none) 18 (specF ⟨i, o, f⟩) := specF_ok (by kernel_rfl) meets
end Go.Proofs.Yteoiaihjapddoaa.F18
