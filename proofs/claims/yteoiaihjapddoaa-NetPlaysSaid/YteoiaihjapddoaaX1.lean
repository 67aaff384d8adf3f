/- What comes of function 9 of this program, (*consulate.net.Net).Add, as the engine gives it. -/
import Derived.Test.YteoiaihjapddoaaChecked
import Derived.Test.YteoiaihjapddoaaZO
namespace Go.Proofs.Yteoiaihjapddoaa.F9
open Go Go.Proofs Go.Proofs.Yteoiaihjapddoaa Go.RowKit Go.Proofs.Yteoiaihjapddoaa.Sx
set_option linter.unusedVariables false
set_option maxRecDepth 100000
def tab : List (FuncId × Sx.Spec) := []
def pls : List (FuncId × Plan) := []
@[reducible] def i : Sh := .pt true 59 (.sl true 61 (.sc .bool (.sc (.int .i64) (.sl true 5 (.sc (.int .u8) .nil) (.sl true 5 (.sc (.int .u8) .nil) .nil)))) (.sc .bool .nil)) .nil
@[reducible] def o : Sh := .sc (.int .i64) (.sc (.int .i64) .nil)
abbrev FT := (((List (Bool × Int × List (Int) × List (Int))) × Bool)) → Option ((Int × Int) × (((List (Bool × Int × List (Int) × List (Int))) × Bool)))
theorem tabS : AllS Try.prog (tab) := trivial
theorem plsP : AllP Try.prog (pls) := trivial
theorem mixed : Try.prog.follows .mixedOrders = true := by kernel_rfl
def fP : FT := fun (n0, n1) =>
    bif !n1 then some ((0, 2), n0, n1)
    else
      bif decide ((↑n0.length : Int) ≥ 64) then
       bif decide (0 + n0.length ≤ n0.length) && true then some ((0, 7), List.take n0.length n0, n1) else none
      else
       bif decide (n0.length + 1 ≤ 1073741824) then
       bif decide (0 + n0.length ≤ n0.length) then
       bif decide (0 + (n0.length + 1) ≤ (List.take n0.length n0 ++ [(false, 0, [], [])]).length) && true then
       some
       ((IntKind.i64.wrap ((↑(n0.length + 1) : Int) - 1), 0),
       List.take (n0.length + 1) (List.drop 0 (List.take n0.length n0 ++ [(false, 0, [], [])])), n1)
       else none
       else none
       else none
theorem fe (d : ((List (Bool × Int × List (Int) × List (Int))) × Bool)) : bodyF (tabC Try.prog (tab) ((9, .none) :: pls) 100 10) 100 9 i o d = fP d := by kernel_rfl
noncomputable def f : FT := fP
def plan : Plan := .none
theorem planOk : PlanOk Try.prog (plan) (bodyOf Try.prog 9) := (planOk_of (plan) _ [] (by kernel_rfl) trivial)
theorem meets : MeetsF Try.prog 9 ⟨i, o, f⟩ :=
  funcT (fuel := 100) (depth := 10) (pl := (9, plan) :: pls) mixed tabS ⟨planOk, plsP⟩ (fun d => fe  d)
theorem spec : SpecOk Try.prog (fun _ => none) 9 (specF ⟨i, o, f⟩) := specF_ok (by kernel_rfl) meets
end Go.Proofs.Yteoiaihjapddoaa.F9

/- What comes of function 10 of this program, (*consulate.net.Net).Up, as the engine gives it. -/
namespace Go.Proofs.Yteoiaihjapddoaa.F10
open Go Go.Proofs Go.Proofs.Yteoiaihjapddoaa Go.RowKit Go.Proofs.Yteoiaihjapddoaa.Sx
set_option linter.unusedVariables false
set_option maxRecDepth 100000
def tab : List (FuncId × Sx.Spec) := []
def pls : List (FuncId × Plan) := []
@[reducible] def i : Sh := .pt true 59 (.sl true 61 (.sc .bool (.sc (.int .i64) (.sl true 5 (.sc (.int .u8) .nil) (.sl true 5 (.sc (.int .u8) .nil) .nil)))) (.sc .bool .nil)) (.sc (.int .i64) .nil)
@[reducible] def o : Sh := .sc (.int .i64) .nil
abbrev FT := (((List (Bool × Int × List (Int) × List (Int))) × Bool) × Int) → Option (Int × (((List (Bool × Int × List (Int) × List (Int))) × Bool)))
theorem tabS : AllS Try.prog (tab) := trivial
theorem plsP : AllP Try.prog (pls) := trivial
theorem mixed : Try.prog.follows .mixedOrders = true := by kernel_rfl
def fP : FT := fun ((n0, n1), k) =>
    bif !n1 then some (2, n0, n1)
    else
      bif decide (k < 0) then some (6, n0, n1)
      else
       bif decide (k ≥ (↑n0.length : Int)) then
       bif decide (0 + n0.length ≤ n0.length) && true then some (6, List.take n0.length n0, n1) else none
       else
       bif decide (0 ≤ k ∧ k < (↑n0.length : Int) ∧ 0 < n0.length) then
       bif decide (0 + k.toNat < n0.length) then
       bif
       decide
       (0 + (n0.getD (0 + k.toNat) (false, 0, [], [])).snd.snd.fst.length ≤
       (n0.getD (0 + k.toNat) (false, 0, [], [])).snd.snd.fst.length) &&
       true then
       bif
       decide
       (0 + List.length (n0.getD (0 + k.toNat) (false, 0, [], [])).snd.snd.snd ≤
       List.length (n0.getD (0 + k.toNat) (false, 0, [], [])).snd.snd.snd) &&
       true then
       bif
       decide
       (0 + n0.length ≤
       (n0.set (0 + k.toNat)
       (true, (n0.getD (0 + k.toNat) (false, 0, [], [])).snd.fst,
       List.take (n0.getD (0 + k.toNat) (false, 0, [], [])).snd.snd.fst.length
       (List.drop 0 (n0.getD (0 + k.toNat) (false, 0, [], [])).snd.snd.fst),
       List.take (List.length (n0.getD (0 + k.toNat) (false, 0, [], [])).snd.snd.snd)
       (List.drop 0 (n0.getD (0 + k.toNat) (false, 0, [], [])).snd.snd.snd))).length) &&
       true then
       some
       (0,
       List.take n0.length
       (List.drop 0
       (n0.set (0 + k.toNat)
       (true, (n0.getD (0 + k.toNat) (false, 0, [], [])).snd.fst,
       List.take (n0.getD (0 + k.toNat) (false, 0, [], [])).snd.snd.fst.length
       (List.drop 0 (n0.getD (0 + k.toNat) (false, 0, [], [])).snd.snd.fst),
       List.take (List.length (n0.getD (0 + k.toNat) (false, 0, [], [])).snd.snd.snd)
       (List.drop 0 (n0.getD (0 + k.toNat) (false, 0, [], [])).snd.snd.snd)))),
       n1)
       else none
       else none
       else none
       else none
       else none
theorem fe (d : ((List (Bool × Int × List (Int) × List (Int))) × Bool) × Int) : bodyF (tabC Try.prog (tab) ((10, .none) :: pls) 100 10) 100 10 i o d = fP d := by kernel_rfl
noncomputable def f : FT := fP
def plan : Plan := .none
theorem planOk : PlanOk Try.prog (plan) (bodyOf Try.prog 10) := (planOk_of (plan) _ [] (by kernel_rfl) trivial)
theorem meets : MeetsF Try.prog 10 ⟨i, o, f⟩ :=
  funcT (fuel := 100) (depth := 10) (pl := (10, plan) :: pls) mixed tabS ⟨planOk, plsP⟩ (fun d => fe  d)
theorem spec : SpecOk Try.prog (fun _ => none) 10 (specF ⟨i, o, f⟩) := specF_ok (by kernel_rfl) meets
end Go.Proofs.Yteoiaihjapddoaa.F10

/- What comes of function 11 of this program, (*consulate.net.Net).Send, as the engine gives it. -/
namespace Go.Proofs.Yteoiaihjapddoaa.F11
open Go Go.Proofs Go.Proofs.Yteoiaihjapddoaa Go.RowKit Go.Proofs.Yteoiaihjapddoaa.Sx
set_option linter.unusedVariables false
set_option maxRecDepth 100000
def tab : List (FuncId × Sx.Spec) := []
def pls : List (FuncId × Plan) := []
@[reducible] def i : Sh := .pt true 59 (.sl true 61 (.sc .bool (.sc (.int .i64) (.sl true 5 (.sc (.int .u8) .nil) (.sl true 5 (.sc (.int .u8) .nil) .nil)))) (.sc .bool .nil)) (.sc (.int .i64) (.sc (.int .i64) (.sl false 5 (.sc (.int .u8) .nil) .nil)))
@[reducible] def o : Sh := .sc (.int .i64) .nil
abbrev FT := (((List (Bool × Int × List (Int) × List (Int))) × Bool) × Int × Int × List (Int)) → Option (Int × (((List (Bool × Int × List (Int) × List (Int))) × Bool)))
theorem tabS : AllS Try.prog (tab) := trivial
theorem plsP : AllP Try.prog (pls) := trivial
theorem mixed : Try.prog.follows .mixedOrders = true := by kernel_rfl
def fP : FT := fun ((n0, n1), k, end0, b) =>
    bif !n1 then some (2, n0, n1)
    else
      bif decide (k < 0) then some (6, n0, n1)
      else
       bif decide (k ≥ (↑n0.length : Int)) then
       bif decide (0 + n0.length ≤ n0.length) && true then some (6, List.take n0.length n0, n1) else none
       else
       bif decide (0 ≤ k ∧ k < (↑n0.length : Int) ∧ 0 < n0.length) then
       bif decide (0 + k.toNat < n0.length) then
       bif end0 != 0 then
       bif end0 != 1 then
       bif
       decide
       (0 + (n0.getD (0 + k.toNat) (false, 0, [], [])).snd.snd.fst.length ≤
       (n0.getD (0 + k.toNat) (false, 0, [], [])).snd.snd.fst.length) &&
       true then
       bif
       decide
       (0 + List.length (n0.getD (0 + k.toNat) (false, 0, [], [])).snd.snd.snd ≤
       List.length (n0.getD (0 + k.toNat) (false, 0, [], [])).snd.snd.snd) &&
       true then
       bif
       decide
       (0 + n0.length ≤
       (n0.set (0 + k.toNat)
       ((n0.getD (0 + k.toNat) (false, 0, [], [])).fst,
       (n0.getD (0 + k.toNat) (false, 0, [], [])).snd.fst,
       List.take (n0.getD (0 + k.toNat) (false, 0, [], [])).snd.snd.fst.length
       (List.drop 0 (n0.getD (0 + k.toNat) (false, 0, [], [])).snd.snd.fst),
       List.take (List.length (n0.getD (0 + k.toNat) (false, 0, [], [])).snd.snd.snd)
       (List.drop 0 (n0.getD (0 + k.toNat) (false, 0, [], [])).snd.snd.snd))).length) &&
       true then
       some
       (1,
       List.take n0.length
       (List.drop 0
       (n0.set (0 + k.toNat)
       ((n0.getD (0 + k.toNat) (false, 0, [], [])).fst,
       (n0.getD (0 + k.toNat) (false, 0, [], [])).snd.fst,
       List.take (n0.getD (0 + k.toNat) (false, 0, [], [])).snd.snd.fst.length
       (List.drop 0 (n0.getD (0 + k.toNat) (false, 0, [], [])).snd.snd.fst),
       List.take (List.length (n0.getD (0 + k.toNat) (false, 0, [], [])).snd.snd.snd)
       (List.drop 0 (n0.getD (0 + k.toNat) (false, 0, [], [])).snd.snd.snd)))),
       n1)
       else none
       else none
       else none
       else
       bif !(n0.getD (0 + k.toNat) (false, 0, [], [])).fst then
       bif
       decide
       (0 + (n0.getD (0 + k.toNat) (false, 0, [], [])).snd.snd.fst.length ≤
       (n0.getD (0 + k.toNat) (false, 0, [], [])).snd.snd.fst.length) &&
       true then
       bif
       decide
       (0 + List.length (n0.getD (0 + k.toNat) (false, 0, [], [])).snd.snd.snd ≤
       List.length (n0.getD (0 + k.toNat) (false, 0, [], [])).snd.snd.snd) &&
       true then
       bif
       decide
       (0 + n0.length ≤
       (n0.set (0 + k.toNat)
       ((n0.getD (0 + k.toNat) (false, 0, [], [])).fst,
       (n0.getD (0 + k.toNat) (false, 0, [], [])).snd.fst,
       List.take (n0.getD (0 + k.toNat) (false, 0, [], [])).snd.snd.fst.length
       (List.drop 0 (n0.getD (0 + k.toNat) (false, 0, [], [])).snd.snd.fst),
       List.take (List.length (n0.getD (0 + k.toNat) (false, 0, [], [])).snd.snd.snd)
       (List.drop 0
       (n0.getD (0 + k.toNat) (false, 0, [], [])).snd.snd.snd))).length) &&
       true then
       some
       (10,
       List.take n0.length
       (List.drop 0
       (n0.set (0 + k.toNat)
       ((n0.getD (0 + k.toNat) (false, 0, [], [])).fst,
       (n0.getD (0 + k.toNat) (false, 0, [], [])).snd.fst,
       List.take (n0.getD (0 + k.toNat) (false, 0, [], [])).snd.snd.fst.length
       (List.drop 0 (n0.getD (0 + k.toNat) (false, 0, [], [])).snd.snd.fst),
       List.take (List.length (n0.getD (0 + k.toNat) (false, 0, [], [])).snd.snd.snd)
       (List.drop 0 (n0.getD (0 + k.toNat) (false, 0, [], [])).snd.snd.snd)))),
       n1)
       else none
       else none
       else none
       else
       bif decide (0 ≤ IntKind.i64.wrap (1 - end0) ∧ IntKind.i64.wrap (1 - end0) < 2) then
       bif (IntKind.i64.wrap (1 - end0)).toNat.beq 0 then
       bif
       decide
       (IntKind.i64.wrap
       ((↑(n0.getD (0 + k.toNat) (false, 0, [], [])).snd.snd.fst.length : Int) +
       (↑b.length : Int)) >
       16384) then
       bif
       decide
       (0 + (n0.getD (0 + k.toNat) (false, 0, [], [])).snd.snd.fst.length ≤
       (n0.getD (0 + k.toNat) (false, 0, [], [])).snd.snd.fst.length) &&
       true then
       bif
       decide
       (0 + List.length (n0.getD (0 + k.toNat) (false, 0, [], [])).snd.snd.snd ≤
       List.length (n0.getD (0 + k.toNat) (false, 0, [], [])).snd.snd.snd) &&
       true then
       bif
       decide
       (0 + n0.length ≤
       (n0.set (0 + k.toNat)
       ((n0.getD (0 + k.toNat) (false, 0, [], [])).fst,
       (n0.getD (0 + k.toNat) (false, 0, [], [])).snd.fst,
       List.take (n0.getD (0 + k.toNat) (false, 0, [], [])).snd.snd.fst.length
       (List.drop 0 (n0.getD (0 + k.toNat) (false, 0, [], [])).snd.snd.fst),
       List.take
       (List.length (n0.getD (0 + k.toNat) (false, 0, [], [])).snd.snd.snd)
       (List.drop 0
       (n0.getD (0 + k.toNat) (false, 0, [], [])).snd.snd.snd))).length) &&
       true then
       some
       (7,
       List.take n0.length
       (List.drop 0
       (n0.set (0 + k.toNat)
       ((n0.getD (0 + k.toNat) (false, 0, [], [])).fst,
       (n0.getD (0 + k.toNat) (false, 0, [], [])).snd.fst,
       List.take (n0.getD (0 + k.toNat) (false, 0, [], [])).snd.snd.fst.length
       (List.drop 0 (n0.getD (0 + k.toNat) (false, 0, [], [])).snd.snd.fst),
       List.take (List.length (n0.getD (0 + k.toNat) (false, 0, [], [])).snd.snd.snd)
       (List.drop 0 (n0.getD (0 + k.toNat) (false, 0, [], [])).snd.snd.snd)))),
       n1)
       else none
       else none
       else none
       else
       bif decide (0 + b.length ≤ b.length) then
       bif
       decide
       ((n0.getD (0 + k.toNat) (false, 0, [], [])).snd.snd.fst.length +
       (List.take b.length b).length ≤
       1073741824) then
       bif
       decide
       (0 + (n0.getD (0 + k.toNat) (false, 0, [], [])).snd.snd.fst.length ≤
       (n0.getD (0 + k.toNat) (false, 0, [], [])).snd.snd.fst.length) then
       bif
       decide
       (0 +
       ((n0.getD (0 + k.toNat) (false, 0, [], [])).snd.snd.fst.length +
       (List.take b.length b).length) ≤
       (List.take (n0.getD (0 + k.toNat) (false, 0, [], [])).snd.snd.fst.length
       (List.drop 0 (n0.getD (0 + k.toNat) (false, 0, [], [])).snd.snd.fst) ++
       List.take b.length b).length) &&
       true then
       bif
       decide
       (0 + List.length (n0.getD (0 + k.toNat) (false, 0, [], [])).snd.snd.snd ≤
       List.length (n0.getD (0 + k.toNat) (false, 0, [], [])).snd.snd.snd) &&
       true then
       bif
       decide
       (0 + n0.length ≤
       (n0.set (0 + k.toNat)
       ((n0.getD (0 + k.toNat) (false, 0, [], [])).fst,
       (n0.getD (0 + k.toNat) (false, 0, [], [])).snd.fst,
       List.take
       ((n0.getD (0 + k.toNat) (false, 0, [], [])).snd.snd.fst.length +
       (List.take b.length b).length)
       (List.drop 0
       (List.take
       (n0.getD (0 + k.toNat) (false, 0, [], [])).snd.snd.fst.length
       (List.drop 0
       (n0.getD (0 + k.toNat) (false, 0, [], [])).snd.snd.fst) ++
       List.take b.length b)),
       List.take
       (List.length (n0.getD (0 + k.toNat) (false, 0, [], [])).snd.snd.snd)
       (List.drop 0
       (n0.getD (0 + k.toNat)
       (false, 0, [], [])).snd.snd.snd))).length) &&
       true then
       some
       (0,
       List.take n0.length
       (List.drop 0
       (n0.set (0 + k.toNat)
       ((n0.getD (0 + k.toNat) (false, 0, [], [])).fst,
       (n0.getD (0 + k.toNat) (false, 0, [], [])).snd.fst,
       List.take
       ((n0.getD (0 + k.toNat) (false, 0, [], [])).snd.snd.fst.length +
       (List.take b.length b).length)
       (List.drop 0
       (List.take
       (n0.getD (0 + k.toNat) (false, 0, [], [])).snd.snd.fst.length
       (List.drop 0
       (n0.getD (0 + k.toNat) (false, 0, [], [])).snd.snd.fst) ++
       List.take b.length b)),
       List.take
       (List.length (n0.getD (0 + k.toNat) (false, 0, [], [])).snd.snd.snd)
       (List.drop 0
       (n0.getD (0 + k.toNat) (false, 0, [], [])).snd.snd.snd)))),
       n1)
       else none
       else none
       else none
       else none
       else none
       else none
       else
       bif (IntKind.i64.wrap (1 - end0)).toNat.beq 1 then
       bif
       decide
       (IntKind.i64.wrap
       ((↑(List.length (n0.getD (0 + k.toNat) (false, 0, [], [])).snd.snd.snd) : Int) +
       (↑b.length : Int)) >
       16384) then
       bif
       decide
       (0 + (n0.getD (0 + k.toNat) (false, 0, [], [])).snd.snd.fst.length ≤
       (n0.getD (0 + k.toNat) (false, 0, [], [])).snd.snd.fst.length) &&
       true then
       bif
       decide
       (0 + List.length (n0.getD (0 + k.toNat) (false, 0, [], [])).snd.snd.snd ≤
       List.length (n0.getD (0 + k.toNat) (false, 0, [], [])).snd.snd.snd) &&
       true then
       bif
       decide
       (0 + n0.length ≤
       (n0.set (0 + k.toNat)
       ((n0.getD (0 + k.toNat) (false, 0, [], [])).fst,
       (n0.getD (0 + k.toNat) (false, 0, [], [])).snd.fst,
       List.take (n0.getD (0 + k.toNat) (false, 0, [], [])).snd.snd.fst.length
       (List.drop 0 (n0.getD (0 + k.toNat) (false, 0, [], [])).snd.snd.fst),
       List.take
       (List.length (n0.getD (0 + k.toNat) (false, 0, [], [])).snd.snd.snd)
       (List.drop 0
       (n0.getD (0 + k.toNat) (false, 0, [], [])).snd.snd.snd))).length) &&
       true then
       some
       (7,
       List.take n0.length
       (List.drop 0
       (n0.set (0 + k.toNat)
       ((n0.getD (0 + k.toNat) (false, 0, [], [])).fst,
       (n0.getD (0 + k.toNat) (false, 0, [], [])).snd.fst,
       List.take (n0.getD (0 + k.toNat) (false, 0, [], [])).snd.snd.fst.length
       (List.drop 0 (n0.getD (0 + k.toNat) (false, 0, [], [])).snd.snd.fst),
       List.take
       (List.length (n0.getD (0 + k.toNat) (false, 0, [], [])).snd.snd.snd)
       (List.drop 0 (n0.getD (0 + k.toNat) (false, 0, [], [])).snd.snd.snd)))),
       n1)
       else none
       else none
       else none
       else
       bif decide (0 + b.length ≤ b.length) then
       bif
       decide
       (List.length (n0.getD (0 + k.toNat) (false, 0, [], [])).snd.snd.snd +
       (List.take b.length b).length ≤
       1073741824) then
       bif
       decide
       (0 + List.length (n0.getD (0 + k.toNat) (false, 0, [], [])).snd.snd.snd ≤
       List.length (n0.getD (0 + k.toNat) (false, 0, [], [])).snd.snd.snd) then
       bif
       decide
       (0 + (n0.getD (0 + k.toNat) (false, 0, [], [])).snd.snd.fst.length ≤
       (n0.getD (0 + k.toNat) (false, 0, [], [])).snd.snd.fst.length) &&
       true then
       bif
       decide
       (0 +
       (List.length (n0.getD (0 + k.toNat) (false, 0, [], [])).snd.snd.snd +
       (List.take b.length b).length) ≤
       (List.take
       (List.length (n0.getD (0 + k.toNat) (false, 0, [], [])).snd.snd.snd)
       (List.drop 0
       (n0.getD (0 + k.toNat) (false, 0, [], [])).snd.snd.snd) ++
       List.take b.length b).length) &&
       true then
       bif
       decide
       (0 + n0.length ≤
       (n0.set (0 + k.toNat)
       ((n0.getD (0 + k.toNat) (false, 0, [], [])).fst,
       (n0.getD (0 + k.toNat) (false, 0, [], [])).snd.fst,
       List.take
       (n0.getD (0 + k.toNat) (false, 0, [], [])).snd.snd.fst.length
       (List.drop 0
       (n0.getD (0 + k.toNat) (false, 0, [], [])).snd.snd.fst),
       List.take
       (List.length
       (n0.getD (0 + k.toNat) (false, 0, [], [])).snd.snd.snd +
       (List.take b.length b).length)
       (List.drop 0
       (List.take
       (List.length
       (n0.getD (0 + k.toNat) (false, 0, [], [])).snd.snd.snd)
       (List.drop 0
       (n0.getD (0 + k.toNat) (false, 0, [], [])).snd.snd.snd) ++
       List.take b.length b)))).length) &&
       true then
       some
       (0,
       List.take n0.length
       (List.drop 0
       (n0.set (0 + k.toNat)
       ((n0.getD (0 + k.toNat) (false, 0, [], [])).fst,
       (n0.getD (0 + k.toNat) (false, 0, [], [])).snd.fst,
       List.take
       (n0.getD (0 + k.toNat) (false, 0, [], [])).snd.snd.fst.length
       (List.drop 0
       (n0.getD (0 + k.toNat) (false, 0, [], [])).snd.snd.fst),
       List.take
       (List.length
       (n0.getD (0 + k.toNat) (false, 0, [], [])).snd.snd.snd +
       (List.take b.length b).length)
       (List.drop 0
       (List.take
       (List.length
       (n0.getD (0 + k.toNat) (false, 0, [], [])).snd.snd.snd)
       (List.drop 0
       (n0.getD (0 + k.toNat) (false, 0, [], [])).snd.snd.snd) ++
       List.take b.length b))))),
       n1)
       else none
       else none
       else none
       else none
       else none
       else none
       else none
       else none
       else
       bif !(n0.getD (0 + k.toNat) (false, 0, [], [])).fst then
       bif
       decide
       (0 + (n0.getD (0 + k.toNat) (false, 0, [], [])).snd.snd.fst.length ≤
       (n0.getD (0 + k.toNat) (false, 0, [], [])).snd.snd.fst.length) &&
       true then
       bif
       decide
       (0 + List.length (n0.getD (0 + k.toNat) (false, 0, [], [])).snd.snd.snd ≤
       List.length (n0.getD (0 + k.toNat) (false, 0, [], [])).snd.snd.snd) &&
       true then
       bif
       decide
       (0 + n0.length ≤
       (n0.set (0 + k.toNat)
       ((n0.getD (0 + k.toNat) (false, 0, [], [])).fst,
       (n0.getD (0 + k.toNat) (false, 0, [], [])).snd.fst,
       List.take (n0.getD (0 + k.toNat) (false, 0, [], [])).snd.snd.fst.length
       (List.drop 0 (n0.getD (0 + k.toNat) (false, 0, [], [])).snd.snd.fst),
       List.take (List.length (n0.getD (0 + k.toNat) (false, 0, [], [])).snd.snd.snd)
       (List.drop 0 (n0.getD (0 + k.toNat) (false, 0, [], [])).snd.snd.snd))).length) &&
       true then
       some
       (10,
       List.take n0.length
       (List.drop 0
       (n0.set (0 + k.toNat)
       ((n0.getD (0 + k.toNat) (false, 0, [], [])).fst,
       (n0.getD (0 + k.toNat) (false, 0, [], [])).snd.fst,
       List.take (n0.getD (0 + k.toNat) (false, 0, [], [])).snd.snd.fst.length
       (List.drop 0 (n0.getD (0 + k.toNat) (false, 0, [], [])).snd.snd.fst),
       List.take (List.length (n0.getD (0 + k.toNat) (false, 0, [], [])).snd.snd.snd)
       (List.drop 0 (n0.getD (0 + k.toNat) (false, 0, [], [])).snd.snd.snd)))),
       n1)
       else none
       else none
       else none
       else
       bif decide (0 ≤ IntKind.i64.wrap (1 - end0) ∧ IntKind.i64.wrap (1 - end0) < 2) then
       bif (IntKind.i64.wrap (1 - end0)).toNat.beq 0 then
       bif
       decide
       (IntKind.i64.wrap
       ((↑(n0.getD (0 + k.toNat) (false, 0, [], [])).snd.snd.fst.length : Int) +
       (↑b.length : Int)) >
       16384) then
       bif
       decide
       (0 + (n0.getD (0 + k.toNat) (false, 0, [], [])).snd.snd.fst.length ≤
       (n0.getD (0 + k.toNat) (false, 0, [], [])).snd.snd.fst.length) &&
       true then
       bif
       decide
       (0 + List.length (n0.getD (0 + k.toNat) (false, 0, [], [])).snd.snd.snd ≤
       List.length (n0.getD (0 + k.toNat) (false, 0, [], [])).snd.snd.snd) &&
       true then
       bif
       decide
       (0 + n0.length ≤
       (n0.set (0 + k.toNat)
       ((n0.getD (0 + k.toNat) (false, 0, [], [])).fst,
       (n0.getD (0 + k.toNat) (false, 0, [], [])).snd.fst,
       List.take (n0.getD (0 + k.toNat) (false, 0, [], [])).snd.snd.fst.length
       (List.drop 0 (n0.getD (0 + k.toNat) (false, 0, [], [])).snd.snd.fst),
       List.take (List.length (n0.getD (0 + k.toNat) (false, 0, [], [])).snd.snd.snd)
       (List.drop 0
       (n0.getD (0 + k.toNat) (false, 0, [], [])).snd.snd.snd))).length) &&
       true then
       some
       (7,
       List.take n0.length
       (List.drop 0
       (n0.set (0 + k.toNat)
       ((n0.getD (0 + k.toNat) (false, 0, [], [])).fst,
       (n0.getD (0 + k.toNat) (false, 0, [], [])).snd.fst,
       List.take (n0.getD (0 + k.toNat) (false, 0, [], [])).snd.snd.fst.length
       (List.drop 0 (n0.getD (0 + k.toNat) (false, 0, [], [])).snd.snd.fst),
       List.take (List.length (n0.getD (0 + k.toNat) (false, 0, [], [])).snd.snd.snd)
       (List.drop 0 (n0.getD (0 + k.toNat) (false, 0, [], [])).snd.snd.snd)))),
       n1)
       else none
       else none
       else none
       else
       bif decide (0 + b.length ≤ b.length) then
       bif
       decide
       ((n0.getD (0 + k.toNat) (false, 0, [], [])).snd.snd.fst.length +
       (List.take b.length b).length ≤
       1073741824) then
       bif
       decide
       (0 + (n0.getD (0 + k.toNat) (false, 0, [], [])).snd.snd.fst.length ≤
       (n0.getD (0 + k.toNat) (false, 0, [], [])).snd.snd.fst.length) then
       bif
       decide
       (0 +
       ((n0.getD (0 + k.toNat) (false, 0, [], [])).snd.snd.fst.length +
       (List.take b.length b).length) ≤
       (List.take (n0.getD (0 + k.toNat) (false, 0, [], [])).snd.snd.fst.length
       (List.drop 0 (n0.getD (0 + k.toNat) (false, 0, [], [])).snd.snd.fst) ++
       List.take b.length b).length) &&
       true then
       bif
       decide
       (0 + List.length (n0.getD (0 + k.toNat) (false, 0, [], [])).snd.snd.snd ≤
       List.length (n0.getD (0 + k.toNat) (false, 0, [], [])).snd.snd.snd) &&
       true then
       bif
       decide
       (0 + n0.length ≤
       (n0.set (0 + k.toNat)
       ((n0.getD (0 + k.toNat) (false, 0, [], [])).fst,
       (n0.getD (0 + k.toNat) (false, 0, [], [])).snd.fst,
       List.take
       ((n0.getD (0 + k.toNat) (false, 0, [], [])).snd.snd.fst.length +
       (List.take b.length b).length)
       (List.drop 0
       (List.take
       (n0.getD (0 + k.toNat) (false, 0, [], [])).snd.snd.fst.length
       (List.drop 0
       (n0.getD (0 + k.toNat) (false, 0, [], [])).snd.snd.fst) ++
       List.take b.length b)),
       List.take
       (List.length (n0.getD (0 + k.toNat) (false, 0, [], [])).snd.snd.snd)
       (List.drop 0
       (n0.getD (0 + k.toNat) (false, 0, [], [])).snd.snd.snd))).length) &&
       true then
       some
       (0,
       List.take n0.length
       (List.drop 0
       (n0.set (0 + k.toNat)
       ((n0.getD (0 + k.toNat) (false, 0, [], [])).fst,
       (n0.getD (0 + k.toNat) (false, 0, [], [])).snd.fst,
       List.take
       ((n0.getD (0 + k.toNat) (false, 0, [], [])).snd.snd.fst.length +
       (List.take b.length b).length)
       (List.drop 0
       (List.take
       (n0.getD (0 + k.toNat) (false, 0, [], [])).snd.snd.fst.length
       (List.drop 0
       (n0.getD (0 + k.toNat) (false, 0, [], [])).snd.snd.fst) ++
       List.take b.length b)),
       List.take
       (List.length (n0.getD (0 + k.toNat) (false, 0, [], [])).snd.snd.snd)
       (List.drop 0 (n0.getD (0 + k.toNat) (false, 0, [], [])).snd.snd.snd)))),
       n1)
       else none
       else none
       else none
       else none
       else none
       else none
       else
       bif (IntKind.i64.wrap (1 - end0)).toNat.beq 1 then
       bif
       decide
       (IntKind.i64.wrap
       ((↑(List.length (n0.getD (0 + k.toNat) (false, 0, [], [])).snd.snd.snd) : Int) +
       (↑b.length : Int)) >
       16384) then
       bif
       decide
       (0 + (n0.getD (0 + k.toNat) (false, 0, [], [])).snd.snd.fst.length ≤
       (n0.getD (0 + k.toNat) (false, 0, [], [])).snd.snd.fst.length) &&
       true then
       bif
       decide
       (0 + List.length (n0.getD (0 + k.toNat) (false, 0, [], [])).snd.snd.snd ≤
       List.length (n0.getD (0 + k.toNat) (false, 0, [], [])).snd.snd.snd) &&
       true then
       bif
       decide
       (0 + n0.length ≤
       (n0.set (0 + k.toNat)
       ((n0.getD (0 + k.toNat) (false, 0, [], [])).fst,
       (n0.getD (0 + k.toNat) (false, 0, [], [])).snd.fst,
       List.take (n0.getD (0 + k.toNat) (false, 0, [], [])).snd.snd.fst.length
       (List.drop 0 (n0.getD (0 + k.toNat) (false, 0, [], [])).snd.snd.fst),
       List.take
       (List.length (n0.getD (0 + k.toNat) (false, 0, [], [])).snd.snd.snd)
       (List.drop 0
       (n0.getD (0 + k.toNat) (false, 0, [], [])).snd.snd.snd))).length) &&
       true then
       some
       (7,
       List.take n0.length
       (List.drop 0
       (n0.set (0 + k.toNat)
       ((n0.getD (0 + k.toNat) (false, 0, [], [])).fst,
       (n0.getD (0 + k.toNat) (false, 0, [], [])).snd.fst,
       List.take (n0.getD (0 + k.toNat) (false, 0, [], [])).snd.snd.fst.length
       (List.drop 0 (n0.getD (0 + k.toNat) (false, 0, [], [])).snd.snd.fst),
       List.take (List.length (n0.getD (0 + k.toNat) (false, 0, [], [])).snd.snd.snd)
       (List.drop 0 (n0.getD (0 + k.toNat) (false, 0, [], [])).snd.snd.snd)))),
       n1)
       else none
       else none
       else none
       else
       bif decide (0 + b.length ≤ b.length) then
       bif
       decide
       (List.length (n0.getD (0 + k.toNat) (false, 0, [], [])).snd.snd.snd +
       (List.take b.length b).length ≤
       1073741824) then
       bif
       decide
       (0 + List.length (n0.getD (0 + k.toNat) (false, 0, [], [])).snd.snd.snd ≤
       List.length (n0.getD (0 + k.toNat) (false, 0, [], [])).snd.snd.snd) then
       bif
       decide
       (0 + (n0.getD (0 + k.toNat) (false, 0, [], [])).snd.snd.fst.length ≤
       (n0.getD (0 + k.toNat) (false, 0, [], [])).snd.snd.fst.length) &&
       true then
       bif
       decide
       (0 +
       (List.length (n0.getD (0 + k.toNat) (false, 0, [], [])).snd.snd.snd +
       (List.take b.length b).length) ≤
       (List.take
       (List.length (n0.getD (0 + k.toNat) (false, 0, [], [])).snd.snd.snd)
       (List.drop 0 (n0.getD (0 + k.toNat) (false, 0, [], [])).snd.snd.snd) ++
       List.take b.length b).length) &&
       true then
       bif
       decide
       (0 + n0.length ≤
       (n0.set (0 + k.toNat)
       ((n0.getD (0 + k.toNat) (false, 0, [], [])).fst,
       (n0.getD (0 + k.toNat) (false, 0, [], [])).snd.fst,
       List.take
       (n0.getD (0 + k.toNat) (false, 0, [], [])).snd.snd.fst.length
       (List.drop 0
       (n0.getD (0 + k.toNat) (false, 0, [], [])).snd.snd.fst),
       List.take
       (List.length
       (n0.getD (0 + k.toNat) (false, 0, [], [])).snd.snd.snd +
       (List.take b.length b).length)
       (List.drop 0
       (List.take
       (List.length
       (n0.getD (0 + k.toNat) (false, 0, [], [])).snd.snd.snd)
       (List.drop 0
       (n0.getD (0 + k.toNat) (false, 0, [], [])).snd.snd.snd) ++
       List.take b.length b)))).length) &&
       true then
       some
       (0,
       List.take n0.length
       (List.drop 0
       (n0.set (0 + k.toNat)
       ((n0.getD (0 + k.toNat) (false, 0, [], [])).fst,
       (n0.getD (0 + k.toNat) (false, 0, [], [])).snd.fst,
       List.take (n0.getD (0 + k.toNat) (false, 0, [], [])).snd.snd.fst.length
       (List.drop 0 (n0.getD (0 + k.toNat) (false, 0, [], [])).snd.snd.fst),
       List.take
       (List.length (n0.getD (0 + k.toNat) (false, 0, [], [])).snd.snd.snd +
       (List.take b.length b).length)
       (List.drop 0
       (List.take
       (List.length
       (n0.getD (0 + k.toNat) (false, 0, [], [])).snd.snd.snd)
       (List.drop 0
       (n0.getD (0 + k.toNat) (false, 0, [], [])).snd.snd.snd) ++
       List.take b.length b))))),
       n1)
       else none
       else none
       else none
       else none
       else none
       else none
       else none
       else none
       else none
       else none
theorem fe (d : ((List (Bool × Int × List (Int) × List (Int))) × Bool) × Int × Int × List (Int)) : bodyF (tabC Try.prog (tab) ((11, .none) :: pls) 100 10) 100 11 i o d = fP d := by kernel_rfl
noncomputable def f : FT := fP
def plan : Plan := .none
theorem planOk : PlanOk Try.prog (plan) (bodyOf Try.prog 11) := (planOk_of (plan) _ [] (by kernel_rfl) trivial)
theorem meets : MeetsF Try.prog 11 ⟨i, o, f⟩ :=
  funcT (fuel := 100) (depth := 10) (pl := (11, plan) :: pls) mixed tabS ⟨planOk, plsP⟩ (fun d => fe  d)
theorem spec : SpecOk Try.prog (fun _ => none) 11 (specF ⟨i, o, f⟩) := specF_ok (by kernel_rfl) meets
end Go.Proofs.Yteoiaihjapddoaa.F11

/- What comes of function 12 of this program, (*consulate.net.Net).Waits, as the engine gives it. -/
namespace Go.Proofs.Yteoiaihjapddoaa.F12
open Go Go.Proofs Go.Proofs.Yteoiaihjapddoaa Go.RowKit Go.Proofs.Yteoiaihjapddoaa.Sx
set_option linter.unusedVariables false
set_option maxRecDepth 100000
def tab : List (FuncId × Sx.Spec) := []
def pls : List (FuncId × Plan) := []
@[reducible] def i : Sh := .pt true 59 (.sl true 61 (.sc .bool (.sc (.int .i64) (.sl true 5 (.sc (.int .u8) .nil) (.sl true 5 (.sc (.int .u8) .nil) .nil)))) (.sc .bool .nil)) (.sc (.int .i64) (.sc (.int .i64) .nil))
@[reducible] def o : Sh := .sc (.int .i64) .nil
abbrev FT := (((List (Bool × Int × List (Int) × List (Int))) × Bool) × Int × Int) → Option (Int × (((List (Bool × Int × List (Int) × List (Int))) × Bool)))
theorem tabS : AllS Try.prog (tab) := trivial
theorem plsP : AllP Try.prog (pls) := trivial
theorem mixed : Try.prog.follows .mixedOrders = true := by kernel_rfl
def fP : FT := fun ((n0, n1), k, end0) =>
    bif !n1 then some (0, n0, n1)
    else
      bif decide (k < 0) then some (0, n0, n1)
      else
       bif decide (k ≥ (↑n0.length : Int)) then
       bif decide (0 + n0.length ≤ n0.length) && true then some (0, List.take n0.length n0, n1) else none
       else
       bif decide (0 ≤ k ∧ k < (↑n0.length : Int) ∧ 0 < n0.length) then
       bif decide (0 + k.toNat < n0.length) then
       bif end0 != 0 then
       bif end0 != 1 then
       bif
       decide
       (0 + (n0.getD (0 + k.toNat) (false, 0, [], [])).snd.snd.fst.length ≤
       (n0.getD (0 + k.toNat) (false, 0, [], [])).snd.snd.fst.length) &&
       true then
       bif
       decide
       (0 + List.length (n0.getD (0 + k.toNat) (false, 0, [], [])).snd.snd.snd ≤
       List.length (n0.getD (0 + k.toNat) (false, 0, [], [])).snd.snd.snd) &&
       true then
       bif
       decide
       (0 + n0.length ≤
       (n0.set (0 + k.toNat)
       ((n0.getD (0 + k.toNat) (false, 0, [], [])).fst,
       (n0.getD (0 + k.toNat) (false, 0, [], [])).snd.fst,
       List.take (n0.getD (0 + k.toNat) (false, 0, [], [])).snd.snd.fst.length
       (List.drop 0 (n0.getD (0 + k.toNat) (false, 0, [], [])).snd.snd.fst),
       List.take (List.length (n0.getD (0 + k.toNat) (false, 0, [], [])).snd.snd.snd)
       (List.drop 0 (n0.getD (0 + k.toNat) (false, 0, [], [])).snd.snd.snd))).length) &&
       true then
       some
       (0,
       List.take n0.length
       (List.drop 0
       (n0.set (0 + k.toNat)
       ((n0.getD (0 + k.toNat) (false, 0, [], [])).fst,
       (n0.getD (0 + k.toNat) (false, 0, [], [])).snd.fst,
       List.take (n0.getD (0 + k.toNat) (false, 0, [], [])).snd.snd.fst.length
       (List.drop 0 (n0.getD (0 + k.toNat) (false, 0, [], [])).snd.snd.fst),
       List.take (List.length (n0.getD (0 + k.toNat) (false, 0, [], [])).snd.snd.snd)
       (List.drop 0 (n0.getD (0 + k.toNat) (false, 0, [], [])).snd.snd.snd)))),
       n1)
       else none
       else none
       else none
       else
       bif decide (0 ≤ end0 ∧ end0 < 2) then
       bif end0.toNat.beq 0 then
       bif
       decide
       (0 + (n0.getD (0 + k.toNat) (false, 0, [], [])).snd.snd.fst.length ≤
       (n0.getD (0 + k.toNat) (false, 0, [], [])).snd.snd.fst.length) &&
       true then
       bif
       decide
       (0 + List.length (n0.getD (0 + k.toNat) (false, 0, [], [])).snd.snd.snd ≤
       List.length (n0.getD (0 + k.toNat) (false, 0, [], [])).snd.snd.snd) &&
       true then
       bif
       decide
       (0 + n0.length ≤
       (n0.set (0 + k.toNat)
       ((n0.getD (0 + k.toNat) (false, 0, [], [])).fst,
       (n0.getD (0 + k.toNat) (false, 0, [], [])).snd.fst,
       List.take (n0.getD (0 + k.toNat) (false, 0, [], [])).snd.snd.fst.length
       (List.drop 0 (n0.getD (0 + k.toNat) (false, 0, [], [])).snd.snd.fst),
       List.take (List.length (n0.getD (0 + k.toNat) (false, 0, [], [])).snd.snd.snd)
       (List.drop 0
       (n0.getD (0 + k.toNat) (false, 0, [], [])).snd.snd.snd))).length) &&
       true then
       some
       ((↑(n0.getD (0 + k.toNat) (false, 0, [], [])).snd.snd.fst.length : Int),
       List.take n0.length
       (List.drop 0
       (n0.set (0 + k.toNat)
       ((n0.getD (0 + k.toNat) (false, 0, [], [])).fst,
       (n0.getD (0 + k.toNat) (false, 0, [], [])).snd.fst,
       List.take (n0.getD (0 + k.toNat) (false, 0, [], [])).snd.snd.fst.length
       (List.drop 0 (n0.getD (0 + k.toNat) (false, 0, [], [])).snd.snd.fst),
       List.take (List.length (n0.getD (0 + k.toNat) (false, 0, [], [])).snd.snd.snd)
       (List.drop 0 (n0.getD (0 + k.toNat) (false, 0, [], [])).snd.snd.snd)))),
       n1)
       else none
       else none
       else none
       else
       bif end0.toNat.beq 1 then
       bif
       decide
       (0 + (n0.getD (0 + k.toNat) (false, 0, [], [])).snd.snd.fst.length ≤
       (n0.getD (0 + k.toNat) (false, 0, [], [])).snd.snd.fst.length) &&
       true then
       bif
       decide
       (0 + List.length (n0.getD (0 + k.toNat) (false, 0, [], [])).snd.snd.snd ≤
       List.length (n0.getD (0 + k.toNat) (false, 0, [], [])).snd.snd.snd) &&
       true then
       bif
       decide
       (0 + n0.length ≤
       (n0.set (0 + k.toNat)
       ((n0.getD (0 + k.toNat) (false, 0, [], [])).fst,
       (n0.getD (0 + k.toNat) (false, 0, [], [])).snd.fst,
       List.take (n0.getD (0 + k.toNat) (false, 0, [], [])).snd.snd.fst.length
       (List.drop 0 (n0.getD (0 + k.toNat) (false, 0, [], [])).snd.snd.fst),
       List.take (List.length (n0.getD (0 + k.toNat) (false, 0, [], [])).snd.snd.snd)
       (List.drop 0
       (n0.getD (0 + k.toNat) (false, 0, [], [])).snd.snd.snd))).length) &&
       true then
       some
       ((↑(List.length (n0.getD (0 + k.toNat) (false, 0, [], [])).snd.snd.snd) : Int),
       List.take n0.length
       (List.drop 0
       (n0.set (0 + k.toNat)
       ((n0.getD (0 + k.toNat) (false, 0, [], [])).fst,
       (n0.getD (0 + k.toNat) (false, 0, [], [])).snd.fst,
       List.take (n0.getD (0 + k.toNat) (false, 0, [], [])).snd.snd.fst.length
       (List.drop 0 (n0.getD (0 + k.toNat) (false, 0, [], [])).snd.snd.fst),
       List.take (List.length (n0.getD (0 + k.toNat) (false, 0, [], [])).snd.snd.snd)
       (List.drop 0 (n0.getD (0 + k.toNat) (false, 0, [], [])).snd.snd.snd)))),
       n1)
       else none
       else none
       else none
       else none
       else none
       else
       bif decide (0 ≤ end0 ∧ end0 < 2) then
       bif end0.toNat.beq 0 then
       bif
       decide
       (0 + (n0.getD (0 + k.toNat) (false, 0, [], [])).snd.snd.fst.length ≤
       (n0.getD (0 + k.toNat) (false, 0, [], [])).snd.snd.fst.length) &&
       true then
       bif
       decide
       (0 + List.length (n0.getD (0 + k.toNat) (false, 0, [], [])).snd.snd.snd ≤
       List.length (n0.getD (0 + k.toNat) (false, 0, [], [])).snd.snd.snd) &&
       true then
       bif
       decide
       (0 + n0.length ≤
       (n0.set (0 + k.toNat)
       ((n0.getD (0 + k.toNat) (false, 0, [], [])).fst,
       (n0.getD (0 + k.toNat) (false, 0, [], [])).snd.fst,
       List.take (n0.getD (0 + k.toNat) (false, 0, [], [])).snd.snd.fst.length
       (List.drop 0 (n0.getD (0 + k.toNat) (false, 0, [], [])).snd.snd.fst),
       List.take (List.length (n0.getD (0 + k.toNat) (false, 0, [], [])).snd.snd.snd)
       (List.drop 0
       (n0.getD (0 + k.toNat) (false, 0, [], [])).snd.snd.snd))).length) &&
       true then
       some
       ((↑(n0.getD (0 + k.toNat) (false, 0, [], [])).snd.snd.fst.length : Int),
       List.take n0.length
       (List.drop 0
       (n0.set (0 + k.toNat)
       ((n0.getD (0 + k.toNat) (false, 0, [], [])).fst,
       (n0.getD (0 + k.toNat) (false, 0, [], [])).snd.fst,
       List.take (n0.getD (0 + k.toNat) (false, 0, [], [])).snd.snd.fst.length
       (List.drop 0 (n0.getD (0 + k.toNat) (false, 0, [], [])).snd.snd.fst),
       List.take (List.length (n0.getD (0 + k.toNat) (false, 0, [], [])).snd.snd.snd)
       (List.drop 0 (n0.getD (0 + k.toNat) (false, 0, [], [])).snd.snd.snd)))),
       n1)
       else none
       else none
       else none
       else
       bif end0.toNat.beq 1 then
       bif
       decide
       (0 + (n0.getD (0 + k.toNat) (false, 0, [], [])).snd.snd.fst.length ≤
       (n0.getD (0 + k.toNat) (false, 0, [], [])).snd.snd.fst.length) &&
       true then
       bif
       decide
       (0 + List.length (n0.getD (0 + k.toNat) (false, 0, [], [])).snd.snd.snd ≤
       List.length (n0.getD (0 + k.toNat) (false, 0, [], [])).snd.snd.snd) &&
       true then
       bif
       decide
       (0 + n0.length ≤
       (n0.set (0 + k.toNat)
       ((n0.getD (0 + k.toNat) (false, 0, [], [])).fst,
       (n0.getD (0 + k.toNat) (false, 0, [], [])).snd.fst,
       List.take (n0.getD (0 + k.toNat) (false, 0, [], [])).snd.snd.fst.length
       (List.drop 0 (n0.getD (0 + k.toNat) (false, 0, [], [])).snd.snd.fst),
       List.take (List.length (n0.getD (0 + k.toNat) (false, 0, [], [])).snd.snd.snd)
       (List.drop 0
       (n0.getD (0 + k.toNat) (false, 0, [], [])).snd.snd.snd))).length) &&
       true then
       some
       ((↑(List.length (n0.getD (0 + k.toNat) (false, 0, [], [])).snd.snd.snd) : Int),
       List.take n0.length
       (List.drop 0
       (n0.set (0 + k.toNat)
       ((n0.getD (0 + k.toNat) (false, 0, [], [])).fst,
       (n0.getD (0 + k.toNat) (false, 0, [], [])).snd.fst,
       List.take (n0.getD (0 + k.toNat) (false, 0, [], [])).snd.snd.fst.length
       (List.drop 0 (n0.getD (0 + k.toNat) (false, 0, [], [])).snd.snd.fst),
       List.take (List.length (n0.getD (0 + k.toNat) (false, 0, [], [])).snd.snd.snd)
       (List.drop 0 (n0.getD (0 + k.toNat) (false, 0, [], [])).snd.snd.snd)))),
       n1)
       else none
       else none
       else none
       else none
       else none
       else none
       else none
theorem fe (d : ((List (Bool × Int × List (Int) × List (Int))) × Bool) × Int × Int) : bodyF (tabC Try.prog (tab) ((12, .none) :: pls) 100 10) 100 12 i o d = fP d := by kernel_rfl
noncomputable def f : FT := fP
def plan : Plan := .none
theorem planOk : PlanOk Try.prog (plan) (bodyOf Try.prog 12) := (planOk_of (plan) _ [] (by kernel_rfl) trivial)
theorem meets : MeetsF Try.prog 12 ⟨i, o, f⟩ :=
  funcT (fuel := 100) (depth := 10) (pl := (12, plan) :: pls) mixed tabS ⟨planOk, plsP⟩ (fun d => fe  d)
theorem spec : SpecOk Try.prog (fun _ => none) 12 (specF ⟨i, o, f⟩) := specF_ok (by kernel_rfl) meets
end Go.Proofs.Yteoiaihjapddoaa.F12

/- What comes of function 28 of this program, slices.Clone[[]byte,byte], as the engine gives it. -/
namespace Go.Proofs.Yteoiaihjapddoaa.F28
open Go Go.Proofs Go.Proofs.Yteoiaihjapddoaa Go.RowKit Go.Proofs.Yteoiaihjapddoaa.Sx
set_option linter.unusedVariables false
set_option maxRecDepth 100000
def tab : List (FuncId × Sx.Spec) := []
def pls : List (FuncId × Plan) := []
@[reducible] def i : Sh := .sl false 5 (.sc (.int .u8) .nil) .nil
@[reducible] def o : Sh := .sl true 5 (.sc (.int .u8) .nil) .nil
abbrev FT := List (Int) → Option (List (Int) × Unit)
theorem tabS : AllS Try.prog (tab) := trivial
theorem plsP : AllP Try.prog (pls) := trivial
theorem mixed : Try.prog.follows .mixedOrders = true := by kernel_rfl
def fP : FT := fun s =>
    bif decide (0 < s.length) then
      bif decide (0 + s.length ≤ s.length) then
       bif decide (0 + (List.take s.length s).length ≤ 1073741824) then
       bif decide (0 + (0 + (List.take s.length s).length) ≤ ([] ++ List.take s.length s).length) && true then
       some (List.take (0 + (List.take s.length s).length) (List.drop 0 ([] ++ List.take s.length s)), PUnit.unit)
       else none
       else none
      else none
    else none
theorem fe (d : List (Int)) : bodyF (tabC Try.prog (tab) ((28, .none) :: pls) 100 10) 100 28 i o d = fP d := by kernel_rfl
noncomputable def f : FT := fun d => if 0 < d.length then fP d else some ([], ())
def plan : Plan := .none
theorem planOk : PlanOk Try.prog (plan) (bodyOf Try.prog 28) := (planOk_of (plan) _ [] (by kernel_rfl) trivial)
theorem meets : MeetsF Try.prog 28 ⟨i, o, f⟩ :=
  sliceT (fuel := 100) (depth := 10) (pl := (28, plan) :: pls) (z := (show Den o from [])) mixed tabS ⟨planOk, plsP⟩ (fun (d : List (Int)) hd => (fe  d).trans (show fP d = f d from (if_pos (c := 0 < d.length) hd).symm)) (fun (d : List (Int)) h => (show f d = _ from if_neg (c := 0 < d.length) (by have h : d.length = 0 := h; omega))) (fun c => by kernel_rfl) (fun a c => by kernel_rfl)
theorem spec : SpecOk Try.prog (fun _ => none) 28 (specF ⟨i, o, f⟩) := specF_ok (by kernel_rfl) meets
end Go.Proofs.Yteoiaihjapddoaa.F28
