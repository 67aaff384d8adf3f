/- What comes of function 10 of this program, (*consulate.net.Net).Up, as the engine gives it. -/
import Derived.Test.YteoiaihjapddoaaChecked
import Derived.Test.YteoiaihjapddoaaZN
namespace Go.Proofs.Yteoiaihjapddoaa.F10
open Go Go.Proofs Go.Proofs.Yteoiaihjapddoaa Go.RowKit Go.Proofs.Yteoiaihjapddoaa.Sx
set_option linter.unusedVariables false
set_option maxRecDepth 100000
def tab : List (FuncId × Sx.Spec) := []
def pls : List (FuncId × Plan) := []
@[reducible] def i : Sh := .pt true 59 (.sl true 61 (.sc .bool (.sc (.int .i64) (.sl true 5 (.sc (.int .u8) .nil) (.sl true 5 (.sc (.int .u8) .nil) .nil)))) (.sc .bool .nil)) (.sc (.int .i64) .nil)
@[reducible] def o : Sh := .sc (.int .i64) .nil
abbrev FT := (((List (Bool × Int × List (Int) × List (Int))) × Bool) × Int) → Option (Int × (((List (Bool × Int × List (Int) × List (Int))) × Bool)))
theorem tabS : AllS Try.prog (tab) := trivial
theorem plsP : AllP Try.prog (pls) := trivial
theorem mixed : Try.prog.follows .mixedOrders = true := by kernel_rfl
def fP : FT := fun ((n0, n1), k) =>
    bif !n1 then some (2, n0, n1)
    else
      bif decide (k < 0) then some (6, n0, n1)
      else
        bif decide (k ≥ (↑n0.length : Int)) then
          bif decide (0 + n0.length ≤ n0.length) && true then some (6, List.take n0.length n0, n1) else none
        else
          bif decide (0 ≤ k ∧ k < (↑n0.length : Int) ∧ 0 < n0.length) then
            bif decide (0 + k.toNat < n0.length) then
              bif
                  decide
                      (0 + (n0.getD (0 + k.toNat) (false, 0, [], [])).snd.snd.fst.length ≤
                        (n0.getD (0 + k.toNat) (false, 0, [], [])).snd.snd.fst.length) &&
                    true then
                bif
                    decide
                        (0 + List.length (n0.getD (0 + k.toNat) (false, 0, [], [])).snd.snd.snd ≤
                          List.length (n0.getD (0 + k.toNat) (false, 0, [], [])).snd.snd.snd) &&
                      true then
                  bif
                      decide
                          (0 + n0.length ≤
                            (n0.set (0 + k.toNat)
                                (true, (n0.getD (0 + k.toNat) (false, 0, [], [])).snd.fst,
                                  List.take (n0.getD (0 + k.toNat) (false, 0, [], [])).snd.snd.fst.length
                                    (List.drop 0 (n0.getD (0 + k.toNat) (false, 0, [], [])).snd.snd.fst),
                                  List.take (List.length (n0.getD (0 + k.toNat) (false, 0, [], [])).snd.snd.snd)
                                    (List.drop 0 (n0.getD (0 + k.toNat) (false, 0, [], [])).snd.snd.snd))).length) &&
                        true then
                    some
                      (0,
                        List.take n0.length
                          (List.drop 0
                            (n0.set (0 + k.toNat)
                              (true, (n0.getD (0 + k.toNat) (false, 0, [], [])).snd.fst,
                                List.take (n0.getD (0 + k.toNat) (false, 0, [], [])).snd.snd.fst.length
                                  (List.drop 0 (n0.getD (0 + k.toNat) (false, 0, [], [])).snd.snd.fst),
                                List.take (List.length (n0.getD (0 + k.toNat) (false, 0, [], [])).snd.snd.snd)
                                  (List.drop 0 (n0.getD (0 + k.toNat) (false, 0, [], [])).snd.snd.snd)))),
                        n1)
                  else none
                else none
              else none
            else none
          else none
theorem fe (d : ((List (Bool × Int × List (Int) × List (Int))) × Bool) × Int) : bodyF (tabC Try.prog (tab) ((10, .none) :: pls) 100 10) 100 10 i o d = fP d := by kernel_rfl
noncomputable def f : FT := fP
def plan : Plan := .none
theorem planOk : PlanOk Try.prog (plan) (bodyOf Try.prog 10) := (planOk_of (plan) _ [] (by kernel_rfl) trivial)
theorem meets : MeetsF Try.prog 10 ⟨i, o, f⟩ :=
  funcT (fuel := 100) (depth := 10) (pl := (10, plan) :: pls) mixed tabS ⟨planOk, plsP⟩ (fun d => fe  d)
theorem spec : SpecOk Try.prog (fun _ => none) 10 (specF ⟨i, o, f⟩) := specF_ok (by kernel_rfl) meets
end Go.Proofs.Yteoiaihjapddoaa.F10
