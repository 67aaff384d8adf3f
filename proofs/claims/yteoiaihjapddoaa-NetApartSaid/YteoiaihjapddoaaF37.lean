/- What comes of function 37 of this program, slices.IndexFunc[[]consulate.net.link,consulate.net.link], as the engine gives it. -/
import Derived.Test.YteoiaihjapddoaaChecked
import Derived.Test.YteoiaihjapddoaaZN
namespace Go.Proofs.Yteoiaihjapddoaa.F37
open Go Go.Proofs Go.Proofs.Yteoiaihjapddoaa Go.RowKit Go.Proofs.Yteoiaihjapddoaa.Sx
set_option linter.unusedVariables false
set_option maxRecDepth 100000
def tab : List (FuncId × Sx.Spec) := []
def pls : List (FuncId × Plan) := []
@[reducible] def k1 : Sh := .sl false 61 (.sc .bool (.sc (.int .i64) (.sl true 5 (.sc (.int .u8) .nil) (.sl true 5 (.sc (.int .u8) .nil) .nil)))) (.sc (.fn 30) (.sc (.int .i64) .nil))
@[reducible] def i1 : Sh := .sc (.int .i64) .nil
@[reducible] def o1 : Sh := .sc (.int .i64) (.sc (.int .i64) .nil)
abbrev G1 := ((List (Bool × Int × List (Int) × List (Int))) × Unit × Int) → Int → Option ((Int × Int) × Unit)
def u1 (F : G1) : Un := ⟨19, [0, 1, 7], k1, [8], i1, [4], o1, [0, 1, 7], [(.exit 0, [false]), (.ret, [true])], F⟩
theorem tabS : AllS Try.prog (tab) := trivial
theorem plsP : AllP Try.prog (pls) := trivial
theorem mixed : Try.prog.follows .mixedOrders = true := by kernel_rfl
def r1P : ((List (Bool × Int × List (Int) × List (Int))) × Unit × Int) → Int → Option (Int ⊕ ((Int × Int) × Unit)) := fun (s, f_2, t7) t8 =>
    bif decide (t8 < t7) then
      bif decide (0 ≤ t8 ∧ t8 < (↑s.length : Int) ∧ 0 < s.length) then
        bif decide (0 + t8.toNat < s.length) then
          bif
              decide
                (IntKind.i64.wrap
                    ((↑(s.getD (0 + t8.toNat) (false, 0, [], [])).snd.snd.fst.length : Int) +
                      (↑(List.length (s.getD (0 + t8.toNat) (false, 0, [], [])).snd.snd.snd) : Int)) >
                  0) then
            some (Sum.inr ((1, t8), PUnit.unit))
          else some (Sum.inl (IntKind.i64.wrap (t8 + 1)))
        else none
      else none
    else some (Sum.inr ((0, 0), PUnit.unit))
theorem r1e (kd : (List (Bool × Int × List (Int) × List (Int))) × Unit × Int) (d : Int) : roundF (tabC Try.prog (tab) (pls) 100 10) 100 .none (u1 fun _ _ => none) (codeAt [1, 0, 1, 0, 0] (bodyOf Try.prog 37)) kd d = r1P kd d := by kernel_rfl
noncomputable def r1 : ((List (Bool × Int × List (Int) × List (Int))) × Unit × Int) → Int → Option (Int ⊕ ((Int × Int) × Unit)) := r1P
noncomputable def l1 : G1 := fun kd d => iterO (r1 kd) d
theorem ok1 : UnOk Try.prog (u1 l1) (codeAt [1, 0, 1, 0] (bodyOf Try.prog 37)) :=
  loopT (p := .none) (c := codeAt [1, 0, 1, 0, 0] (bodyOf Try.prog 37)) (fuel := 100) (depth := 10) mixed tabS plsP (by kernel_rfl) trivial (by kernel_rfl) (fun kd d => r1e  kd d) rfl
def plan (l1 : G1) : Plan := (.node .none (.node (.node .none (.node (.unit (u1 l1)) .none)) .none))
theorem planOk : PlanOk Try.prog (plan l1) (bodyOf Try.prog 37) := (planOk_of (plan l1) _ [([1, 0, 1, 0], u1 l1)] rfl ⟨ok1, trivial⟩)
end Go.Proofs.Yteoiaihjapddoaa.F37
