/- What comes of function 71 of this program, slices.IndexFunc[[]consulate.caps.Cap,consulate.caps.Cap], as the engine gives it. -/
import Derived.Test.YtpfbpcaehmhefaaDoorChecked
import Derived.Test.YtpfbpcaehmhefaaDoorBZO
namespace Go.Proofs.YtpfbpcaehmhefaaDoorB.F71B
open Go Go.Proofs Go.Proofs.YtpfbpcaehmhefaaDoor Go.RowKit Go.Proofs.YtpfbpcaehmhefaaDoorB.Sx
set_option linter.unusedVariables false
set_option maxRecDepth 100000
def tab : List (FuncId × Sx.Spec) := []
def pls : List (FuncId × Plan) := []
@[reducible] def k1 : Sh := .sl false 29 (.sc (.int .u8) (.sl false 5 (.sc (.int .u8) .nil) .nil)) (.ag (some 72) (.pt false 5 (.sc (.int .u8) .nil) (.pt false 96 (.ag (some 65) .nil .nil) .nil)) (.sc (.int .i64) .nil))
@[reducible] def i1 : Sh := .sc (.int .i64) .nil
@[reducible] def o1 : Sh := .sc (.int .i64) (.sc (.int .i64) .nil)
abbrev G1 := ((List (Int × List (Int))) × (Int × Unit) × Int) → Int → Option ((Int × Int) × Unit)
def u1 (F : G1) : Un := ⟨19, [0, 1, 7], k1, [8], i1, [4], o1, [0, 1, 7], [(.exit 0, [false]), (.ret, [true])], F⟩
@[reducible] def i : Sh := .sl false 29 (.sc (.int .u8) (.sl false 5 (.sc (.int .u8) .nil) .nil)) (.ag (some 72) (.pt false 5 (.sc (.int .u8) .nil) (.pt false 96 (.ag (some 65) .nil .nil) .nil)) .nil)
@[reducible] def o : Sh := .sc (.int .i64) .nil
abbrev FT := ((List (Int × List (Int))) × (Int × Unit)) → Option (Int × Unit)
theorem tabS : AllS Tryd.prog (tab) := trivial
theorem plsP : AllP Tryd.prog (pls) := trivial
theorem mixed : Tryd.prog.follows .mixedOrders = true := by kernel_rfl
def r1P : ((List (Int × List (Int))) × (Int × Unit) × Int) → Int → Option (Int ⊕ ((Int × Int) × Unit)) := fun (s, (f0, ()), t7) t8 =>
    bif decide (t8 < t7) then
      bif decide ((0 : Int) ≤ t8 ∧ t8 < (↑s.length : Int) ∧ (0 : Nat) < s.length) then
        bif decide ((0 : Nat) + t8.toNat < s.length) then
          bif (s.getD ((0 : Nat) + t8.toNat) ((0 : Int), [])).fst == f0 then
            bif (↑(List.length (s.getD ((0 : Nat) + t8.toNat) ((0 : Int), [])).snd) : Int) == (4 : Int) then
              some (Sum.inr (((1 : Int), t8), PUnit.unit))
            else some (Sum.inl (IntKind.i64.wrap (t8 + (1 : Int))))
          else some (Sum.inl (IntKind.i64.wrap (t8 + (1 : Int))))
        else none
      else none
    else some (Sum.inr (((0 : Int), (0 : Int)), PUnit.unit))
theorem r1e (kd : (List (Int × List (Int))) × (Int × Unit) × Int) (d : Int) : roundF (tabC Tryd.prog (tab) (pls) 100 14) 100 .none (u1 fun _ _ => none) (codeAt [1, 0, 1, 0, 0] (bodyOf Tryd.prog 71)) kd d = r1P kd d := by kernel_rfl
noncomputable def r1 : ((List (Int × List (Int))) × (Int × Unit) × Int) → Int → Option (Int ⊕ ((Int × Int) × Unit)) := r1P
noncomputable def l1 : G1 := fun kd d => iterO (r1 kd) d
theorem ok1 : UnOk Tryd.prog (u1 l1) (codeAt [1, 0, 1, 0] (bodyOf Tryd.prog 71)) :=
  loopT (p := .none) (c := codeAt [1, 0, 1, 0, 0] (bodyOf Tryd.prog 71)) (fuel := 100) (depth := 14) mixed tabS plsP (by kernel_rfl) trivial (by kernel_rfl) (fun kd d => r1e  kd d) rfl
def fP (l1 : G1) : FT := fun (s, (f0, ())) =>
    bif decide ((0 : Nat) + s.length ≤ s.length) && true then
      (l1 (List.take s.length s, (f0, PUnit.unit), (↑s.length : Int)) (OfNat.ofNat (0 : Nat))).bind fun r0 =>
        bif decide (r0.fst.fst = (0 : Int)) then some ((-1 : Int), PUnit.unit)
        else bif decide (r0.fst.fst = (1 : Int)) then some (r0.fst.snd, PUnit.unit) else none
    else none
theorem fe (l1 : G1) (d : (List (Int × List (Int))) × (Int × Unit)) : bodyF (tabC Tryd.prog (tab) ((71, (.node .none (.node (.node .none (.node (.unit (u1 l1)) .none)) .none))) :: pls) 100 14) 100 71 i o d = fP l1 d := by kernel_rfl
noncomputable def f : FT := fP l1
def plan (l1 : G1) : Plan := (.node .none (.node (.node .none (.node (.unit (u1 l1)) .none)) .none))
theorem planOk : PlanOk Tryd.prog (plan l1) (bodyOf Tryd.prog 71) := (planOk_of (plan l1) _ [([1, 0, 1, 0], u1 l1)] rfl ⟨ok1, trivial⟩)
theorem meets : MeetsF Tryd.prog 71 ⟨i, o, f⟩ :=
  funcT (fuel := 100) (depth := 14) (pl := (71, plan l1) :: pls) mixed tabS ⟨planOk, plsP⟩ (fun d =>  fe l1 d)
theorem spec : SpecOk Tryd.prog (fun _ => none) 71 (specF ⟨i, o, f⟩) := specF_ok (by kernel_rfl) meets
end Go.Proofs.YtpfbpcaehmhefaaDoorB.F71B
