/- What comes of function 32 of this program, slices.DeleteFunc: the body itself, carried out. -/
import Derived.Test.YtpfbpcaehmhefaaDoorChecked
import Derived.Test.YtpfbpcaehmhefaaDoorBZO
namespace Go.Proofs.YtpfbpcaehmhefaaDoorB.F32
open Go Go.Proofs Go.Proofs.YtpfbpcaehmhefaaDoor Go.RowKit Go.Proofs.YtpfbpcaehmhefaaDoorB.Sx
set_option linter.unusedVariables false
set_option maxRecDepth 100000
@[reducible] def i : Sh := .sl true 32 (.sc (.int .u32) .nil) (.ag (some 34) (.pt false 32 (.sc (.int .u32) .nil) .nil) .nil)
@[reducible] def o : Sh := .sl true 32 (.sc (.int .u32) .nil) .nil
abbrev FT := (List (Int) × Int) → Option (List (Int) × Unit)
theorem mixed : Tryd.prog.follows .mixedOrders = true := by kernel_rfl
noncomputable def f : FT := fun d => bodyF (tabC Tryd.prog [] [(32, .none)] 1000 30) 1000 32 i o d
theorem planOk : PlanOk Tryd.prog .none (bodyOf Tryd.prog 32) := (planOk_of .none _ [] (by kernel_rfl) trivial)
theorem meets : MeetsF Tryd.prog 32 ⟨i, o, f⟩ :=
  funcT (K := []) (fuel := 1000) (depth := 30) (pl := [(32, .none)]) mixed trivial ⟨planOk, trivial⟩ (fun _ => rfl)
theorem spec : SpecOk Tryd.prog (fun _ => none) 32 (specF ⟨i, o, f⟩) := specF_ok (by kernel_rfl) meets
end Go.Proofs.YtpfbpcaehmhefaaDoorB.F32
