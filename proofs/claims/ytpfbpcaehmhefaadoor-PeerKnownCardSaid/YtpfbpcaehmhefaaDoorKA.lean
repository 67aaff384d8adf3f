/- What stands on its own: function 10 says true. -/
import Derived.Test.YtpfbpcaehmhefaaDoorChecked
import Derived.Test.YtpfbpcaehmhefaaDoorZN
namespace Go.Proofs.YtpfbpcaehmhefaaDoor.KA
open Go Go.Proofs Go.Proofs.YtpfbpcaehmhefaaDoor Go.RowKit Go.Proofs.YtpfbpcaehmhefaaDoor.Sx
theorem mixed : Tryd.prog.follows .mixedOrders = true := by kernel_rfl
theorem tells (W : World) (hW : GlobW W) : Calls Tryd.prog 10 #[] W (Law.Told W) :=
  closed_law (C := tower (base Tryd.prog) [] 100 12) (tower_ok (base_ok _) (noPlans _ rfl) mixed (fun _ _ h => by cases h) 12) rfl (by kernel_rfl) W hW
end Go.Proofs.YtpfbpcaehmhefaaDoor.KA
