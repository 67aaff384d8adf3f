/- What stands on its own: function 9 says true. -/
import Derived.Test.YtaniibilgdhdiaaDoorChecked
import Derived.Test.YtaniibilgdhdiaaDoorZN
namespace Go.Proofs.YtaniibilgdhdiaaDoor.KA
open Go Go.Proofs Go.Proofs.YtaniibilgdhdiaaDoor Go.RowKit Go.Proofs.YtaniibilgdhdiaaDoor.Sx
theorem mixed : Tryd.prog.follows .mixedOrders = true := by kernel_rfl
theorem tells (W : World) (hW : GlobW W) : Calls Tryd.prog 9 #[] W (Law.Told W) :=
  closed_law (C := tower (base Tryd.prog) [] 100 12) (tower_ok (base_ok _) (noPlans _ rfl) mixed (fun _ _ h => by cases h) 12) rfl (by kernel_rfl) W hW
end Go.Proofs.YtaniibilgdhdiaaDoor.KA
