/- What stands on its own: function 21 says true. -/
import Derived.Test.YtkleakkhbfdipaaChecked
import Derived.Test.YtkleakkhbfdipaaZN
namespace Go.Proofs.Ytkleakkhbfdipaa.KA
open Go Go.Proofs Go.Proofs.Ytkleakkhbfdipaa Go.RowKit Go.Proofs.Ytkleakkhbfdipaa.Sx
theorem mixed : Try.prog.follows .mixedOrders = true := by kernel_rfl
theorem tells (W : World) (hW : GlobW W) : Calls Try.prog 21 #[] W (Law.Told W) :=
  closed_law (C := tower (base Try.prog) [] 100 20) (tower_ok (base_ok _) (noPlans _ rfl) mixed (fun _ _ h => by cases h) 20) rfl (by kernel_rfl) W hW
end Go.Proofs.Ytkleakkhbfdipaa.KA
