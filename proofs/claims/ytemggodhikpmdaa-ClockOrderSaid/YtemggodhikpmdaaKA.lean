/- What stands on its own: function 12 says true. -/
import Derived.Test.YtemggodhikpmdaaChecked
import Derived.Test.YtemggodhikpmdaaZM
namespace Go.Proofs.Ytemggodhikpmdaa.KA
open Go Go.Proofs Go.RowKit Go.Proofs.Ytemggodhikpmdaa.Sx
theorem mixed : Try.prog.follows .mixedOrders = true := by kernel_rfl
theorem tells (W : World) : Calls Try.prog 12 #[] W (Law.Told W) :=
  closed_law (C := tower (base Try.prog) [] 100 12) (tower_ok (base_ok _) (noPlans _ rfl) mixed (fun _ _ h => by cases h) 12) rfl (by kernel_rfl) W
end Go.Proofs.Ytemggodhikpmdaa.KA
