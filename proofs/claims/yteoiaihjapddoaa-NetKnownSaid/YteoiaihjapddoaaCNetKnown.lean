/- NetKnown returns true, in whatever memory. A closed statement; no condition. -/
import Derived.Test.YteoiaihjapddoaaChecked
import Derived.Test.YteoiaihjapddoaaZM
import Derived.Test.YteoiaihjapddoaaLaw
namespace Go.Proofs.Yteoiaihjapddoaa.CNetKnown
open Go Go.Proofs Go.RowKit
theorem mixed : Try.prog.follows .mixedOrders = true := by kernel_rfl
theorem closed (W : World) : Calls Try.prog 7 #[] W (Law.Told W) :=
  Sx.closed_law (C := Sx.tower (Sx.base Try.prog) [] 100 12) (Sx.tower_ok (Sx.base_ok _) (Sx.noPlans _ rfl) mixed (fun _ _ h => by cases h) 12) rfl (by kernel_rfl) W
end Go.Proofs.Yteoiaihjapddoaa.CNetKnown
