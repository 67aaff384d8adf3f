/- ClockKnown returns true, in whatever memory. A closed statement; no condition. -/
import Derived.Test.YtemggodhikpmdaaChecked
import Derived.Test.YtemggodhikpmdaaYC
import Derived.Test.YtemggodhikpmdaaLaw
namespace Go.Proofs.Ytemggodhikpmdaa.CClockKnown
open Go Go.Proofs Go.RowKit
theorem mixed : Try.prog.follows .mixedOrders = true := by kernel_rfl
theorem closed (W : World) : Calls Try.prog 8 #[] W (Law.Told W) :=
  Sx.closed_law (C := Sx.tower Try.prog (fun _ => none) 100 8) (Sx.tower_ok (Sx.none_ok _) mixed 8) (by kernel_rfl) W
end Go.Proofs.Ytemggodhikpmdaa.CClockKnown
