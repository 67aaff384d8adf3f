/- ClashKnown returns true, in whatever memory. A closed statement; no condition. -/
import Derived.Test.YtldfpoacjcjnjaaChecked
import Derived.Test.YtldfpoacjcjnjaaYC
import Derived.Test.YtldfpoacjcjnjaaLaw
namespace Go.Proofs.Ytldfpoacjcjnjaa.CClashKnown
open Go Go.Proofs Go.RowKit
theorem mixed : Try.prog.follows .mixedOrders = true := by kernel_rfl
theorem closed (W : World) : Calls Try.prog 6 #[] W (Law.Told W) :=
  Sx.closed_law (C := Sx.tower Try.prog (fun _ => none) 100 6) (Sx.tower_ok (Sx.none_ok _) mixed 6) (by kernel_rfl) W
end Go.Proofs.Ytldfpoacjcjnjaa.CClashKnown
