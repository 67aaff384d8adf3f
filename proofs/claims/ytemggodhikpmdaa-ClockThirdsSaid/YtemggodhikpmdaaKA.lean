/- The table of what stands on its own: function 12 says true. -/
import Derived.Test.YtemggodhikpmdaaChecked
import Derived.Test.YtemggodhikpmdaaZL
namespace Go.Proofs.Ytemggodhikpmdaa.KA
open Go Go.Proofs Go.RowKit Go.Proofs.Ytemggodhikpmdaa.Sx
theorem mixed : Try.prog.follows .mixedOrders = true := by kernel_rfl
theorem tells (W : World) : Calls Try.prog 12 #[] W (Law.Told W) :=
  closed_law (C := tower (base Try.prog) [] 100 8) (tower_ok (base_ok _) mixed (fun _ _ h => by cases h) 8) rfl (by kernel_rfl) W
def C0 (P : Program) : Cx := (base P).put 12 (pureS saysS)
theorem C0_ok : KOk (C0 Try.prog) := put_ok (base_ok _) (says_ok (by kernel_rfl) tells)
def C1 (P : Program) : Cx := tower (C0 P) [] 100 8
theorem C1_ok : KOk (C1 Try.prog) := tower_ok C0_ok mixed (fun _ _ h => by cases h) 8
end Go.Proofs.Ytemggodhikpmdaa.KA
