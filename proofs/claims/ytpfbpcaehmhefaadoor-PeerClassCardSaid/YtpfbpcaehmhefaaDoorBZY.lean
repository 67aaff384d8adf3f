/- The engine, part Y: objects of the seat's own kinds. -/
import Derived.WalkKit
import Derived.Test.YtpfbpcaehmhefaaDoorBZV
namespace Go.Proofs.YtpfbpcaehmhefaaDoorB.Sx
open Go.RowKit
set_option linter.unusedVariables false
@[reducible] def obT : Nat → Type := fun _ => Unit
def obDflt : (n : Nat) → obT n := fun _ => ()
/-- An object of kind n, its data, the pointer to it, its blocks. -/
def obAt (n : Nat) (w : World) (d : obT n) (a : Option Addr) (B : List Nat) : Prop := False
theorem obAt_kept {n : Nat} {w w' : World} {d : obT n} {a : Option Addr} {B : List Nat} (h : obAt n w d a B) (hk : ∀ k ∈ B, w'.heap[k]? = w.heap[k]?) : obAt n w' d a B := h.elim
theorem obAt_lt {n : Nat} {w : World} {d : obT n} {a : Option Addr} {B : List Nat} (h : obAt n w d a B) : ∀ k ∈ B, k < w.heap.size := h.elim
end Go.Proofs.YtpfbpcaehmhefaaDoorB.Sx
