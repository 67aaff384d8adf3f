/- The engine, part V: memory of the program's own that nobody writes: blocks, and what they hold. Plain definitions. -/
import Derived.WalkKit
namespace Go.Proofs.Ytaniibilgdhdiaa.Sx
/-- 'cells': the variable's cells; 'table': its one cell is a map of functions. -/
inductive GB where
  | cells (l : List Value)
  | table (q : IntKind) (es : List (Int × Nat))
def globs : List (Nat × GB) := []
end Go.Proofs.Ytaniibilgdhdiaa.Sx
