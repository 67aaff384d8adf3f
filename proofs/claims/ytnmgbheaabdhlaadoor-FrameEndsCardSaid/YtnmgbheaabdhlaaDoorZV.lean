/- The engine, part V: memory of the program's own that nobody writes: blocks, and what they hold. Plain definitions. -/
import Derived.WalkKit
namespace Go.Proofs.YtnmgbheaabdhlaaDoor.Sx
/-- 'cells': the variable's cells; 'table': its one cell is a map of functions. -/
inductive GB where
  | cells (l : List Value)
  | table (q : IntKind) (es : List (Int × Nat))
def globs : List (Nat × GB) := [(0, .cells [.int .i64 0, .int .i64 0, .int .i64 29, .int .i64 4096, .int .i64 23, .int .i64 4096, .int .i64 21, .int .i64 4096, .int .i64 19, .int .i64 19, .int .i64 23, .int .i64 23])]
end Go.Proofs.YtnmgbheaabdhlaaDoor.Sx
