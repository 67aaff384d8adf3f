/- The engine, part V: memory of the program's own that nobody writes: blocks, and what they hold. Plain definitions. -/
import Derived.WalkKit
namespace Go.Proofs.YtpfbpcaehmhefaaDoorB.Sx
/-- 'cells': the variable's cells; 'table': its one cell is a map of functions. -/
inductive GB where
  | cells (l : List Value)
  | table (q : IntKind) (es : List (Int × Nat))
def globs : List (Nat × GB) := [(2, .cells [.int .u32 0, .int .u32 0, .int .i64 1, .int .u32 23456, .int .u32 23456, .int .i64 2, .int .u32 64512, .int .u32 65534, .int .i64 3, .int .u32 4200000000, .int .u32 4294967294, .int .i64 3, .int .u32 64496, .int .u32 64511, .int .i64 4, .int .u32 65535, .int .u32 65551, .int .i64 4, .int .u32 4294967295, .int .u32 4294967295, .int .i64 4])]
end Go.Proofs.YtpfbpcaehmhefaaDoorB.Sx
