/- The engine, part V: memory of the program's own that nobody writes: blocks, and what they hold. Plain definitions. -/
import Derived.WalkKit
namespace Go.Proofs.YtpfbpcaehmhefaaDoor.Sx
/-- 'cells': the variable's cells; 'table': its one cell is a map, whose block is so. -/
inductive GB where
  | cells (l : List Value)
  | table (so : Obj → Prop)
def globs : List (Nat × GB) := [(1, .cells [.int .u8 0, .int .u8 1, .int .u8 0, .int .u8 1]),
  (2, .cells [.int .u32 0, .int .u32 0, .int .i64 1, .int .u32 23456, .int .u32 23456, .int .i64 2, .int .u32 64512, .int .u32 65534, .int .i64 3, .int .u32 4200000000, .int .u32 4294967294, .int .i64 3, .int .u32 64496, .int .u32 64511, .int .i64 4, .int .u32 65535, .int .u32 65551, .int .i64 4, .int .u32 4294967295, .int .u32 4294967295, .int .i64 4]),
  (0, .cells [.string ⟨#[110, 111, 110, 101]⟩, .string ⟨#[105, 110, 115, 105, 100, 101]⟩, .string ⟨#[99, 111, 110, 102, 101, 100]⟩, .string ⟨#[111, 117, 116, 115, 105, 100, 101]⟩])]
end Go.Proofs.YtpfbpcaehmhefaaDoor.Sx
