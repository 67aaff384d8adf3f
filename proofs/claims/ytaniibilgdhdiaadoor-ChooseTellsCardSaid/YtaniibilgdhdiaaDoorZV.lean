/- The engine, part V: memory of the program's own that nobody writes: blocks, and what they hold. Plain definitions. -/
import Derived.WalkKit
namespace Go.Proofs.YtaniibilgdhdiaaDoor.Sx
/-- 'cells': the variable's cells; 'table': its one cell is a map of functions. -/
inductive GB where
  | cells (l : List Value)
  | table (q : IntKind) (es : List (Int × Nat))
def globs : List (Nat × GB) := [(0, .cells [.string ⟨#[]⟩, .string ⟨#[112, 114, 101, 102]⟩, .string ⟨#[108, 101, 110, 103, 116, 104]⟩, .string ⟨#[111, 114, 105, 103, 105, 110]⟩, .string ⟨#[109, 101, 100]⟩, .string ⟨#[99, 108, 97, 115, 115]⟩, .string ⟨#[99, 111, 115, 116]⟩, .string ⟨#[105, 100]⟩, .string ⟨#[112, 101, 101, 114]⟩])]
end Go.Proofs.YtaniibilgdhdiaaDoor.Sx
