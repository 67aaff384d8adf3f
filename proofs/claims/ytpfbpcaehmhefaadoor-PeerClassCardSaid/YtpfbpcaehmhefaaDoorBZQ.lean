/- The engine, part Q: the kinds of typed data. Plain definitions. -/
import Derived.WalkKit
import Derived.Test.YtpfbpcaehmhefaaDoorBZY
namespace Go.Proofs.YtpfbpcaehmhefaaDoorB.Sx
open Go.RowKit

/-- The kinds of one cell that is no slice and no pointer. 'val': any one cell, told by its value. -/
inductive Ck where
  | int (k : IntKind)
  | bool
  | str
  | flt (k : FloatKind)
  | cpx (k : FloatKind)
  | val
  | fn (f : Nat)
  deriving DecidableEq
@[reducible] def Ck.den : Ck → Type
  | .int _ => Int
  | .bool => Bool
  | .str => ByteArray
  | .flt _ => Nat
  | .cpx _ => Nat × Nat
  | .fn _ => Unit
  | .val => Value
/-- Objects: a map; an object of the seat's own kinds. -/
inductive Obk where
  | map
  | ob (n : Nat)
  deriving DecidableEq
@[reducible] def Obk.den : Obk → Type → Type
  | .map, A => A
  | .ob n, _ => obT n
/-- Rows of cells. 'sl': a slice of rows; 'pt': a pointer to a row; 'po': nil, or such a pointer; 'ag': a struct's value, or a closure of a function (among arguments and results alone); 'mp': an object: a map of rows by keys (each of one cell), or one of the seat's own kinds. 'own': memory of one's own; else memory that is read only. -/
inductive Sh where
  | nil
  | sc (c : Ck) (r : Sh)
  | sl (own : Bool) (e : TypeId) (row r : Sh)
  | pt (own : Bool) (e : TypeId) (row r : Sh)
  | po (own : Bool) (e : TypeId) (row r : Sh)
  | ag (tg : Option FuncId) (row r : Sh)
  | mp (k : Obk) (key row r : Sh)
  deriving DecidableEq
/-- A, and B behind it, if there is anything behind it. -/
@[reducible] def pr (A : Type) : Sh → Type → Type
  | .nil, _ => A
  | _, B => A × B
@[reducible] def Den : Sh → Type
  | .nil => Unit
  | .sc c r => pr c.den r (Den r)
  | .sl _ _ row r => pr (List (Den row)) r (Den r)
  | .pt _ _ row r => pr (Den row) r (Den r)
  | .po _ _ row r => pr (Option (Den row)) r (Den r)
  | .ag _ row r => pr (Den row) r (Den r)
  | .mp k key row r => pr (k.den (List (Den key × Den row))) r (Den r)
/-- The own pointers. -/
@[reducible] def posts : Sh → Sh
  | .nil => .nil
  | .sc _ r => posts r
  | .sl _ _ _ r => posts r
  | .pt own e row r => match own with | true => .pt true e row (posts r) | false => posts r
  | .po _ _ _ r => posts r
  | .ag _ _ r => posts r
  | .mp _ _ _ r => posts r
/-- Ways out. -/
inductive XK where
  | normal
  | exit (id : Nat)
  | ret
/-- A piece of code: n: how many slots; kins, k: slots of data that stays; ins, i: of data that comes in (own pointers among them stay); outs, o: of data that goes out (behind the number of the way out, if there are several ways); stay: slots that stay; ex: the ways out, and which of outs each gives; F: what comes of it. -/
structure Un where
  n : Nat
  kins : List Nat
  k : Sh
  ins : List Nat
  i : Sh
  outs : List Nat
  o : Sh
  stay : List Nat
  ex : List (XK × List Bool)
  F : Den k → Den i → Option (Den o × Den (posts i))
/-- Where the pieces of code stand that are functions of data. -/
inductive Plan where
  | none
  | unit (u : Un)
  | node (l r : Plan)
def Plan.l : Plan → Plan
  | .node l _ => l
  | _ => .none
def Plan.r : Plan → Plan
  | .node _ r => r
  | _ => .none
end Go.Proofs.YtpfbpcaehmhefaaDoorB.Sx
