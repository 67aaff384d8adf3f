/- What comes of function 21 of this program, (consulate.frame.Message).Bytes, as the engine gives it. -/
import Derived.Test.YtnmgbheaabdhlaaDoorChecked
import Derived.Test.YtnmgbheaabdhlaaDoorZO
import Derived.Test.YtnmgbheaabdhlaaDoorX2
import Derived.Test.YtnmgbheaabdhlaaDoorX1
namespace Go.Proofs.YtnmgbheaabdhlaaDoor.F21
open Go Go.Proofs Go.Proofs.YtnmgbheaabdhlaaDoor Go.RowKit Go.Proofs.YtnmgbheaabdhlaaDoor.Sx
set_option linter.unusedVariables false
set_option maxRecDepth 100000
def tab (x39 : F39.FT) (x43 : F43.FT) (l42_1 : F42.G1) : List (FuncId × Sx.Spec) := [(39, specF ⟨F39.i, F39.o, x39⟩), (43, specF ⟨F43.i, F43.o, x43⟩)]
def pls (x39 : F39.FT) (x43 : F43.FT) (l42_1 : F42.G1) : List (FuncId × Plan) := [(42, F42.plan l42_1)]
@[reducible] def k1 : Sh := .pt true 52 (.sc (.int .u8) (.sl true 5 (.sc (.int .u8) .nil) .nil)) (.sc (.int .i64) .nil)
@[reducible] def i1 : Sh := .nil
@[reducible] def o1 : Sh := .sc .bool .nil
abbrev G1 := ((Int × List (Int)) × Int) → Unit → Option (Bool × Unit)
def u1 (F : G1) : Un := ⟨63, [1, 4], k1, [], i1, [10], o1, [1, 4], [(.normal, [true])], F⟩
@[reducible] def k2 : Sh := .nil
@[reducible] def i2 : Sh := .nil
@[reducible] def o2 : Sh := .sl true 5 (.sc (.int .u8) .nil) .nil
abbrev G2 := Unit → Unit → Option (List (Int) × Unit)
def u2 (F : G2) : Un := ⟨63, [], k2, [], i2, [5], o2, [1, 4], [(.normal, [true])], F⟩
@[reducible] def k3 : Sh := .pt true 52 (.sc (.int .u8) (.sl true 5 (.sc (.int .u8) .nil) .nil)) (.sc (.int .i64) .nil)
@[reducible] def i3 : Sh := .sl true 5 (.sc (.int .u8) .nil) .nil
@[reducible] def o3 : Sh := .sl true 5 (.sc (.int .u8) .nil) (.sc (.int .i64) .nil)
abbrev G3 := ((Int × List (Int)) × Int) → List (Int) → Option ((List (Int) × Int) × Unit)
def u3 (F : G3) : Un := ⟨63, [1, 4], k3, [5], i3, [2, 3], o3, [], [(.normal, [true, true])], F⟩
@[reducible] def i : Sh := .ag none (.sc (.int .u8) (.sl false 5 (.sc (.int .u8) .nil) .nil)) .nil
@[reducible] def o : Sh := .sl true 5 (.sc (.int .u8) .nil) (.sc (.int .i64) .nil)
abbrev FT := ((Int × List (Int))) → Option ((List (Int) × Int) × Unit)
theorem tabS : AllS Tryd.prog (tab F39.f F43.f F42.l1) := ⟨F39.spec, F43.spec, trivial⟩
theorem plsP : AllP Tryd.prog (pls F39.f F43.f F42.l1) := ⟨F42.planOk, trivial⟩
theorem mixed : Tryd.prog.follows .mixedOrders = true := by kernel_rfl
def r1P (x39 : F39.FT) (x43 : F43.FT) (l42_1 : F42.G1) : G1 := fun ((m0, m1), n) () =>
    bif decide (m0 ≥ (1 : Int)) then
      bif !decide (m0 ≤ (5 : Int)) then some (true, PUnit.unit)
      else
       bif decide ((0 : Int) ≤ m0 ∧ m0 < (6 : Int)) then
       bif m0.toNat.beq (0 : Nat) then
       bif decide (n < (0 : Int)) then some (true, PUnit.unit)
       else
       bif decide ((0 : Int) ≤ m0 ∧ m0 < (6 : Int)) then
       bif m0.toNat.beq (0 : Nat) then
       bif decide (n > (0 : Int)) then
       bif decide ((0 : Int) ≤ m0 ∧ m0 < (6 : Int)) then
       bif m0.toNat.beq (0 : Nat) then some (true, PUnit.unit)
       else
       bif m0.toNat.beq (1 : Nat) then some (false, PUnit.unit)
       else
       bif m0.toNat.beq (2 : Nat) then some (false, PUnit.unit)
       else
       bif m0.toNat.beq (3 : Nat) then some (false, PUnit.unit)
       else
       bif m0.toNat.beq (4 : Nat) then some (true, PUnit.unit)
       else bif m0.toNat.beq (5 : Nat) then some (true, PUnit.unit) else none
       else none
       else some (false, PUnit.unit)
       else
       bif m0.toNat.beq (1 : Nat) then
       bif decide (n > (4096 : Int)) then
       bif decide ((0 : Int) ≤ m0 ∧ m0 < (6 : Int)) then
       bif m0.toNat.beq (0 : Nat) then some (true, PUnit.unit)
       else
       bif m0.toNat.beq (1 : Nat) then some (false, PUnit.unit)
       else
       bif m0.toNat.beq (2 : Nat) then some (false, PUnit.unit)
       else
       bif m0.toNat.beq (3 : Nat) then some (false, PUnit.unit)
       else
       bif m0.toNat.beq (4 : Nat) then some (true, PUnit.unit)
       else bif m0.toNat.beq (5 : Nat) then some (true, PUnit.unit) else none
       else none
       else some (false, PUnit.unit)
       else
       bif m0.toNat.beq (2 : Nat) then
       bif decide (n > (4096 : Int)) then
       bif decide ((0 : Int) ≤ m0 ∧ m0 < (6 : Int)) then
       bif m0.toNat.beq (0 : Nat) then some (true, PUnit.unit)
       else
       bif m0.toNat.beq (1 : Nat) then some (false, PUnit.unit)
       else
       bif m0.toNat.beq (2 : Nat) then some (false, PUnit.unit)
       else
       bif m0.toNat.beq (3 : Nat) then some (false, PUnit.unit)
       else
       bif m0.toNat.beq (4 : Nat) then some (true, PUnit.unit)
       else bif m0.toNat.beq (5 : Nat) then some (true, PUnit.unit) else none
       else none
       else some (false, PUnit.unit)
       else
       bif m0.toNat.beq (3 : Nat) then
       bif decide (n > (4096 : Int)) then
       bif decide ((0 : Int) ≤ m0 ∧ m0 < (6 : Int)) then
       bif m0.toNat.beq (0 : Nat) then some (true, PUnit.unit)
       else
       bif m0.toNat.beq (1 : Nat) then some (false, PUnit.unit)
       else
       bif m0.toNat.beq (2 : Nat) then some (false, PUnit.unit)
       else
       bif m0.toNat.beq (3 : Nat) then some (false, PUnit.unit)
       else
       bif m0.toNat.beq (4 : Nat) then some (true, PUnit.unit)
       else bif m0.toNat.beq (5 : Nat) then some (true, PUnit.unit) else none
       else none
       else some (false, PUnit.unit)
       else
       bif m0.toNat.beq (4 : Nat) then
       bif decide (n > (19 : Int)) then
       bif decide ((0 : Int) ≤ m0 ∧ m0 < (6 : Int)) then
       bif m0.toNat.beq (0 : Nat) then some (true, PUnit.unit)
       else
       bif m0.toNat.beq (1 : Nat) then some (false, PUnit.unit)
       else
       bif m0.toNat.beq (2 : Nat) then some (false, PUnit.unit)
       else
       bif m0.toNat.beq (3 : Nat) then some (false, PUnit.unit)
       else
       bif m0.toNat.beq (4 : Nat) then some (true, PUnit.unit)
       else bif m0.toNat.beq (5 : Nat) then some (true, PUnit.unit) else none
       else none
       else some (false, PUnit.unit)
       else
       bif m0.toNat.beq (5 : Nat) then
       bif decide (n > (23 : Int)) then
       bif decide ((0 : Int) ≤ m0 ∧ m0 < (6 : Int)) then
       bif m0.toNat.beq (0 : Nat) then some (true, PUnit.unit)
       else
       bif m0.toNat.beq (1 : Nat) then some (false, PUnit.unit)
       else
       bif m0.toNat.beq (2 : Nat) then some (false, PUnit.unit)
       else
       bif m0.toNat.beq (3 : Nat) then some (false, PUnit.unit)
       else
       bif m0.toNat.beq (4 : Nat) then some (true, PUnit.unit)
       else bif m0.toNat.beq (5 : Nat) then some (true, PUnit.unit) else none
       else none
       else some (false, PUnit.unit)
       else none
       else none
       else
       bif m0.toNat.beq (1 : Nat) then
       bif decide (n < (29 : Int)) then some (true, PUnit.unit)
       else
       bif decide ((0 : Int) ≤ m0 ∧ m0 < (6 : Int)) then
       bif m0.toNat.beq (0 : Nat) then
       bif decide (n > (0 : Int)) then
       bif decide ((0 : Int) ≤ m0 ∧ m0 < (6 : Int)) then
       bif m0.toNat.beq (0 : Nat) then some (true, PUnit.unit)
       else
       bif m0.toNat.beq (1 : Nat) then some (false, PUnit.unit)
       else
       bif m0.toNat.beq (2 : Nat) then some (false, PUnit.unit)
       else
       bif m0.toNat.beq (3 : Nat) then some (false, PUnit.unit)
       else
       bif m0.toNat.beq (4 : Nat) then some (true, PUnit.unit)
       else bif m0.toNat.beq (5 : Nat) then some (true, PUnit.unit) else none
       else none
       else some (false, PUnit.unit)
       else
       bif m0.toNat.beq (1 : Nat) then
       bif decide (n > (4096 : Int)) then
       bif decide ((0 : Int) ≤ m0 ∧ m0 < (6 : Int)) then
       bif m0.toNat.beq (0 : Nat) then some (true, PUnit.unit)
       else
       bif m0.toNat.beq (1 : Nat) then some (false, PUnit.unit)
       else
       bif m0.toNat.beq (2 : Nat) then some (false, PUnit.unit)
       else
       bif m0.toNat.beq (3 : Nat) then some (false, PUnit.unit)
       else
       bif m0.toNat.beq (4 : Nat) then some (true, PUnit.unit)
       else bif m0.toNat.beq (5 : Nat) then some (true, PUnit.unit) else none
       else none
       else some (false, PUnit.unit)
       else
       bif m0.toNat.beq (2 : Nat) then
       bif decide (n > (4096 : Int)) then
       bif decide ((0 : Int) ≤ m0 ∧ m0 < (6 : Int)) then
       bif m0.toNat.beq (0 : Nat) then some (true, PUnit.unit)
       else
       bif m0.toNat.beq (1 : Nat) then some (false, PUnit.unit)
       else
       bif m0.toNat.beq (2 : Nat) then some (false, PUnit.unit)
       else
       bif m0.toNat.beq (3 : Nat) then some (false, PUnit.unit)
       else
       bif m0.toNat.beq (4 : Nat) then some (true, PUnit.unit)
       else bif m0.toNat.beq (5 : Nat) then some (true, PUnit.unit) else none
       else none
       else some (false, PUnit.unit)
       else
       bif m0.toNat.beq (3 : Nat) then
       bif decide (n > (4096 : Int)) then
       bif decide ((0 : Int) ≤ m0 ∧ m0 < (6 : Int)) then
       bif m0.toNat.beq (0 : Nat) then some (true, PUnit.unit)
       else
       bif m0.toNat.beq (1 : Nat) then some (false, PUnit.unit)
       else
       bif m0.toNat.beq (2 : Nat) then some (false, PUnit.unit)
       else
       bif m0.toNat.beq (3 : Nat) then some (false, PUnit.unit)
       else
       bif m0.toNat.beq (4 : Nat) then some (true, PUnit.unit)
       else bif m0.toNat.beq (5 : Nat) then some (true, PUnit.unit) else none
       else none
       else some (false, PUnit.unit)
       else
       bif m0.toNat.beq (4 : Nat) then
       bif decide (n > (19 : Int)) then
       bif decide ((0 : Int) ≤ m0 ∧ m0 < (6 : Int)) then
       bif m0.toNat.beq (0 : Nat) then some (true, PUnit.unit)
       else
       bif m0.toNat.beq (1 : Nat) then some (false, PUnit.unit)
       else
       bif m0.toNat.beq (2 : Nat) then some (false, PUnit.unit)
       else
       bif m0.toNat.beq (3 : Nat) then some (false, PUnit.unit)
       else
       bif m0.toNat.beq (4 : Nat) then some (true, PUnit.unit)
       else bif m0.toNat.beq (5 : Nat) then some (true, PUnit.unit) else none
       else none
       else some (false, PUnit.unit)
       else
       bif m0.toNat.beq (5 : Nat) then
       bif decide (n > (23 : Int)) then
       bif decide ((0 : Int) ≤ m0 ∧ m0 < (6 : Int)) then
       bif m0.toNat.beq (0 : Nat) then some (true, PUnit.unit)
       else
       bif m0.toNat.beq (1 : Nat) then some (false, PUnit.unit)
       else
       bif m0.toNat.beq (2 : Nat) then some (false, PUnit.unit)
       else
       bif m0.toNat.beq (3 : Nat) then some (false, PUnit.unit)
       else
       bif m0.toNat.beq (4 : Nat) then some (true, PUnit.unit)
       else bif m0.toNat.beq (5 : Nat) then some (true, PUnit.unit) else none
       else none
       else some (false, PUnit.unit)
       else none
       else none
       else
       bif m0.toNat.beq (2 : Nat) then
       bif decide (n < (23 : Int)) then some (true, PUnit.unit)
       else
       bif decide ((0 : Int) ≤ m0 ∧ m0 < (6 : Int)) then
       bif m0.toNat.beq (0 : Nat) then
       bif decide (n > (0 : Int)) then
       bif decide ((0 : Int) ≤ m0 ∧ m0 < (6 : Int)) then
       bif m0.toNat.beq (0 : Nat) then some (true, PUnit.unit)
       else
       bif m0.toNat.beq (1 : Nat) then some (false, PUnit.unit)
       else
       bif m0.toNat.beq (2 : Nat) then some (false, PUnit.unit)
       else
       bif m0.toNat.beq (3 : Nat) then some (false, PUnit.unit)
       else
       bif m0.toNat.beq (4 : Nat) then some (true, PUnit.unit)
       else bif m0.toNat.beq (5 : Nat) then some (true, PUnit.unit) else none
       else none
       else some (false, PUnit.unit)
       else
       bif m0.toNat.beq (1 : Nat) then
       bif decide (n > (4096 : Int)) then
       bif decide ((0 : Int) ≤ m0 ∧ m0 < (6 : Int)) then
       bif m0.toNat.beq (0 : Nat) then some (true, PUnit.unit)
       else
       bif m0.toNat.beq (1 : Nat) then some (false, PUnit.unit)
       else
       bif m0.toNat.beq (2 : Nat) then some (false, PUnit.unit)
       else
       bif m0.toNat.beq (3 : Nat) then some (false, PUnit.unit)
       else
       bif m0.toNat.beq (4 : Nat) then some (true, PUnit.unit)
       else bif m0.toNat.beq (5 : Nat) then some (true, PUnit.unit) else none
       else none
       else some (false, PUnit.unit)
       else
       bif m0.toNat.beq (2 : Nat) then
       bif decide (n > (4096 : Int)) then
       bif decide ((0 : Int) ≤ m0 ∧ m0 < (6 : Int)) then
       bif m0.toNat.beq (0 : Nat) then some (true, PUnit.unit)
       else
       bif m0.toNat.beq (1 : Nat) then some (false, PUnit.unit)
       else
       bif m0.toNat.beq (2 : Nat) then some (false, PUnit.unit)
       else
       bif m0.toNat.beq (3 : Nat) then some (false, PUnit.unit)
       else
       bif m0.toNat.beq (4 : Nat) then some (true, PUnit.unit)
       else bif m0.toNat.beq (5 : Nat) then some (true, PUnit.unit) else none
       else none
       else some (false, PUnit.unit)
       else
       bif m0.toNat.beq (3 : Nat) then
       bif decide (n > (4096 : Int)) then
       bif decide ((0 : Int) ≤ m0 ∧ m0 < (6 : Int)) then
       bif m0.toNat.beq (0 : Nat) then some (true, PUnit.unit)
       else
       bif m0.toNat.beq (1 : Nat) then some (false, PUnit.unit)
       else
       bif m0.toNat.beq (2 : Nat) then some (false, PUnit.unit)
       else
       bif m0.toNat.beq (3 : Nat) then some (false, PUnit.unit)
       else
       bif m0.toNat.beq (4 : Nat) then some (true, PUnit.unit)
       else bif m0.toNat.beq (5 : Nat) then some (true, PUnit.unit) else none
       else none
       else some (false, PUnit.unit)
       else
       bif m0.toNat.beq (4 : Nat) then
       bif decide (n > (19 : Int)) then
       bif decide ((0 : Int) ≤ m0 ∧ m0 < (6 : Int)) then
       bif m0.toNat.beq (0 : Nat) then some (true, PUnit.unit)
       else
       bif m0.toNat.beq (1 : Nat) then some (false, PUnit.unit)
       else
       bif m0.toNat.beq (2 : Nat) then some (false, PUnit.unit)
       else
       bif m0.toNat.beq (3 : Nat) then some (false, PUnit.unit)
       else
       bif m0.toNat.beq (4 : Nat) then some (true, PUnit.unit)
       else bif m0.toNat.beq (5 : Nat) then some (true, PUnit.unit) else none
       else none
       else some (false, PUnit.unit)
       else
       bif m0.toNat.beq (5 : Nat) then
       bif decide (n > (23 : Int)) then
       bif decide ((0 : Int) ≤ m0 ∧ m0 < (6 : Int)) then
       bif m0.toNat.beq (0 : Nat) then some (true, PUnit.unit)
       else
       bif m0.toNat.beq (1 : Nat) then some (false, PUnit.unit)
       else
       bif m0.toNat.beq (2 : Nat) then some (false, PUnit.unit)
       else
       bif m0.toNat.beq (3 : Nat) then some (false, PUnit.unit)
       else
       bif m0.toNat.beq (4 : Nat) then some (true, PUnit.unit)
       else bif m0.toNat.beq (5 : Nat) then some (true, PUnit.unit) else none
       else none
       else some (false, PUnit.unit)
       else none
       else none
       else
       bif m0.toNat.beq (3 : Nat) then
       bif decide (n < (21 : Int)) then some (true, PUnit.unit)
       else
       bif decide ((0 : Int) ≤ m0 ∧ m0 < (6 : Int)) then
       bif m0.toNat.beq (0 : Nat) then
       bif decide (n > (0 : Int)) then
       bif decide ((0 : Int) ≤ m0 ∧ m0 < (6 : Int)) then
       bif m0.toNat.beq (0 : Nat) then some (true, PUnit.unit)
       else
       bif m0.toNat.beq (1 : Nat) then some (false, PUnit.unit)
       else
       bif m0.toNat.beq (2 : Nat) then some (false, PUnit.unit)
       else
       bif m0.toNat.beq (3 : Nat) then some (false, PUnit.unit)
       else
       bif m0.toNat.beq (4 : Nat) then some (true, PUnit.unit)
       else bif m0.toNat.beq (5 : Nat) then some (true, PUnit.unit) else none
       else none
       else some (false, PUnit.unit)
       else
       bif m0.toNat.beq (1 : Nat) then
       bif decide (n > (4096 : Int)) then
       bif decide ((0 : Int) ≤ m0 ∧ m0 < (6 : Int)) then
       bif m0.toNat.beq (0 : Nat) then some (true, PUnit.unit)
       else
       bif m0.toNat.beq (1 : Nat) then some (false, PUnit.unit)
       else
       bif m0.toNat.beq (2 : Nat) then some (false, PUnit.unit)
       else
       bif m0.toNat.beq (3 : Nat) then some (false, PUnit.unit)
       else
       bif m0.toNat.beq (4 : Nat) then some (true, PUnit.unit)
       else bif m0.toNat.beq (5 : Nat) then some (true, PUnit.unit) else none
       else none
       else some (false, PUnit.unit)
       else
       bif m0.toNat.beq (2 : Nat) then
       bif decide (n > (4096 : Int)) then
       bif decide ((0 : Int) ≤ m0 ∧ m0 < (6 : Int)) then
       bif m0.toNat.beq (0 : Nat) then some (true, PUnit.unit)
       else
       bif m0.toNat.beq (1 : Nat) then some (false, PUnit.unit)
       else
       bif m0.toNat.beq (2 : Nat) then some (false, PUnit.unit)
       else
       bif m0.toNat.beq (3 : Nat) then some (false, PUnit.unit)
       else
       bif m0.toNat.beq (4 : Nat) then some (true, PUnit.unit)
       else bif m0.toNat.beq (5 : Nat) then some (true, PUnit.unit) else none
       else none
       else some (false, PUnit.unit)
       else
       bif m0.toNat.beq (3 : Nat) then
       bif decide (n > (4096 : Int)) then
       bif decide ((0 : Int) ≤ m0 ∧ m0 < (6 : Int)) then
       bif m0.toNat.beq (0 : Nat) then some (true, PUnit.unit)
       else
       bif m0.toNat.beq (1 : Nat) then some (false, PUnit.unit)
       else
       bif m0.toNat.beq (2 : Nat) then some (false, PUnit.unit)
       else
       bif m0.toNat.beq (3 : Nat) then some (false, PUnit.unit)
       else
       bif m0.toNat.beq (4 : Nat) then some (true, PUnit.unit)
       else bif m0.toNat.beq (5 : Nat) then some (true, PUnit.unit) else none
       else none
       else some (false, PUnit.unit)
       else
       bif m0.toNat.beq (4 : Nat) then
       bif decide (n > (19 : Int)) then
       bif decide ((0 : Int) ≤ m0 ∧ m0 < (6 : Int)) then
       bif m0.toNat.beq (0 : Nat) then some (true, PUnit.unit)
       else
       bif m0.toNat.beq (1 : Nat) then some (false, PUnit.unit)
       else
       bif m0.toNat.beq (2 : Nat) then some (false, PUnit.unit)
       else
       bif m0.toNat.beq (3 : Nat) then some (false, PUnit.unit)
       else
       bif m0.toNat.beq (4 : Nat) then some (true, PUnit.unit)
       else bif m0.toNat.beq (5 : Nat) then some (true, PUnit.unit) else none
       else none
       else some (false, PUnit.unit)
       else
       bif m0.toNat.beq (5 : Nat) then
       bif decide (n > (23 : Int)) then
       bif decide ((0 : Int) ≤ m0 ∧ m0 < (6 : Int)) then
       bif m0.toNat.beq (0 : Nat) then some (true, PUnit.unit)
       else
       bif m0.toNat.beq (1 : Nat) then some (false, PUnit.unit)
       else
       bif m0.toNat.beq (2 : Nat) then some (false, PUnit.unit)
       else
       bif m0.toNat.beq (3 : Nat) then some (false, PUnit.unit)
       else
       bif m0.toNat.beq (4 : Nat) then some (true, PUnit.unit)
       else bif m0.toNat.beq (5 : Nat) then some (true, PUnit.unit) else none
       else none
       else some (false, PUnit.unit)
       else none
       else none
       else
       bif m0.toNat.beq (4 : Nat) then
       bif decide (n < (19 : Int)) then some (true, PUnit.unit)
       else
       bif decide ((0 : Int) ≤ m0 ∧ m0 < (6 : Int)) then
       bif m0.toNat.beq (0 : Nat) then
       bif decide (n > (0 : Int)) then
       bif decide ((0 : Int) ≤ m0 ∧ m0 < (6 : Int)) then
       bif m0.toNat.beq (0 : Nat) then some (true, PUnit.unit)
       else
       bif m0.toNat.beq (1 : Nat) then some (false, PUnit.unit)
       else
       bif m0.toNat.beq (2 : Nat) then some (false, PUnit.unit)
       else
       bif m0.toNat.beq (3 : Nat) then some (false, PUnit.unit)
       else
       bif m0.toNat.beq (4 : Nat) then some (true, PUnit.unit)
       else bif m0.toNat.beq (5 : Nat) then some (true, PUnit.unit) else none
       else none
       else some (false, PUnit.unit)
       else
       bif m0.toNat.beq (1 : Nat) then
       bif decide (n > (4096 : Int)) then
       bif decide ((0 : Int) ≤ m0 ∧ m0 < (6 : Int)) then
       bif m0.toNat.beq (0 : Nat) then some (true, PUnit.unit)
       else
       bif m0.toNat.beq (1 : Nat) then some (false, PUnit.unit)
       else
       bif m0.toNat.beq (2 : Nat) then some (false, PUnit.unit)
       else
       bif m0.toNat.beq (3 : Nat) then some (false, PUnit.unit)
       else
       bif m0.toNat.beq (4 : Nat) then some (true, PUnit.unit)
       else bif m0.toNat.beq (5 : Nat) then some (true, PUnit.unit) else none
       else none
       else some (false, PUnit.unit)
       else
       bif m0.toNat.beq (2 : Nat) then
       bif decide (n > (4096 : Int)) then
       bif decide ((0 : Int) ≤ m0 ∧ m0 < (6 : Int)) then
       bif m0.toNat.beq (0 : Nat) then some (true, PUnit.unit)
       else
       bif m0.toNat.beq (1 : Nat) then some (false, PUnit.unit)
       else
       bif m0.toNat.beq (2 : Nat) then some (false, PUnit.unit)
       else
       bif m0.toNat.beq (3 : Nat) then some (false, PUnit.unit)
       else
       bif m0.toNat.beq (4 : Nat) then some (true, PUnit.unit)
       else bif m0.toNat.beq (5 : Nat) then some (true, PUnit.unit) else none
       else none
       else some (false, PUnit.unit)
       else
       bif m0.toNat.beq (3 : Nat) then
       bif decide (n > (4096 : Int)) then
       bif decide ((0 : Int) ≤ m0 ∧ m0 < (6 : Int)) then
       bif m0.toNat.beq (0 : Nat) then some (true, PUnit.unit)
       else
       bif m0.toNat.beq (1 : Nat) then some (false, PUnit.unit)
       else
       bif m0.toNat.beq (2 : Nat) then some (false, PUnit.unit)
       else
       bif m0.toNat.beq (3 : Nat) then some (false, PUnit.unit)
       else
       bif m0.toNat.beq (4 : Nat) then some (true, PUnit.unit)
       else bif m0.toNat.beq (5 : Nat) then some (true, PUnit.unit) else none
       else none
       else some (false, PUnit.unit)
       else
       bif m0.toNat.beq (4 : Nat) then
       bif decide (n > (19 : Int)) then
       bif decide ((0 : Int) ≤ m0 ∧ m0 < (6 : Int)) then
       bif m0.toNat.beq (0 : Nat) then some (true, PUnit.unit)
       else
       bif m0.toNat.beq (1 : Nat) then some (false, PUnit.unit)
       else
       bif m0.toNat.beq (2 : Nat) then some (false, PUnit.unit)
       else
       bif m0.toNat.beq (3 : Nat) then some (false, PUnit.unit)
       else
       bif m0.toNat.beq (4 : Nat) then some (true, PUnit.unit)
       else bif m0.toNat.beq (5 : Nat) then some (true, PUnit.unit) else none
       else none
       else some (false, PUnit.unit)
       else
       bif m0.toNat.beq (5 : Nat) then
       bif decide (n > (23 : Int)) then
       bif decide ((0 : Int) ≤ m0 ∧ m0 < (6 : Int)) then
       bif m0.toNat.beq (0 : Nat) then some (true, PUnit.unit)
       else
       bif m0.toNat.beq (1 : Nat) then some (false, PUnit.unit)
       else
       bif m0.toNat.beq (2 : Nat) then some (false, PUnit.unit)
       else
       bif m0.toNat.beq (3 : Nat) then some (false, PUnit.unit)
       else
       bif m0.toNat.beq (4 : Nat) then some (true, PUnit.unit)
       else bif m0.toNat.beq (5 : Nat) then some (true, PUnit.unit) else none
       else none
       else some (false, PUnit.unit)
       else none
       else none
       else
       bif m0.toNat.beq (5 : Nat) then
       bif decide (n < (23 : Int)) then some (true, PUnit.unit)
       else
       bif decide ((0 : Int) ≤ m0 ∧ m0 < (6 : Int)) then
       bif m0.toNat.beq (0 : Nat) then
       bif decide (n > (0 : Int)) then
       bif decide ((0 : Int) ≤ m0 ∧ m0 < (6 : Int)) then
       bif m0.toNat.beq (0 : Nat) then some (true, PUnit.unit)
       else
       bif m0.toNat.beq (1 : Nat) then some (false, PUnit.unit)
       else
       bif m0.toNat.beq (2 : Nat) then some (false, PUnit.unit)
       else
       bif m0.toNat.beq (3 : Nat) then some (false, PUnit.unit)
       else
       bif m0.toNat.beq (4 : Nat) then some (true, PUnit.unit)
       else bif m0.toNat.beq (5 : Nat) then some (true, PUnit.unit) else none
       else none
       else some (false, PUnit.unit)
       else
       bif m0.toNat.beq (1 : Nat) then
       bif decide (n > (4096 : Int)) then
       bif decide ((0 : Int) ≤ m0 ∧ m0 < (6 : Int)) then
       bif m0.toNat.beq (0 : Nat) then some (true, PUnit.unit)
       else
       bif m0.toNat.beq (1 : Nat) then some (false, PUnit.unit)
       else
       bif m0.toNat.beq (2 : Nat) then some (false, PUnit.unit)
       else
       bif m0.toNat.beq (3 : Nat) then some (false, PUnit.unit)
       else
       bif m0.toNat.beq (4 : Nat) then some (true, PUnit.unit)
       else bif m0.toNat.beq (5 : Nat) then some (true, PUnit.unit) else none
       else none
       else some (false, PUnit.unit)
       else
       bif m0.toNat.beq (2 : Nat) then
       bif decide (n > (4096 : Int)) then
       bif decide ((0 : Int) ≤ m0 ∧ m0 < (6 : Int)) then
       bif m0.toNat.beq (0 : Nat) then some (true, PUnit.unit)
       else
       bif m0.toNat.beq (1 : Nat) then some (false, PUnit.unit)
       else
       bif m0.toNat.beq (2 : Nat) then some (false, PUnit.unit)
       else
       bif m0.toNat.beq (3 : Nat) then some (false, PUnit.unit)
       else
       bif m0.toNat.beq (4 : Nat) then some (true, PUnit.unit)
       else bif m0.toNat.beq (5 : Nat) then some (true, PUnit.unit) else none
       else none
       else some (false, PUnit.unit)
       else
       bif m0.toNat.beq (3 : Nat) then
       bif decide (n > (4096 : Int)) then
       bif decide ((0 : Int) ≤ m0 ∧ m0 < (6 : Int)) then
       bif m0.toNat.beq (0 : Nat) then some (true, PUnit.unit)
       else
       bif m0.toNat.beq (1 : Nat) then some (false, PUnit.unit)
       else
       bif m0.toNat.beq (2 : Nat) then some (false, PUnit.unit)
       else
       bif m0.toNat.beq (3 : Nat) then some (false, PUnit.unit)
       else
       bif m0.toNat.beq (4 : Nat) then some (true, PUnit.unit)
       else bif m0.toNat.beq (5 : Nat) then some (true, PUnit.unit) else none
       else none
       else some (false, PUnit.unit)
       else
       bif m0.toNat.beq (4 : Nat) then
       bif decide (n > (19 : Int)) then
       bif decide ((0 : Int) ≤ m0 ∧ m0 < (6 : Int)) then
       bif m0.toNat.beq (0 : Nat) then some (true, PUnit.unit)
       else
       bif m0.toNat.beq (1 : Nat) then some (false, PUnit.unit)
       else
       bif m0.toNat.beq (2 : Nat) then some (false, PUnit.unit)
       else
       bif m0.toNat.beq (3 : Nat) then some (false, PUnit.unit)
       else
       bif m0.toNat.beq (4 : Nat) then some (true, PUnit.unit)
       else bif m0.toNat.beq (5 : Nat) then some (true, PUnit.unit) else none
       else none
       else some (false, PUnit.unit)
       else
       bif m0.toNat.beq (5 : Nat) then
       bif decide (n > (23 : Int)) then
       bif decide ((0 : Int) ≤ m0 ∧ m0 < (6 : Int)) then
       bif m0.toNat.beq (0 : Nat) then some (true, PUnit.unit)
       else
       bif m0.toNat.beq (1 : Nat) then some (false, PUnit.unit)
       else
       bif m0.toNat.beq (2 : Nat) then some (false, PUnit.unit)
       else
       bif m0.toNat.beq (3 : Nat) then some (false, PUnit.unit)
       else
       bif m0.toNat.beq (4 : Nat) then some (true, PUnit.unit)
       else bif m0.toNat.beq (5 : Nat) then some (true, PUnit.unit) else none
       else none
       else some (false, PUnit.unit)
       else none
       else none
       else none
       else none
    else some (true, PUnit.unit)
theorem r1e (x39 : F39.FT) (x43 : F43.FT) (l42_1 : F42.G1) (kd : (Int × List (Int)) × Int) (d : Unit) : unitF (tabC Tryd.prog (tab x39 x43 l42_1) (pls x39 x43 l42_1) 100 12) 100 .none (u1 fun _ _ => none) (codeAt [1, 1, 0, 0, 0] (bodyOf Tryd.prog 21)) kd d = r1P x39 x43 l42_1 kd d := by kernel_rfl
noncomputable def r1 : G1 := r1P F39.f F43.f F42.l1
noncomputable def l1 : G1 := r1
theorem ok1 : UnOk Tryd.prog (u1 l1) (codeAt [1, 1, 0, 0, 0] (bodyOf Tryd.prog 21)) :=
  blockT (p := .none) (fuel := 100) (depth := 12) mixed tabS plsP trivial (fun kd d => r1e F39.f F43.f F42.l1 kd d)
def r2P (x39 : F39.FT) (x43 : F43.FT) (l42_1 : F42.G1) : G2 := fun () () =>
    (x39 ([(255 : Int)], (16 : Int))).bind fun r0 =>
      bif decide ((0 : Nat) + List.length r0.fst ≤ List.length r0.fst) && true then
       some (List.take (List.length r0.fst) (List.drop (0 : Nat) r0.fst), PUnit.unit)
      else none
theorem r2e (x39 : F39.FT) (x43 : F43.FT) (l42_1 : F42.G1) (kd : Unit) (d : Unit) : unitF (tabC Tryd.prog (tab x39 x43 l42_1) (pls x39 x43 l42_1) 100 12) 100 .none (u2 fun _ _ => none) (codeAt [1, 1, 1, 0] (bodyOf Tryd.prog 21)) kd d = r2P x39 x43 l42_1 kd d := by kernel_rfl
noncomputable def r2 : G2 := r2P F39.f F43.f F42.l1
noncomputable def l2 : G2 := r2
theorem ok2 : UnOk Tryd.prog (u2 l2) (codeAt [1, 1, 1, 0] (bodyOf Tryd.prog 21)) :=
  blockT (p := .none) (fuel := 100) (depth := 12) mixed tabS plsP trivial (fun kd d => r2e F39.f F43.f F42.l1 kd d)
def r3P (x39 : F39.FT) (x43 : F43.FT) (l42_1 : F42.G1) : G3 := fun ((m0, m1), n) ahead =>
    bif decide ((0 : Nat) + ahead.length ≤ ahead.length) then
      bif decide ((List.take ahead.length ahead).length = (0 : Nat)) then
       (l42_1 ([IntKind.u16.wrap n], (1 : Int)) (([], [], (0 : Int), true), (0 : Int))).bind fun r0 =>
       bif !r0.snd.snd.snd.snd then
       bif !r0.snd.snd.snd.snd then
       (x43 r0.snd).bind fun r1 =>
       bif decide ((0 : Nat) + r1.fst.fst.length ≤ r1.fst.fst.length) && true then
       some ((List.take r1.fst.fst.length (List.drop (0 : Nat) r1.fst.fst), r1.fst.snd), PUnit.unit)
       else none
       else
       bif r0.snd.snd.snd.fst == (0 : Int) then
       bif decide ((0 : Nat) + m1.length ≤ m1.length) then
       bif decide (r0.snd.fst.length + (List.take m1.length m1).length ≤ (1073741824 : Nat)) then
       bif decide ((0 : Nat) + r0.snd.fst.length ≤ r0.snd.fst.length) then
       bif
       decide
       ((0 : Nat) + (r0.snd.fst.length + (List.take m1.length m1).length) ≤
       (List.take r0.snd.fst.length (List.drop (0 : Nat) r0.snd.fst) ++
       List.take m1.length m1).length) &&
       true then
       bif decide ((0 : Nat) + r0.snd.snd.fst.length ≤ r0.snd.snd.fst.length) && true then
       (x43
       (List.take (r0.snd.fst.length + (List.take m1.length m1).length)
       (List.drop (0 : Nat)
       (List.take r0.snd.fst.length (List.drop (0 : Nat) r0.snd.fst) ++
       List.take m1.length m1)),
       List.take r0.snd.snd.fst.length (List.drop (0 : Nat) r0.snd.snd.fst),
       r0.snd.snd.snd.fst, r0.snd.snd.snd.snd)).bind
       fun r1 =>
       bif decide ((0 : Nat) + r1.fst.fst.length ≤ r1.fst.fst.length) && true then
       some
       ((List.take r1.fst.fst.length (List.drop (0 : Nat) r1.fst.fst), r1.fst.snd), PUnit.unit)
       else none
       else none
       else none
       else none
       else none
       else none
       else
       (x43 r0.snd).bind fun r1 =>
       bif decide ((0 : Nat) + r1.fst.fst.length ≤ r1.fst.fst.length) && true then
       some ((List.take r1.fst.fst.length (List.drop (0 : Nat) r1.fst.fst), r1.fst.snd), PUnit.unit)
       else none
       else
       bif r0.snd.snd.snd.fst == (0 : Int) then
       bif decide (r0.snd.fst.length + (1 : Nat) / OfNat.ofNat (1 : Nat) ≤ (1073741824 : Nat)) then
       bif decide ((0 : Nat) + r0.snd.fst.length ≤ r0.snd.fst.length) then
       bif !r0.snd.snd.snd.snd then
       bif
       decide
       ((0 : Nat) + (r0.snd.fst.length + (1 : Nat) / OfNat.ofNat (1 : Nat)) ≤
       (List.take r0.snd.fst.length (List.drop (0 : Nat) r0.snd.fst) ++ [m0]).length) &&
       true then
       bif decide ((0 : Nat) + r0.snd.snd.fst.length ≤ r0.snd.snd.fst.length) && true then
       (x43
       (List.take (r0.snd.fst.length + (1 : Nat) / OfNat.ofNat (1 : Nat))
       (List.drop (0 : Nat)
       (List.take r0.snd.fst.length (List.drop (0 : Nat) r0.snd.fst) ++ [m0])),
       List.take r0.snd.snd.fst.length (List.drop (0 : Nat) r0.snd.snd.fst), r0.snd.snd.snd.fst,
       r0.snd.snd.snd.snd)).bind
       fun r1 =>
       bif decide ((0 : Nat) + r1.fst.fst.length ≤ r1.fst.fst.length) && true then
       some ((List.take r1.fst.fst.length (List.drop (0 : Nat) r1.fst.fst), r1.fst.snd), PUnit.unit)
       else none
       else none
       else none
       else
       bif r0.snd.snd.snd.fst == (0 : Int) then
       bif decide ((0 : Nat) + m1.length ≤ m1.length) then
       bif
       decide
       (r0.snd.fst.length + (1 : Nat) / OfNat.ofNat (1 : Nat) + (List.take m1.length m1).length ≤
       (1073741824 : Nat)) then
       bif
       decide
       ((0 : Nat) + (r0.snd.fst.length + (1 : Nat) / OfNat.ofNat (1 : Nat)) ≤
       (List.take r0.snd.fst.length (List.drop (0 : Nat) r0.snd.fst) ++ [m0]).length) then
       bif
       decide
       ((0 : Nat) +
       (r0.snd.fst.length + (1 : Nat) / OfNat.ofNat (1 : Nat) +
       (List.take m1.length m1).length) ≤
       (List.take (r0.snd.fst.length + (1 : Nat) / OfNat.ofNat (1 : Nat))
       (List.drop (0 : Nat)
       (List.take r0.snd.fst.length (List.drop (0 : Nat) r0.snd.fst) ++ [m0])) ++
       List.take m1.length m1).length) &&
       true then
       bif decide ((0 : Nat) + r0.snd.snd.fst.length ≤ r0.snd.snd.fst.length) && true then
       (x43
       (List.take
       (r0.snd.fst.length + (1 : Nat) / OfNat.ofNat (1 : Nat) +
       (List.take m1.length m1).length)
       (List.drop (0 : Nat)
       (List.take (r0.snd.fst.length + (1 : Nat) / OfNat.ofNat (1 : Nat))
       (List.drop (0 : Nat)
       (List.take r0.snd.fst.length (List.drop (0 : Nat) r0.snd.fst) ++
       [m0])) ++
       List.take m1.length m1)),
       List.take r0.snd.snd.fst.length (List.drop (0 : Nat) r0.snd.snd.fst),
       r0.snd.snd.snd.fst, r0.snd.snd.snd.snd)).bind
       fun r1 =>
       bif decide ((0 : Nat) + r1.fst.fst.length ≤ r1.fst.fst.length) && true then
       some
       ((List.take r1.fst.fst.length (List.drop (0 : Nat) r1.fst.fst), r1.fst.snd),
       PUnit.unit)
       else none
       else none
       else none
       else none
       else none
       else none
       else
       bif
       decide
       ((0 : Nat) + (r0.snd.fst.length + (1 : Nat) / OfNat.ofNat (1 : Nat)) ≤
       (List.take r0.snd.fst.length (List.drop (0 : Nat) r0.snd.fst) ++ [m0]).length) &&
       true then
       bif decide ((0 : Nat) + r0.snd.snd.fst.length ≤ r0.snd.snd.fst.length) && true then
       (x43
       (List.take (r0.snd.fst.length + (1 : Nat) / OfNat.ofNat (1 : Nat))
       (List.drop (0 : Nat)
       (List.take r0.snd.fst.length (List.drop (0 : Nat) r0.snd.fst) ++ [m0])),
       List.take r0.snd.snd.fst.length (List.drop (0 : Nat) r0.snd.snd.fst),
       r0.snd.snd.snd.fst, r0.snd.snd.snd.snd)).bind
       fun r1 =>
       bif decide ((0 : Nat) + r1.fst.fst.length ≤ r1.fst.fst.length) && true then
       some
       ((List.take r1.fst.fst.length (List.drop (0 : Nat) r1.fst.fst), r1.fst.snd), PUnit.unit)
       else none
       else none
       else none
       else none
       else none
       else
       bif !r0.snd.snd.snd.snd then
       (x43 r0.snd).bind fun r1 =>
       bif decide ((0 : Nat) + r1.fst.fst.length ≤ r1.fst.fst.length) && true then
       some ((List.take r1.fst.fst.length (List.drop (0 : Nat) r1.fst.fst), r1.fst.snd), PUnit.unit)
       else none
       else
       bif r0.snd.snd.snd.fst == (0 : Int) then
       bif decide ((0 : Nat) + m1.length ≤ m1.length) then
       bif decide (r0.snd.fst.length + (List.take m1.length m1).length ≤ (1073741824 : Nat)) then
       bif decide ((0 : Nat) + r0.snd.fst.length ≤ r0.snd.fst.length) then
       bif
       decide
       ((0 : Nat) + (r0.snd.fst.length + (List.take m1.length m1).length) ≤
       (List.take r0.snd.fst.length (List.drop (0 : Nat) r0.snd.fst) ++
       List.take m1.length m1).length) &&
       true then
       bif decide ((0 : Nat) + r0.snd.snd.fst.length ≤ r0.snd.snd.fst.length) && true then
       (x43
       (List.take (r0.snd.fst.length + (List.take m1.length m1).length)
       (List.drop (0 : Nat)
       (List.take r0.snd.fst.length (List.drop (0 : Nat) r0.snd.fst) ++
       List.take m1.length m1)),
       List.take r0.snd.snd.fst.length (List.drop (0 : Nat) r0.snd.snd.fst),
       r0.snd.snd.snd.fst, r0.snd.snd.snd.snd)).bind
       fun r1 =>
       bif decide ((0 : Nat) + r1.fst.fst.length ≤ r1.fst.fst.length) && true then
       some
       ((List.take r1.fst.fst.length (List.drop (0 : Nat) r1.fst.fst), r1.fst.snd), PUnit.unit)
       else none
       else none
       else none
       else none
       else none
       else none
       else
       (x43 r0.snd).bind fun r1 =>
       bif decide ((0 : Nat) + r1.fst.fst.length ≤ r1.fst.fst.length) && true then
       some ((List.take r1.fst.fst.length (List.drop (0 : Nat) r1.fst.fst), r1.fst.snd), PUnit.unit)
       else none
      else
       bif decide ((List.take ahead.length ahead).length ≤ (1073741824 : Nat)) then
       bif
       decide ((0 : Nat) + (List.take ahead.length ahead).length ≤ ([] ++ List.take ahead.length ahead).length) &&
       true then
       (l42_1 ([IntKind.u16.wrap n], (1 : Int))
       ((List.take (List.take ahead.length ahead).length
       (List.drop (0 : Nat) ([] ++ List.take ahead.length ahead)),
       [], (0 : Int), true),
       (0 : Int))).bind
       fun r0 =>
       bif !r0.snd.snd.snd.snd then
       bif !r0.snd.snd.snd.snd then
       (x43 r0.snd).bind fun r1 =>
       bif decide ((0 : Nat) + r1.fst.fst.length ≤ r1.fst.fst.length) && true then
       some ((List.take r1.fst.fst.length (List.drop (0 : Nat) r1.fst.fst), r1.fst.snd), PUnit.unit)
       else none
       else
       bif r0.snd.snd.snd.fst == (0 : Int) then
       bif decide ((0 : Nat) + m1.length ≤ m1.length) then
       bif decide (r0.snd.fst.length + (List.take m1.length m1).length ≤ (1073741824 : Nat)) then
       bif decide ((0 : Nat) + r0.snd.fst.length ≤ r0.snd.fst.length) then
       bif
       decide
       ((0 : Nat) + (r0.snd.fst.length + (List.take m1.length m1).length) ≤
       (List.take r0.snd.fst.length (List.drop (0 : Nat) r0.snd.fst) ++
       List.take m1.length m1).length) &&
       true then
       bif decide ((0 : Nat) + r0.snd.snd.fst.length ≤ r0.snd.snd.fst.length) && true then
       (x43
       (List.take (r0.snd.fst.length + (List.take m1.length m1).length)
       (List.drop (0 : Nat)
       (List.take r0.snd.fst.length (List.drop (0 : Nat) r0.snd.fst) ++
       List.take m1.length m1)),
       List.take r0.snd.snd.fst.length (List.drop (0 : Nat) r0.snd.snd.fst),
       r0.snd.snd.snd.fst, r0.snd.snd.snd.snd)).bind
       fun r1 =>
       bif decide ((0 : Nat) + r1.fst.fst.length ≤ r1.fst.fst.length) && true then
       some
       ((List.take r1.fst.fst.length (List.drop (0 : Nat) r1.fst.fst), r1.fst.snd),
       PUnit.unit)
       else none
       else none
       else none
       else none
       else none
       else none
       else
       (x43 r0.snd).bind fun r1 =>
       bif decide ((0 : Nat) + r1.fst.fst.length ≤ r1.fst.fst.length) && true then
       some ((List.take r1.fst.fst.length (List.drop (0 : Nat) r1.fst.fst), r1.fst.snd), PUnit.unit)
       else none
       else
       bif r0.snd.snd.snd.fst == (0 : Int) then
       bif decide (r0.snd.fst.length + (1 : Nat) / OfNat.ofNat (1 : Nat) ≤ (1073741824 : Nat)) then
       bif decide ((0 : Nat) + r0.snd.fst.length ≤ r0.snd.fst.length) then
       bif !r0.snd.snd.snd.snd then
       bif
       decide
       ((0 : Nat) + (r0.snd.fst.length + (1 : Nat) / OfNat.ofNat (1 : Nat)) ≤
       (List.take r0.snd.fst.length (List.drop (0 : Nat) r0.snd.fst) ++ [m0]).length) &&
       true then
       bif decide ((0 : Nat) + r0.snd.snd.fst.length ≤ r0.snd.snd.fst.length) && true then
       (x43
       (List.take (r0.snd.fst.length + (1 : Nat) / OfNat.ofNat (1 : Nat))
       (List.drop (0 : Nat)
       (List.take r0.snd.fst.length (List.drop (0 : Nat) r0.snd.fst) ++ [m0])),
       List.take r0.snd.snd.fst.length (List.drop (0 : Nat) r0.snd.snd.fst),
       r0.snd.snd.snd.fst, r0.snd.snd.snd.snd)).bind
       fun r1 =>
       bif decide ((0 : Nat) + r1.fst.fst.length ≤ r1.fst.fst.length) && true then
       some
       ((List.take r1.fst.fst.length (List.drop (0 : Nat) r1.fst.fst), r1.fst.snd), PUnit.unit)
       else none
       else none
       else none
       else
       bif r0.snd.snd.snd.fst == (0 : Int) then
       bif decide ((0 : Nat) + m1.length ≤ m1.length) then
       bif
       decide
       (r0.snd.fst.length + (1 : Nat) / OfNat.ofNat (1 : Nat) +
       (List.take m1.length m1).length ≤
       (1073741824 : Nat)) then
       bif
       decide
       ((0 : Nat) + (r0.snd.fst.length + (1 : Nat) / OfNat.ofNat (1 : Nat)) ≤
       (List.take r0.snd.fst.length (List.drop (0 : Nat) r0.snd.fst) ++ [m0]).length) then
       bif
       decide
       ((0 : Nat) +
       (r0.snd.fst.length + (1 : Nat) / OfNat.ofNat (1 : Nat) +
       (List.take m1.length m1).length) ≤
       (List.take (r0.snd.fst.length + (1 : Nat) / OfNat.ofNat (1 : Nat))
       (List.drop (0 : Nat)
       (List.take r0.snd.fst.length (List.drop (0 : Nat) r0.snd.fst) ++
       [m0])) ++
       List.take m1.length m1).length) &&
       true then
       bif decide ((0 : Nat) + r0.snd.snd.fst.length ≤ r0.snd.snd.fst.length) && true then
       (x43
       (List.take
       (r0.snd.fst.length + (1 : Nat) / OfNat.ofNat (1 : Nat) +
       (List.take m1.length m1).length)
       (List.drop (0 : Nat)
       (List.take (r0.snd.fst.length + (1 : Nat) / OfNat.ofNat (1 : Nat))
       (List.drop (0 : Nat)
       (List.take r0.snd.fst.length (List.drop (0 : Nat) r0.snd.fst) ++
       [m0])) ++
       List.take m1.length m1)),
       List.take r0.snd.snd.fst.length (List.drop (0 : Nat) r0.snd.snd.fst),
       r0.snd.snd.snd.fst, r0.snd.snd.snd.snd)).bind
       fun r1 =>
       bif decide ((0 : Nat) + r1.fst.fst.length ≤ r1.fst.fst.length) && true then
       some
       ((List.take r1.fst.fst.length (List.drop (0 : Nat) r1.fst.fst), r1.fst.snd),
       PUnit.unit)
       else none
       else none
       else none
       else none
       else none
       else none
       else
       bif
       decide
       ((0 : Nat) + (r0.snd.fst.length + (1 : Nat) / OfNat.ofNat (1 : Nat)) ≤
       (List.take r0.snd.fst.length (List.drop (0 : Nat) r0.snd.fst) ++ [m0]).length) &&
       true then
       bif decide ((0 : Nat) + r0.snd.snd.fst.length ≤ r0.snd.snd.fst.length) && true then
       (x43
       (List.take (r0.snd.fst.length + (1 : Nat) / OfNat.ofNat (1 : Nat))
       (List.drop (0 : Nat)
       (List.take r0.snd.fst.length (List.drop (0 : Nat) r0.snd.fst) ++ [m0])),
       List.take r0.snd.snd.fst.length (List.drop (0 : Nat) r0.snd.snd.fst),
       r0.snd.snd.snd.fst, r0.snd.snd.snd.snd)).bind
       fun r1 =>
       bif decide ((0 : Nat) + r1.fst.fst.length ≤ r1.fst.fst.length) && true then
       some
       ((List.take r1.fst.fst.length (List.drop (0 : Nat) r1.fst.fst), r1.fst.snd),
       PUnit.unit)
       else none
       else none
       else none
       else none
       else none
       else
       bif !r0.snd.snd.snd.snd then
       (x43 r0.snd).bind fun r1 =>
       bif decide ((0 : Nat) + r1.fst.fst.length ≤ r1.fst.fst.length) && true then
       some ((List.take r1.fst.fst.length (List.drop (0 : Nat) r1.fst.fst), r1.fst.snd), PUnit.unit)
       else none
       else
       bif r0.snd.snd.snd.fst == (0 : Int) then
       bif decide ((0 : Nat) + m1.length ≤ m1.length) then
       bif decide (r0.snd.fst.length + (List.take m1.length m1).length ≤ (1073741824 : Nat)) then
       bif decide ((0 : Nat) + r0.snd.fst.length ≤ r0.snd.fst.length) then
       bif
       decide
       ((0 : Nat) + (r0.snd.fst.length + (List.take m1.length m1).length) ≤
       (List.take r0.snd.fst.length (List.drop (0 : Nat) r0.snd.fst) ++
       List.take m1.length m1).length) &&
       true then
       bif decide ((0 : Nat) + r0.snd.snd.fst.length ≤ r0.snd.snd.fst.length) && true then
       (x43
       (List.take (r0.snd.fst.length + (List.take m1.length m1).length)
       (List.drop (0 : Nat)
       (List.take r0.snd.fst.length (List.drop (0 : Nat) r0.snd.fst) ++
       List.take m1.length m1)),
       List.take r0.snd.snd.fst.length (List.drop (0 : Nat) r0.snd.snd.fst),
       r0.snd.snd.snd.fst, r0.snd.snd.snd.snd)).bind
       fun r1 =>
       bif decide ((0 : Nat) + r1.fst.fst.length ≤ r1.fst.fst.length) && true then
       some
       ((List.take r1.fst.fst.length (List.drop (0 : Nat) r1.fst.fst), r1.fst.snd),
       PUnit.unit)
       else none
       else none
       else none
       else none
       else none
       else none
       else
       (x43 r0.snd).bind fun r1 =>
       bif decide ((0 : Nat) + r1.fst.fst.length ≤ r1.fst.fst.length) && true then
       some ((List.take r1.fst.fst.length (List.drop (0 : Nat) r1.fst.fst), r1.fst.snd), PUnit.unit)
       else none
       else none
       else none
    else none
theorem r3e (x39 : F39.FT) (x43 : F43.FT) (l42_1 : F42.G1) (kd : (Int × List (Int)) × Int) (d : List (Int)) : unitF (tabC Tryd.prog (tab x39 x43 l42_1) (pls x39 x43 l42_1) 100 12) 100 .none (u3 fun _ _ => none) (codeAt [1, 1, 1, 1, 0] (bodyOf Tryd.prog 21)) kd d = r3P x39 x43 l42_1 kd d := by kernel_rfl
noncomputable def r3 : G3 := r3P F39.f F43.f F42.l1
noncomputable def l3 : G3 := r3
theorem ok3 : UnOk Tryd.prog (u3 l3) (codeAt [1, 1, 1, 1, 0] (bodyOf Tryd.prog 21)) :=
  blockT (p := .none) (fuel := 100) (depth := 12) mixed tabS plsP trivial (fun kd d => r3e F39.f F43.f F42.l1 kd d)
def fP (x39 : F39.FT) (x43 : F43.FT) (l42_1 : F42.G1) (l1 : G1) (l2 : G2) (l3 : G3) : FT := fun (m0, m1) =>
    bif decide ((0 : Nat) + m1.length ≤ m1.length) && true then
      (l1 ((m0, List.take m1.length m1), IntKind.i64.wrap ((19 : Int) + (↑m1.length : Int))) PUnit.unit).bind fun r0 =>
       bif r0.fst then some (([], (1 : Int)), PUnit.unit)
       else
       bif decide (IntKind.i64.wrap ((19 : Int) + (↑m1.length : Int)) > (4096 : Int)) then
       some (([], (3 : Int)), PUnit.unit)
       else
       (l2 PUnit.unit PUnit.unit).bind fun r1 =>
       bif decide ((0 : Nat) + m1.length ≤ m1.length) && true then
       bif decide ((0 : Nat) + List.length r1.fst ≤ List.length r1.fst) && true then
       (l3 ((m0, List.take m1.length m1), IntKind.i64.wrap ((19 : Int) + (↑m1.length : Int)))
       (List.take (List.length r1.fst) (List.drop (0 : Nat) r1.fst))).bind
       fun r2 =>
       bif decide ((0 : Nat) + r2.fst.fst.length ≤ r2.fst.fst.length) && true then
       some ((List.take r2.fst.fst.length (List.drop (0 : Nat) r2.fst.fst), r2.fst.snd), PUnit.unit)
       else none
       else none
       else none
    else none
theorem fe (x39 : F39.FT) (x43 : F43.FT) (l42_1 : F42.G1) (l1 : G1) (l2 : G2) (l3 : G3) (d : (Int × List (Int))) : bodyF (tabC Tryd.prog (tab x39 x43 l42_1) ((21, (.node .none (.node .none (.node (.node (.node (.unit (u1 l1)) .none) .none) (.node (.unit (u2 l2)) (.node (.unit (u3 l3)) .none)))))) :: pls x39 x43 l42_1) 100 12) 100 21 i o d = fP x39 x43 l42_1 l1 l2 l3 d := by kernel_rfl
noncomputable def f : FT := fP F39.f F43.f F42.l1 l1 l2 l3
def plan (l1 : G1) (l2 : G2) (l3 : G3) : Plan := (.node .none (.node .none (.node (.node (.node (.unit (u1 l1)) .none) .none) (.node (.unit (u2 l2)) (.node (.unit (u3 l3)) .none)))))
theorem planOk : PlanOk Tryd.prog (plan l1 l2 l3) (bodyOf Tryd.prog 21) := (planOk_of (plan l1 l2 l3) _ [([1, 1, 0, 0, 0], u1 l1), ([1, 1, 1, 0], u2 l2), ([1, 1, 1, 1, 0], u3 l3)] rfl ⟨ok1, ok2, ok3, trivial⟩)
theorem meets : MeetsF Tryd.prog 21 ⟨i, o, f⟩ :=
  funcT (fuel := 100) (depth := 12) (pl := (21, plan l1 l2 l3) :: pls F39.f F43.f F42.l1) mixed tabS ⟨planOk, plsP⟩ (fun d => fe F39.f F43.f F42.l1 l1 l2 l3 d)
theorem spec : SpecOk Tryd.prog (fun _ => none) 21 (specF ⟨i, o, f⟩) := specF_ok (by kernel_rfl) meets
end Go.Proofs.YtnmgbheaabdhlaaDoor.F21

/- What comes of function 38 of this program, consulate.consulateref03.wrong, as the engine gives it. -/
namespace Go.Proofs.YtnmgbheaabdhlaaDoor.F38
open Go Go.Proofs Go.Proofs.YtnmgbheaabdhlaaDoor Go.RowKit Go.Proofs.YtnmgbheaabdhlaaDoor.Sx
set_option linter.unusedVariables false
set_option maxRecDepth 100000
def tab : List (FuncId × Sx.Spec) := []
def pls : List (FuncId × Plan) := []
@[reducible] def i : Sh := .sc (.int .u8) (.sc (.int .i64) .nil)
@[reducible] def o : Sh := .sc .bool .nil
abbrev FT := (Int × Int) → Option (Bool × Unit)
theorem tabS : AllS Tryd.prog (tab) := trivial
theorem plsP : AllP Tryd.prog (pls) := trivial
theorem mixed : Tryd.prog.follows .mixedOrders = true := by kernel_rfl
def fP : FT := fun (t, n) =>
    bif t == 1 then bif decide (n < 29) then some (true, PUnit.unit) else some (false, PUnit.unit)
    else
      bif t == 2 then bif decide (n < 23) then some (true, PUnit.unit) else some (false, PUnit.unit)
      else
       bif t == 3 then bif decide (n < 21) then some (true, PUnit.unit) else some (false, PUnit.unit)
       else
       bif t == 4 then bif decide (n < 19) then some (true, PUnit.unit) else some (decide (n > 19), PUnit.unit)
       else bif decide (n < 23) then some (true, PUnit.unit) else some (decide (n > 23), PUnit.unit)
theorem fe (d : Int × Int) : bodyF (tabC Tryd.prog (tab) ((38, .none) :: pls) 100 12) 100 38 i o d = fP d := by kernel_rfl
noncomputable def f : FT := fP
def plan : Plan := .none
theorem planOk : PlanOk Tryd.prog (plan) (bodyOf Tryd.prog 38) := (planOk_of (plan) _ [] (by kernel_rfl) trivial)
theorem meets : MeetsF Tryd.prog 38 ⟨i, o, f⟩ :=
  funcT (fuel := 100) (depth := 12) (pl := (38, plan) :: pls) mixed tabS ⟨planOk, plsP⟩ (fun d => fe  d)
theorem spec : SpecOk Tryd.prog (fun _ => none) 38 (specF ⟨i, o, f⟩) := specF_ok (by kernel_rfl) meets
end Go.Proofs.YtnmgbheaabdhlaaDoor.F38

/- What comes of function 22 of this program, consulate.consulateref03.Bytes, as the engine gives it. -/
namespace Go.Proofs.YtnmgbheaabdhlaaDoor.F22
open Go Go.Proofs Go.Proofs.YtnmgbheaabdhlaaDoor Go.RowKit Go.Proofs.YtnmgbheaabdhlaaDoor.Sx
set_option linter.unusedVariables false
set_option maxRecDepth 100000
def tab (x38 : F38.FT) : List (FuncId × Sx.Spec) := [(38, specF ⟨F38.i, F38.o, x38⟩)]
def pls (x38 : F38.FT) : List (FuncId × Plan) := []
@[reducible] def k1 : Sh := .nil
@[reducible] def i1 : Sh := .sl true 5 (.sc (.int .u8) .nil) (.sc (.int .i64) .nil)
@[reducible] def o1 : Sh := .sl true 5 (.sc (.int .u8) .nil) .nil
abbrev G1 := Unit → (List (Int) × Int) → Option (List (Int) × Unit)
def u1 (F : G1) : Un := ⟨49, [], k1, [5, 6], i1, [5], o1, [1, 4], [(.exit 0, [true])], F⟩
@[reducible] def i : Sh := .ag none (.sc (.int .u8) (.sl false 5 (.sc (.int .u8) .nil) .nil)) .nil
@[reducible] def o : Sh := .sl true 5 (.sc (.int .u8) .nil) (.sc (.int .i64) .nil)
abbrev FT := ((Int × List (Int))) → Option ((List (Int) × Int) × Unit)
theorem tabS : AllS Tryd.prog (tab F38.f) := ⟨F38.spec, trivial⟩
theorem plsP : AllP Tryd.prog (pls F38.f) := trivial
theorem mixed : Tryd.prog.follows .mixedOrders = true := by kernel_rfl
def r1P (x38 : F38.FT) : Unit → (List (Int) × Int) → Option ((List (Int) × Int) ⊕ (List (Int) × Unit)) := fun () (out, i) =>
    bif decide (i < 16) then
      bif decide (out.length + 1 / OfNat.ofNat 1 ≤ 1073741824) then
       bif decide (0 + out.length ≤ out.length) then
       bif decide (0 + (out.length + 1 / OfNat.ofNat 1) ≤ (List.take out.length out ++ [255]).length) && true then
       some
       (Sum.inl
       (List.take (out.length + 1 / OfNat.ofNat 1) (List.drop 0 (List.take out.length out ++ [255])),
       IntKind.i64.wrap (i + 1)))
       else none
       else none
      else none
    else
      bif decide (0 + out.length ≤ out.length) && true then some (Sum.inr (List.take out.length out, PUnit.unit))
      else none
theorem r1e (x38 : F38.FT) (kd : Unit) (d : List (Int) × Int) : roundF (tabC Tryd.prog (tab x38) (pls x38) 100 12) 100 .none (u1 fun _ _ => none) (codeAt [1, 1, 1, 1, 1, 0, 1, 0, 0] (bodyOf Tryd.prog 22)) kd d = r1P x38 kd d := by kernel_rfl
noncomputable def r1 : Unit → (List (Int) × Int) → Option ((List (Int) × Int) ⊕ (List (Int) × Unit)) := r1P F38.f
noncomputable def l1 : G1 := fun kd d => iterO (r1 kd) d
theorem ok1 : UnOk Tryd.prog (u1 l1) (codeAt [1, 1, 1, 1, 1, 0, 1, 0] (bodyOf Tryd.prog 22)) :=
  loopT (p := .none) (c := codeAt [1, 1, 1, 1, 1, 0, 1, 0, 0] (bodyOf Tryd.prog 22)) (fuel := 100) (depth := 12) mixed tabS plsP (by kernel_rfl) trivial (by kernel_rfl) (fun kd d => r1e F38.f kd d) rfl
def fP (x38 : F38.FT) (l1 : G1) : FT := fun (m0, m1) =>
    bif decide (m0 < 1) then some (([], 1), PUnit.unit)
    else
      bif decide (m0 > 5) then some (([], 1), PUnit.unit)
      else
       (x38 (m0, IntKind.i64.wrap (19 + (↑m1.length : Int)))).bind fun r0 =>
       bif r0.fst then some (([], 1), PUnit.unit)
       else
       bif decide (IntKind.i64.wrap (19 + (↑m1.length : Int)) > 4096) then some (([], 3), PUnit.unit)
       else
       (l1 PUnit.unit ([], 0)).bind fun r1 =>
       bif decide (List.length r1.fst + 3 / OfNat.ofNat 1 ≤ 1073741824) then
       bif decide (0 + List.length r1.fst ≤ List.length r1.fst) then
       bif decide (0 + m1.length ≤ m1.length) then
       bif
       decide
       (List.length r1.fst + 3 / OfNat.ofNat 1 + (List.take m1.length m1).length ≤ 1073741824) then
       bif
       decide
       (0 + (List.length r1.fst + 3 / OfNat.ofNat 1) ≤
       (List.take (List.length r1.fst) (List.drop 0 r1.fst) ++
       [IntKind.u8.wrap
       (IntKind.i64.wrap ((IntKind.i64.wrap (19 + (↑m1.length : Int))).tdiv 256)),
       IntKind.u8.wrap ((IntKind.i64.wrap (19 + (↑m1.length : Int))).tmod 256),
       m0]).length) then
       bif
       decide
       (0 + (List.length r1.fst + 3 / OfNat.ofNat 1 + (List.take m1.length m1).length) ≤
       (List.take (List.length r1.fst + 3 / OfNat.ofNat 1)
       (List.drop 0
       (List.take (List.length r1.fst) (List.drop 0 r1.fst) ++
       [IntKind.u8.wrap
       (IntKind.i64.wrap
       ((IntKind.i64.wrap (19 + (↑m1.length : Int))).tdiv 256)),
       IntKind.u8.wrap ((IntKind.i64.wrap (19 + (↑m1.length : Int))).tmod 256),
       m0])) ++
       List.take m1.length m1).length) &&
       true then
       some
       ((List.take (List.length r1.fst + 3 / OfNat.ofNat 1 + (List.take m1.length m1).length)
       (List.drop 0
       (List.take (List.length r1.fst + 3 / OfNat.ofNat 1)
       (List.drop 0
       (List.take (List.length r1.fst) (List.drop 0 r1.fst) ++
       [IntKind.u8.wrap
       (IntKind.i64.wrap
       ((IntKind.i64.wrap (19 + (↑m1.length : Int))).tdiv 256)),
       IntKind.u8.wrap ((IntKind.i64.wrap (19 + (↑m1.length : Int))).tmod 256),
       m0])) ++
       List.take m1.length m1)),
       0),
       PUnit.unit)
       else none
       else none
       else none
       else none
       else none
       else none
theorem fe (x38 : F38.FT) (l1 : G1) (d : (Int × List (Int))) : bodyF (tabC Tryd.prog (tab x38) ((22, (.node .none (.node .none (.node .none (.node .none (.node .none (.node (.node .none (.node (.unit (u1 l1)) .none)) .none))))))) :: pls x38) 100 12) 100 22 i o d = fP x38 l1 d := by kernel_rfl
noncomputable def f : FT := fP F38.f l1
def plan (l1 : G1) : Plan := (.node .none (.node .none (.node .none (.node .none (.node .none (.node (.node .none (.node (.unit (u1 l1)) .none)) .none))))))
theorem planOk : PlanOk Tryd.prog (plan l1) (bodyOf Tryd.prog 22) := (planOk_of (plan l1) _ [([1, 1, 1, 1, 1, 0, 1, 0], u1 l1)] rfl ⟨ok1, trivial⟩)
theorem meets : MeetsF Tryd.prog 22 ⟨i, o, f⟩ :=
  funcT (fuel := 100) (depth := 12) (pl := (22, plan l1) :: pls F38.f) mixed tabS ⟨planOk, plsP⟩ (fun d => fe F38.f l1 d)
theorem spec : SpecOk Tryd.prog (fun _ => none) 22 (specF ⟨i, o, f⟩) := specF_ok (by kernel_rfl) meets
end Go.Proofs.YtnmgbheaabdhlaaDoor.F22

/- Chapter 3: a message's bytes. -/
namespace Go.Proofs.YtnmgbheaabdhlaaDoor.PE
open Go Go.Proofs Go.Proofs.YtnmgbheaabdhlaaDoor.Sx Go.Proofs.YtnmgbheaabdhlaaDoor.PA Go.Proofs.YtnmgbheaabdhlaaDoor.PB Go.Proofs.YtnmgbheaabdhlaaDoor.PC Go.Proofs.YtnmgbheaabdhlaaDoor.PD
set_option linter.unusedSimpArgs false
set_option linter.unusedVariables false
/-- Is such a message none? -/
def bad (n t : Int) : Bool := decide (t < 1) || decide (5 < t) || !fit n t
/-- The bytes ahead of a body. -/
def ahead (n t : Int) : List Int := List.replicate 16 255 ++ [n / 256, n % 256, t]
def lay (t : Int) (m : List Int) : List Int × Int :=
  if bad (19 + (m.length : Int)) t = true then ([], 1) else if 4096 < 19 + (m.length : Int) then ([], 3) else (ahead (19 + (m.length : Int)) t ++ m, 0)
theorem badP {t n : Int} {m : List Int} (ht : 0 ≤ t ∧ t ≤ 255) (hn : 19 ≤ n) : F21.l1 ((t, m), n) () = some (bad n t, ()) := by
  unfold F21.l1 F21.r1 F21.r1P bad
  by_cases h1 : t < 1
  · have : t = 0 := by omega
    subst this
    simp
  by_cases h2 : 5 < t
  · have c1 : ¬ t ≤ 5 := by omega
    have c2 : 1 ≤ t := by omega
    simp [h1, h2, c1, c2]
  have hc : t = 1 ∨ t = 2 ∨ t = 3 ∨ t = 4 ∨ t = 5 := by omega
  unfold fit
  rcases hc with rfl | rfl | rfl | rfl | rfl
  · by_cases h : 29 ≤ n
    · have : ¬ n < 29 := by omega
      simp [h, this, show Nat.beq 1 0 = false from rfl, show Nat.beq 1 1 = true from rfl]
    · have : n < 29 := by omega
      simp [h, this, show Nat.beq 1 0 = false from rfl, show Nat.beq 1 1 = true from rfl]
  · by_cases h : 23 ≤ n
    · have : ¬ n < 23 := by omega
      simp [h, this, show Nat.beq 2 0 = false from rfl, show Nat.beq 2 1 = false from rfl, show Nat.beq 2 2 = true from rfl]
    · have : n < 23 := by omega
      simp [h, this, show Nat.beq 2 0 = false from rfl, show Nat.beq 2 1 = false from rfl, show Nat.beq 2 2 = true from rfl]
  · by_cases h : 21 ≤ n
    · have : ¬ n < 21 := by omega
      simp [h, this, show Nat.beq 3 0 = false from rfl, show Nat.beq 3 1 = false from rfl, show Nat.beq 3 2 = false from rfl, show Nat.beq 3 3 = true from rfl]
    · have : n < 21 := by omega
      simp [h, this, show Nat.beq 3 0 = false from rfl, show Nat.beq 3 1 = false from rfl, show Nat.beq 3 2 = false from rfl, show Nat.beq 3 3 = true from rfl]
  · by_cases h : n = 19
    · subst h; simp [show Nat.beq 4 0 = false from rfl, show Nat.beq 4 1 = false from rfl, show Nat.beq 4 2 = false from rfl, show Nat.beq 4 3 = false from rfl, show Nat.beq 4 4 = true from rfl]
    · have h3 : ¬ n < 19 := by omega
      have h4 : n > 19 := by omega
      simp [h, h3, h4, show Nat.beq 4 0 = false from rfl, show Nat.beq 4 1 = false from rfl, show Nat.beq 4 2 = false from rfl, show Nat.beq 4 3 = false from rfl, show Nat.beq 4 4 = true from rfl]
  · by_cases h : n = 23
    · subst h; simp [show Nat.beq 5 0 = false from rfl, show Nat.beq 5 1 = false from rfl, show Nat.beq 5 2 = false from rfl, show Nat.beq 5 3 = false from rfl, show Nat.beq 5 4 = false from rfl, show Nat.beq 5 5 = true from rfl]
    · by_cases h3 : n < 23
      · simp [h, h3, show Nat.beq 5 0 = false from rfl, show Nat.beq 5 1 = false from rfl, show Nat.beq 5 2 = false from rfl, show Nat.beq 5 3 = false from rfl, show Nat.beq 5 4 = false from rfl, show Nat.beq 5 5 = true from rfl]
      · have h4 : n > 23 := by omega
        simp [h, h3, h4, show Nat.beq 5 0 = false from rfl, show Nat.beq 5 1 = false from rfl, show Nat.beq 5 2 = false from rfl, show Nat.beq 5 3 = false from rfl, show Nat.beq 5 4 = false from rfl, show Nat.beq 5 5 = true from rfl]
theorem wrongP {t n : Int} (ht : 1 ≤ t ∧ t ≤ 5) (hn : 19 ≤ n) : F38.f (t, n) = some (!fit n t, ()) := by
  unfold F38.f F38.fP fit
  have hc : t = 1 ∨ t = 2 ∨ t = 3 ∨ t = 4 ∨ t = 5 := by omega
  rcases hc with rfl | rfl | rfl | rfl | rfl
  · by_cases h : 29 ≤ n
    · have : ¬ n < 29 := by omega
      simp [h, this]
    · have : n < 29 := by omega
      simp [h, this]
  · by_cases h : 23 ≤ n
    · have : ¬ n < 23 := by omega
      simp [h, this]
    · have : n < 23 := by omega
      simp [h, this]
  · by_cases h : 21 ≤ n
    · have : ¬ n < 21 := by omega
      simp [h, this]
    · have : n < 21 := by omega
      simp [h, this]
  · by_cases h : n = 19
    · subst h; simp
    · have h3 : ¬ n < 19 := by omega
      have h4 : n > 19 := by omega
      simp [h, h3, h4]
  · by_cases h : n = 23
    · subst h; simp
    · by_cases h3 : n < 23
      · simp [h, h3]
      · have h4 : n > 23 := by omega
        simp [h, h3, h4]
theorem rep16 : F21.l2 () () = some (List.replicate 16 255, ()) := by
  have h : F39.f ([255], 16) = some (List.replicate 16 255, ()) := by
    have hl : F39.l1 () ([255, 0, 0, 0, 0, 0, 0, 0, 0, 0, 0, 0, 0, 0, 0, 0], 1) = some (List.replicate 16 255, ()) := iterO_of ⟨5, by kernel_rfl⟩
    have e : F39.f ([255], 16) = (F39.l1 () ([255, 0, 0, 0, 0, 0, 0, 0, 0, 0, 0, 0, 0, 0, 0, 0], 1)).bind fun r0 =>
        bif decide (0 + List.length r0.fst ≤ List.length r0.fst) && true then some (List.take (List.length r0.fst) (List.drop 0 r0.fst), PUnit.unit) else none := by
      show F39.fP F39.l1 ([255], 16) = _
      generalize F39.l1 = g
      kernel_rfl
    rw [e, hl]
    rfl
  unfold F21.l2 F21.r2 F21.r2P
  simp only [h, Option.bind_some, le_all, cond_true, Bool.and_true, take_all]
theorem twoW {w : List Int} {n : Int} (hn : 0 ≤ n ∧ n ≤ 65535) (hw : w.length ≤ 1000) : F42.l1 ([n], 1) ((w, [], 0, true), 0) = some ((), w ++ [n / 256, n % 256], [], 0, true) := by
  refine iterO_of ⟨2, ?_⟩
  have r0 : F42.r1 ([n], 1) ((w, [], 0, true), 0) = some (.inl ((w ++ [n / 256, n % 256], [], 0, true), 1)) := by
    unfold F42.r1 F42.r1P
    have e1 : IntKind.u8.wrap (Int.fdiv n 256) = n / 256 := by rw [Int.fdiv_eq_ediv_of_nonneg _ (by omega), IntKind.wrap_u8]; omega
    have e2 : IntKind.u8.wrap n = n % 256 := by rw [IntKind.wrap_u8]
    have c1 : decide (w.length + 2 ≤ 1073741824) = true := decide_eq_true (by omega)
    have c2 : decide (0 + (w.length + 2) ≤ (w ++ [n / 256, n % 256]).length) = true := decide_eq_true (by simp)
    have e3 : (w ++ [n / 256, n % 256]).take (w.length + 2) = w ++ [n / 256, n % 256] := List.take_of_length_le (by simp)
    have e0 : [n].getD (0 + (0 : Int).toNat) 0 = n := rfl
    have d1 : decide ((0 : Int) < 1) = true := rfl
    have d2 : decide ((0 : Int) ≤ 0 ∧ (0 : Int) < ((([n] : List Int).length : Nat) : Int) ∧ 0 < ([n] : List Int).length) = true := rfl
    have d3 : decide (0 + (0 : Int).toNat < ([n] : List Int).length) = true := rfl
    simp only [d1, d2, d3, e0, e1, e2, c1, c2, e3, le_all, cond_true, cond_false, Bool.not_true, Bool.and_true, beq_self_eq_true, List.take_length, List.drop_zero]
    rfl
  rw [iterN_step, r0, scR_inl, iterN_step]
  rfl
theorem writeP {t : Int} {m : List Int} {n : Int} (hn : 0 ≤ n ∧ n ≤ 65535) (hm : m.length ≤ 5000) : F21.l3 ((t, m), n) (List.replicate 16 255) = some ((ahead n t ++ m, 0), ()) := by
  unfold F21.l3 F21.r3 F21.r3P
  have e16 : List.take (List.replicate 16 (255 : Int)).length (List.replicate 16 (255 : Int)) = List.replicate 16 255 := List.take_length
  have c1 : decide ((List.replicate 16 (255 : Int)).length = 0) = false := rfl
  have c2 : decide ((List.replicate 16 (255 : Int)).length ≤ 1073741824) = true := rfl
  have tw := twoW (w := List.replicate 16 255) hn (by simp)
  have en : IntKind.u16.wrap n = n := u16w hn
  generalize hw : List.replicate 16 (255 : Int) ++ [n / 256, n % 256] = w at tw
  have hwl : w.length = 18 := by rw [← hw]; simp
  have c3 : decide (w.length + 1 / OfNat.ofNat 1 ≤ 1073741824) = true := decide_eq_true (by rw [hwl]; decide)
  have c4 : decide (w.length + 1 / OfNat.ofNat 1 + m.length ≤ 1073741824) = true := decide_eq_true (by rw [hwl]; show 18 + 1 + m.length ≤ _; omega)
  have c5 : decide (0 + (w.length + 1 / OfNat.ofNat 1) ≤ (w ++ [t]).length) = true := decide_eq_true (by rw [List.length_append, hwl]; show 0 + (18 + 1) ≤ 18 + 1; omega)
  have e3 : (w ++ [t]).take (w.length + 1 / OfNat.ofNat 1) = w ++ [t] := List.take_of_length_le (by rw [List.length_append, hwl]; show 18 + 1 ≤ 18 + 1; omega)
  have c6 : decide (0 + (w.length + 1 / OfNat.ofNat 1 + m.length) ≤ (w ++ [t] ++ m).length) = true := decide_eq_true (by rw [List.length_append, List.length_append, hwl]; show 0 + (18 + 1 + m.length) ≤ 18 + 1 + m.length; omega)
  have e4 : (w ++ [t] ++ m).take (w.length + 1 / OfNat.ofNat 1 + m.length) = w ++ [t] ++ m := List.take_of_length_le (by rw [List.length_append, List.length_append, hwl]; show 18 + 1 + m.length ≤ 18 + 1 + m.length; omega)
  have ha : ahead n t ++ m = w ++ [t] ++ m := by rw [← hw]; simp [ahead]
  have done : F43.f (w ++ [t] ++ m, [], 0, true) = some ((w ++ [t] ++ m, 0), w ++ [t] ++ m, [], 0, true) := by
    unfold F43.f F43.fP
    have cl := clone (l := w ++ [t] ++ m) (by rw [List.length_append, List.length_append, hwl]; simp; omega)
    simp only [Bool.not_true, cond_false, bne_self_eq_false, le_all, cond_true, Bool.and_true, List.take_length, cl, Option.bind_some, take_all]
    rfl
  have n0 : ∀ (α : Type), List.take ([] : List α).length (List.drop 0 ([] : List α)) = [] := fun _ => rfl
  have l0 : ∀ (α : Type), decide (0 + ([] : List α).length ≤ ([] : List α).length) = true := fun _ => rfl
  simp only [le_all, cond_true, cond_false, e16, c1, c2, Bool.and_true, List.nil_append, take_all, en, tw, Option.bind_some, Bool.not_true, beq_self_eq_true, c3, c4, c5, c6, e3, e4, List.take_length, List.drop_zero, n0, l0, done, ha]
theorem bytesP {t : Int} {m : List Int} (ht : 0 ≤ t ∧ t ≤ 255) (hm : m.length ≤ 5000) : F21.f (t, m) = some (lay t m, ()) := by
  unfold F21.f F21.fP lay
  have w : IntKind.i64.wrap (19 + (m.length : Int)) = 19 + (m.length : Int) := wrap64_id (by omega)
  simp only [le_all, cond_true, Bool.and_true, List.take_length, w, badP (m := m) ht (show 19 ≤ 19 + (m.length : Int) by omega), Option.bind_some]
  cases hb : bad (19 + (m.length : Int)) t with
  | true => simp only [cond_true, if_true]
  | false =>
    simp only [cond_false, Bool.false_eq_true, if_false]
    by_cases hl : 4096 < 19 + (m.length : Int)
    · rw [if_pos hl, decide_eq_true (show 19 + (m.length : Int) > 4096 from hl)]
      rfl
    · rw [if_neg hl, decide_eq_false (show ¬ 19 + (m.length : Int) > 4096 from hl)]
      simp only [cond_false, rep16, Option.bind_some, le_all, cond_true, take_all, writeP (t := t) (m := m) (n := 19 + (m.length : Int)) (by omega) hm]
theorem ones22 : F22.l1 () ([], 0) = some (List.replicate 16 255, ()) := iterO_of ⟨17, by kernel_rfl⟩
theorem refP {t : Int} {m : List Int} (ht : 0 ≤ t ∧ t ≤ 255) (hm : m.length ≤ 5000) : F22.f (t, m) = some (lay t m, ()) := by
  unfold F22.f F22.fP lay
  have w : IntKind.i64.wrap (19 + (m.length : Int)) = 19 + (m.length : Int) := wrap64_id (by omega)
  by_cases h1 : t < 1
  · have hb : bad (19 + (m.length : Int)) t = true := by unfold bad; rw [decide_eq_true h1]; rfl
    rw [if_pos hb]
    simp only [decide_eq_true h1, cond_true]
  by_cases h2 : 5 < t
  · have hb : bad (19 + (m.length : Int)) t = true := by unfold bad; rw [decide_eq_true h2]; simp
    rw [if_pos hb]
    simp only [decide_eq_false h1, decide_eq_true (show t > 5 from h2), cond_true, cond_false]
  have hbad : bad (19 + (m.length : Int)) t = !fit (19 + (m.length : Int)) t := by unfold bad; rw [decide_eq_false h1, decide_eq_false h2]; rfl
  simp only [decide_eq_false h1, decide_eq_false (show ¬ t > 5 from h2), cond_false, w, wrongP (t := t) (n := 19 + (m.length : Int)) (by omega) (by omega), Option.bind_some, hbad]
  cases hf : fit (19 + (m.length : Int)) t with
  | false => simp only [Bool.not_false, cond_true, if_true]
  | true =>
    simp only [Bool.not_true, cond_false, Bool.false_eq_true, if_false]
    by_cases hl : 4096 < 19 + (m.length : Int)
    · rw [if_pos hl, decide_eq_true (show 19 + (m.length : Int) > 4096 from hl)]
      rfl
    · rw [if_neg hl, decide_eq_false (show ¬ 19 + (m.length : Int) > 4096 from hl)]
      have e1 : IntKind.u8.wrap (IntKind.i64.wrap ((19 + (m.length : Int)).tdiv 256)) = (19 + (m.length : Int)) / 256 := by
        rw [Int.tdiv_eq_ediv_of_nonneg (by omega), wrap64_id (by omega), IntKind.wrap_u8]; omega
      have e2 : IntKind.u8.wrap ((19 + (m.length : Int)).tmod 256) = (19 + (m.length : Int)) % 256 := by
        rw [Int.tmod_eq_emod_of_nonneg (by omega), IntKind.wrap_u8]; omega
      have c3 : decide ((List.replicate 16 (255 : Int)).length + 3 / OfNat.ofNat 1 ≤ 1073741824) = true := rfl
      have c4 : decide ((List.replicate 16 (255 : Int)).length + 3 / OfNat.ofNat 1 + m.length ≤ 1073741824) = true := decide_eq_true (by show 16 + 3 + m.length ≤ _; omega)
      have c5 : decide (0 + ((List.replicate 16 (255 : Int)).length + 3 / OfNat.ofNat 1) ≤ (List.replicate 16 (255 : Int) ++ [(19 + (m.length : Int)) / 256, (19 + (m.length : Int)) % 256, t]).length) = true := rfl
      have e3 : (List.replicate 16 (255 : Int) ++ [(19 + (m.length : Int)) / 256, (19 + (m.length : Int)) % 256, t]).take ((List.replicate 16 (255 : Int)).length + 3 / OfNat.ofNat 1) = List.replicate 16 (255 : Int) ++ [(19 + (m.length : Int)) / 256, (19 + (m.length : Int)) % 256, t] := rfl
      have c6 : decide (0 + ((List.replicate 16 (255 : Int)).length + 3 / OfNat.ofNat 1 + m.length) ≤ (List.replicate 16 (255 : Int) ++ [(19 + (m.length : Int)) / 256, (19 + (m.length : Int)) % 256, t] ++ m).length) = true := decide_eq_true (by rw [List.length_append]; show 0 + (16 + 3 + m.length) ≤ 19 + m.length; omega)
      have e4 : (List.replicate 16 (255 : Int) ++ [(19 + (m.length : Int)) / 256, (19 + (m.length : Int)) % 256, t] ++ m).take ((List.replicate 16 (255 : Int)).length + 3 / OfNat.ofNat 1 + m.length) = List.replicate 16 (255 : Int) ++ [(19 + (m.length : Int)) / 256, (19 + (m.length : Int)) % 256, t] ++ m := List.take_of_length_le (by rw [List.length_append]; show 19 + m.length ≤ 16 + 3 + m.length; omega)
      simp only [cond_false, ones22, Option.bind_some, c3, c4, le_all, cond_true, Bool.and_true, take_all, List.take_length, e1, e2, c5, e3, c6, e4, List.drop_zero]
      rfl
end Go.Proofs.YtnmgbheaabdhlaaDoor.PE

/- Chapter 3: messages' bytes, one behind the other, are read as these messages; what is read is made of bytes that came. -/
namespace Go.Proofs.YtnmgbheaabdhlaaDoor.PJ
open Go Go.Proofs Go.Proofs.YtnmgbheaabdhlaaDoor.Sx Go.Proofs.YtnmgbheaabdhlaaDoor.PA Go.Proofs.YtnmgbheaabdhlaaDoor.PB Go.Proofs.YtnmgbheaabdhlaaDoor.PC Go.Proofs.YtnmgbheaabdhlaaDoor.PD Go.Proofs.YtnmgbheaabdhlaaDoor.PG Go.Proofs.YtnmgbheaabdhlaaDoor.PE
set_option linter.unusedSimpArgs false
set_option linter.unusedVariables false
structure Val (p : Msg) : Prop where
  ok : bad (19 + (p.2.length : Int)) p.1 = false
  short : 19 + p.2.length ≤ 4096
  kind : 0 ≤ p.1 ∧ p.1 ≤ 255
  bytes : Bytes p.2
def enc (p : Msg) : List Int := PE.ahead (19 + (p.2.length : Int)) p.1 ++ p.2
def encs : List Msg → List Int
  | [] => []
  | p :: l => enc p ++ encs l
theorem encs_append (l m : List Msg) : encs (l ++ m) = encs l ++ encs m := by
  induction l with
  | nil => rfl
  | cons p l ih => rw [List.cons_append, encs, encs, ih, List.append_assoc]
theorem enc_length (p : Msg) : (enc p).length = 19 + p.2.length := by
  unfold enc PE.ahead
  simp only [List.length_append, List.length_replicate, List.length_cons, List.length_nil]
theorem bad_false {n t : Int} (h : bad n t = false) : 1 ≤ t ∧ t ≤ 5 ∧ fit n t = true := by
  unfold bad at h
  simp only [Bool.or_eq_false_iff, decide_eq_false_iff_not, Bool.not_eq_false'] at h
  exact ⟨by omega, by omega, h.2⟩
theorem lay_val {p : Msg} (h : Val p) : lay p.1 p.2 = (enc p, 0) := by
  unfold lay
  rw [h.ok, if_neg (by decide), if_neg (by have := h.short; omega)]
  rfl
theorem lay_not {t : Int} {m : List Int} (ht : 0 ≤ t ∧ t ≤ 255) (hm : Bytes m) : (lay t m = ([], 1) ∨ lay t m = ([], 3)) ∨ Val (t, m) := by
  unfold lay
  cases hb : bad (19 + (m.length : Int)) t with
  | true => exact .inl (.inl rfl)
  | false =>
    by_cases h : 4096 < 19 + (m.length : Int)
    · rw [if_neg (by decide), if_pos h]; exact .inl (.inr rfl)
    · exact .inr ⟨hb, by show 19 + m.length ≤ 4096; omega, ht, hm⟩
theorem enc_bytes {p : Msg} (h : Val p) : Bytes (enc p) := by
  have h1 := h.short
  have h2 := h.kind
  unfold enc PE.ahead
  refine Bytes.append (Bytes.append ?_ ?_) h.bytes
  · intro x hx
    have := List.eq_of_mem_replicate hx
    omega
  · intro x hx
    simp only [List.mem_cons, List.not_mem_nil, or_false] at hx
    rcases hx with rfl | rfl | rfl <;> omega
theorem encs_bytes {l : List Msg} (h : ∀ p ∈ l, Val p) : Bytes (encs l) := by
  induction l with
  | nil => intro x hx; cases hx
  | cons p l ih => exact (enc_bytes (h p List.mem_cons_self)).append (ih fun q hq => h q (List.mem_cons_of_mem _ hq))
theorem hd_enc {p : Msg} (h : Val p) (c : List Int) : hd (enc p ++ c) = .msg (19 + p.2.length) p.1 ∧ body (enc p ++ c) (19 + p.2.length) = p.2 ∧ (enc p ++ c).drop (19 + p.2.length) = c := by
  obtain ⟨t, m⟩ := p
  obtain ⟨k1, k2, k3⟩ := bad_false h.ok
  have hs := h.short
  simp only at hs k1 k2 k3
  have e : enc (t, m) ++ c = List.replicate 16 255 ++ ([(19 + (m.length : Int)) / 256, (19 + (m.length : Int)) % 256, t] ++ (m ++ c)) := by
    unfold enc PE.ahead; simp only [List.append_assoc]
  have hl := enc_length (t, m)
  have g : ∀ i, (enc (t, m) ++ c).getD (16 + i) 0 = ([(19 + (m.length : Int)) / 256, (19 + (m.length : Int)) % 256, t] ++ (m ++ c)).getD i 0 := by
    intro i
    rw [e, List.getD_eq_getElem?_getD, List.getD_eq_getElem?_getD, List.getElem?_append_right (by simp), List.length_replicate]
    simp
  have g16 : (enc (t, m) ++ c).getD 16 0 = (19 + (m.length : Int)) / 256 := g 0
  have g17 : (enc (t, m) ++ c).getD 17 0 = (19 + (m.length : Int)) % 256 := g 1
  have g18 : (enc (t, m) ++ c).getD 18 0 = t := g 2
  have hlen : len (enc (t, m) ++ c) = 19 + (m.length : Int) := by unfold len; rw [g16, g17]; omega
  have ht : (enc (t, m) ++ c).take 16 = List.replicate 16 255 := by
    rw [e, List.take_append_of_le_length (by simp)]
    rfl
  have hn : (len (enc (t, m) ++ c)).toNat = 19 + m.length := by rw [hlen]; omega
  refine ⟨?_, ?_, ?_⟩
  · unfold hd
    rw [if_neg (by rw [List.length_append, hl]; omega), ht, if_neg (by decide), if_neg (by rw [hlen]; omega), g18, if_neg (by omega), hlen, k3, if_neg (by decide)]
    rw [show (19 + (m.length : Int)).toNat = 19 + m.length by omega, if_neg (by rw [List.length_append, hl]; show ¬ (19 + m.length + c.length < 19 + m.length); omega)]
  · unfold body
    have : (enc (t, m) ++ c).drop 19 = m ++ c := by
      rw [e, ← List.append_assoc]
      exact List.drop_left' (by simp)
    rw [this]
    show (m ++ c).take (19 + m.length - 19) = m
    rw [show 19 + m.length - 19 = m.length by omega, List.take_left]
  · exact List.drop_left' hl
theorem parse_encs {l : List Msg} (h : ∀ p ∈ l, Val p) (c : List Int) : parse (encs l ++ c) = (l ++ (parse c).1, (parse c).2) := by
  induction l with
  | nil => rfl
  | cons p l ih =>
    obtain ⟨h1, h2, h3⟩ := hd_enc (h p List.mem_cons_self) (encs l ++ c)
    rw [encs, List.append_assoc, parse_msg h1, h2, h3, ih fun q hq => h q (List.mem_cons_of_mem _ hq)]
    rfl
theorem rep_of : ∀ {l : List Int}, l.any (· != 255) = false → l = List.replicate l.length 255
  | [], _ => rfl
  | x :: l, h => by
    simp only [List.any_cons, Bool.or_eq_false_iff, bne_eq_false_iff_eq] at h
    rw [List.length_cons, List.replicate_succ, ← rep_of h.2, h.1]
/-- A message that is read is one, and its bytes are those that came. -/
theorem hd_val {b : List Int} {n : Nat} {t : Int} (hB : Bytes b) (h : hd b = .msg n t) : Val (t, body b n) ∧ b = enc (t, body b n) ++ b.drop n := by
  obtain ⟨h1, h2, h3, h4, h5, h6, h7, h8, h9⟩ := hd_msg h
  have hbl : (body b n).length = n - 19 := by unfold body; rw [List.length_take, List.length_drop]; omega
  have hn : 19 + ((body b n).length : Int) = n := by rw [hbl]; omega
  have h16 := hB.getD 16
  have h17 := hB.getD 17
  refine ⟨⟨?_, by show 19 + (body b n).length ≤ 4096; omega, ⟨by show 0 ≤ t; omega, by show t ≤ 255; omega⟩, (hB.drop _).take _⟩, ?_⟩
  · show bad (19 + ((body b n).length : Int)) t = false
    rw [hn]
    unfold bad
    rw [h8, decide_eq_false (by omega), decide_eq_false (by omega)]
    rfl
  · have t16 := rep_of h9
    rw [show (b.take 16).length = 16 by rw [List.length_take]; omega] at t16
    have e3 : b.drop 16 = [b.getD 16 0, b.getD 17 0, b.getD 18 0] ++ b.drop 19 := by
      rw [List.getD_eq_getElem?_getD, List.getD_eq_getElem?_getD, List.getD_eq_getElem?_getD, List.getElem?_eq_getElem (by omega), List.getElem?_eq_getElem (by omega), List.getElem?_eq_getElem (by omega)]
      rw [List.drop_eq_getElem_cons (by omega), List.drop_eq_getElem_cons (by omega), List.drop_eq_getElem_cons (by omega)]
      rfl
    have e4 : b.drop 19 = body b n ++ b.drop n := by
      unfold body
      have := (List.take_append_drop (n - 19) (b.drop 19)).symm
      rw [List.drop_drop, show 19 + (n - 19) = n by omega] at this
      exact this
    have e0 : b = b.take 16 ++ b.drop 16 := (List.take_append_drop 16 b).symm
    have hd1 : b.getD 16 0 = (n : Int) / 256 := by rw [h3]; unfold len; omega
    have hd2 : b.getD 17 0 = (n : Int) % 256 := by rw [h3]; unfold len; omega
    show b = PE.ahead (19 + ((body b n).length : Int)) t ++ body b n ++ b.drop n
    rw [hn]
    conv => lhs; rw [e0, t16, e3, e4, hd1, hd2, ← h5]
    unfold PE.ahead
    simp only [List.append_assoc]
theorem parse_made (k : Nat) : ∀ {b : List Int}, b.length ≤ k → Bytes b → (∀ p ∈ (parse b).1, Val p) ∧ ((∃ r, (parse b).2 = W r ∧ b = encs (parse b).1 ++ r) ∨ ∃ s d r, (parse b).2 = Fa s d ∧ b = encs (parse b).1 ++ r) := by
  induction k with
  | zero =>
    intro b hk hB
    have hw : hd b = .wait := by unfold hd; rw [if_pos (by omega)]
    rw [parse_wait hw]
    exact ⟨(fun p hp => by cases hp), .inl ⟨b, rfl, rfl⟩⟩
  | succ k ih =>
    intro b hk hB
    cases h : hd b with
    | wait =>
      rw [parse_wait h]
      exact ⟨(fun p hp => by cases hp), .inl ⟨b, rfl, rfl⟩⟩
    | fault s d =>
      rw [parse_fault h]
      exact ⟨(fun p hp => by cases hp), .inr ⟨s, d, b, rfl, rfl⟩⟩
    | msg n t =>
      have hm := hd_msg h
      obtain ⟨v1, v2⟩ := hd_val hB h
      obtain ⟨i1, i2⟩ := ih (b := b.drop n) (by rw [List.length_drop]; omega) (hB.drop n)
      rw [parse_msg h]
      refine ⟨fun p hp => ?_, ?_⟩
      · rcases List.mem_cons.1 hp with rfl | hp
        · exact v1
        · exact i1 p hp
      · rcases i2 with ⟨r, j1, j2⟩ | ⟨s, d, r, j1, j2⟩
        · exact .inl ⟨r, j1, by show b = enc (t, body b n) ++ encs _ ++ r; rw [List.append_assoc, ← j2]; exact v2⟩
        · exact .inr ⟨s, d, r, j1, by show b = enc (t, body b n) ++ encs _ ++ r; rw [List.append_assoc, ← j2]; exact v2⟩
end Go.Proofs.YtnmgbheaabdhlaaDoor.PJ

/- What comes of function 12 of this program, consulate.consulatelaw03.alike, as the engine gives it. -/
namespace Go.Proofs.YtnmgbheaabdhlaaDoor.F12B
open Go Go.Proofs Go.Proofs.YtnmgbheaabdhlaaDoor Go.RowKit Go.Proofs.YtnmgbheaabdhlaaDoor.Sx
set_option linter.unusedVariables false
set_option maxRecDepth 100000
def tab (x13 : F13.FT) : List (FuncId × Sx.Spec) := [(13, specF ⟨F13.i, F13.o, x13⟩)]
def pls (x13 : F13.FT) : List (FuncId × Plan) := []
@[reducible] def k1 : Sh := .sl false 52 (.sc (.int .u8) (.sl true 5 (.sc (.int .u8) .nil) .nil)) (.sl false 52 (.sc (.int .u8) (.sl false 5 (.sc (.int .u8) .nil) .nil)) (.sc (.int .i64) .nil))
@[reducible] def i1 : Sh := .sc (.int .i64) .nil
@[reducible] def o1 : Sh := .sc (.int .i64) (.sc .bool .nil)
abbrev G1 := ((List (Int × List (Int))) × (List (Int × List (Int))) × Int) → Int → Option ((Int × Bool) × Unit)
def u1 (F : G1) : Un := ⟨42, [0, 1, 12], k1, [13], i1, [4], o1, [0, 1, 12], [(.exit 0, [false]), (.ret, [true])], F⟩
@[reducible] def i : Sh := .sl false 52 (.sc (.int .u8) (.sl true 5 (.sc (.int .u8) .nil) .nil)) (.sl false 52 (.sc (.int .u8) (.sl false 5 (.sc (.int .u8) .nil) .nil)) .nil)
@[reducible] def o : Sh := .sc .bool .nil
abbrev FT := ((List (Int × List (Int))) × (List (Int × List (Int)))) → Option (Bool × Unit)
theorem tabS : AllS Tryd.prog (tab F13.f) := ⟨F13.spec, trivial⟩
theorem plsP : AllP Tryd.prog (pls F13.f) := trivial
theorem mixed : Tryd.prog.follows .mixedOrders = true := by kernel_rfl
def r1P (x13 : F13.FT) : ((List (Int × List (Int))) × (List (Int × List (Int))) × Int) → Int → Option (Int ⊕ ((Int × Bool) × Unit)) := fun (l, m, t12) t13 =>
    bif decide (t13 < t12) then
      bif decide (0 ≤ t13 ∧ t13 < (↑l.length : Int) ∧ 0 < l.length) then
       bif decide (0 + t13.toNat < l.length) then
       bif decide (0 ≤ t13 ∧ t13 < (↑m.length : Int) ∧ 0 < m.length) then
       bif decide (0 + t13.toNat < m.length) then
       bif (l.getD (0 + t13.toNat) (0, [])).fst != (m.getD (0 + t13.toNat) (0, [])).fst then
       some (Sum.inr ((1, false), PUnit.unit))
       else
       bif decide (0 ≤ t13 ∧ t13 < (↑l.length : Int) ∧ 0 < l.length) then
       bif decide (0 + t13.toNat < l.length) then
       bif decide (0 ≤ t13 ∧ t13 < (↑m.length : Int) ∧ 0 < m.length) then
       bif decide (0 + t13.toNat < m.length) then
       bif
       decide
       (0 + List.length (l.getD (0 + t13.toNat) (0, [])).snd ≤
       List.length (l.getD (0 + t13.toNat) (0, [])).snd) &&
       true then
       bif
       decide
       (0 + List.length (m.getD (0 + t13.toNat) (0, [])).snd ≤
       List.length (m.getD (0 + t13.toNat) (0, [])).snd) &&
       true then
       (x13
       (List.take (List.length (l.getD (0 + t13.toNat) (0, [])).snd)
       (List.drop 0 (l.getD (0 + t13.toNat) (0, [])).snd),
       List.take (List.length (m.getD (0 + t13.toNat) (0, [])).snd)
       (List.drop 0 (m.getD (0 + t13.toNat) (0, [])).snd))).bind
       fun r0 =>
       bif !r0.fst then some (Sum.inr ((1, false), PUnit.unit))
       else some (Sum.inl (IntKind.i64.wrap (t13 + 1)))
       else none
       else none
       else none
       else none
       else none
       else none
       else none
       else none
       else none
      else none
    else some (Sum.inr ((0, false), PUnit.unit))
theorem r1e (x13 : F13.FT) (kd : (List (Int × List (Int))) × (List (Int × List (Int))) × Int) (d : Int) : roundF (tabC Tryd.prog (tab x13) (pls x13) 100 12) 100 .none (u1 fun _ _ => none) (codeAt [1, 1, 0, 1, 0, 0] (bodyOf Tryd.prog 12)) kd d = r1P x13 kd d := by kernel_rfl
noncomputable def r1 : ((List (Int × List (Int))) × (List (Int × List (Int))) × Int) → Int → Option (Int ⊕ ((Int × Bool) × Unit)) := r1P F13.f
noncomputable def l1 : G1 := fun kd d => iterO (r1 kd) d
theorem ok1 : UnOk Tryd.prog (u1 l1) (codeAt [1, 1, 0, 1, 0] (bodyOf Tryd.prog 12)) :=
  loopT (p := .none) (c := codeAt [1, 1, 0, 1, 0, 0] (bodyOf Tryd.prog 12)) (fuel := 100) (depth := 12) mixed tabS plsP (by kernel_rfl) trivial (by kernel_rfl) (fun kd d => r1e F13.f kd d) rfl
def fP (x13 : F13.FT) (l1 : G1) : FT := fun (l, m) =>
    bif (↑l.length : Int) != (↑m.length : Int) then some (false, PUnit.unit)
    else
      bif decide (0 + l.length ≤ l.length) && true then
       bif decide (0 + m.length ≤ m.length) && true then
       (l1 (List.take l.length l, List.take m.length m, (↑l.length : Int)) (OfNat.ofNat 0)).bind fun r0 =>
       bif decide (r0.fst.fst = 0) then some (true, PUnit.unit)
       else bif decide (r0.fst.fst = 1) then some (r0.fst.snd, PUnit.unit) else none
       else none
      else none
theorem fe (x13 : F13.FT) (l1 : G1) (d : (List (Int × List (Int))) × (List (Int × List (Int)))) : bodyF (tabC Tryd.prog (tab x13) ((12, (.node .none (.node .none (.node (.node .none (.node (.unit (u1 l1)) .none)) .none)))) :: pls x13) 100 12) 100 12 i o d = fP x13 l1 d := by kernel_rfl
noncomputable def f : FT := fP F13.f l1
def plan (l1 : G1) : Plan := (.node .none (.node .none (.node (.node .none (.node (.unit (u1 l1)) .none)) .none)))
theorem planOk : PlanOk Tryd.prog (plan l1) (bodyOf Tryd.prog 12) := (planOk_of (plan l1) _ [([1, 1, 0, 1, 0], u1 l1)] rfl ⟨ok1, trivial⟩)
theorem meets : MeetsF Tryd.prog 12 ⟨i, o, f⟩ :=
  funcT (fuel := 100) (depth := 12) (pl := (12, plan l1) :: pls F13.f) mixed tabS ⟨planOk, plsP⟩ (fun d => fe F13.f l1 d)
theorem spec : SpecOk Tryd.prog (fun _ => none) 12 (specF ⟨i, o, f⟩) := specF_ok (by kernel_rfl) meets
end Go.Proofs.YtnmgbheaabdhlaaDoor.F12B

/- What comes of function 18 of this program, bytes.Clone, as the engine gives it. -/
namespace Go.Proofs.YtnmgbheaabdhlaaDoor.F18
open Go Go.Proofs Go.Proofs.YtnmgbheaabdhlaaDoor Go.RowKit Go.Proofs.YtnmgbheaabdhlaaDoor.Sx
set_option linter.unusedVariables false
set_option maxRecDepth 100000
def tab : List (FuncId × Sx.Spec) := []
def pls : List (FuncId × Plan) := []
@[reducible] def i : Sh := .sl false 5 (.sc (.int .u8) .nil) .nil
@[reducible] def o : Sh := .sl true 5 (.sc (.int .u8) .nil) .nil
abbrev FT := List (Int) → Option (List (Int) × Unit)
theorem tabS : AllS Tryd.prog (tab) := trivial
theorem plsP : AllP Tryd.prog (pls) := trivial
theorem mixed : Tryd.prog.follows .mixedOrders = true := by kernel_rfl
def fP : FT := fun b =>
    bif decide (0 < b.length) then
      bif decide (0 + b.length ≤ b.length) then
       bif decide (0 + (List.take b.length b).length ≤ 1073741824) then
       bif decide (0 + (0 + (List.take b.length b).length) ≤ ([] ++ List.take b.length b).length) && true then
       some (List.take (0 + (List.take b.length b).length) (List.drop 0 ([] ++ List.take b.length b)), PUnit.unit)
       else none
       else none
      else none
    else none
theorem fe (d : List (Int)) : bodyF (tabC Tryd.prog (tab) ((18, .none) :: pls) 100 12) 100 18 i o d = fP d := by kernel_rfl
noncomputable def f : FT := fun d => if 0 < d.length then fP d else some ([], ())
def plan : Plan := .none
theorem planOk : PlanOk Tryd.prog (plan) (bodyOf Tryd.prog 18) := (planOk_of (plan) _ [] (by kernel_rfl) trivial)
theorem meets : MeetsF Tryd.prog 18 ⟨i, o, f⟩ :=
  sliceT (fuel := 100) (depth := 12) (pl := (18, plan) :: pls) (z := (show Den o from [])) mixed tabS ⟨planOk, plsP⟩ (fun (d : List (Int)) hd => (fe  d).trans (show fP d = f d from (if_pos (c := 0 < d.length) hd).symm)) (fun (d : List (Int)) h => (show f d = _ from if_neg (c := 0 < d.length) (by have h : d.length = 0 := h; omega))) (fun c => by kernel_rfl) (fun a c => by kernel_rfl)
theorem spec : SpecOk Tryd.prog (fun _ => none) 18 (specF ⟨i, o, f⟩) := specF_ok (by kernel_rfl) meets
end Go.Proofs.YtnmgbheaabdhlaaDoor.F18

/- What comes of function 25 of this program, bytes.HasPrefix, as the engine gives it. -/
namespace Go.Proofs.YtnmgbheaabdhlaaDoor.F25
open Go Go.Proofs Go.Proofs.YtnmgbheaabdhlaaDoor Go.RowKit Go.Proofs.YtnmgbheaabdhlaaDoor.Sx
set_option linter.unusedVariables false
set_option maxRecDepth 100000
def tab (x13 : F13.FT) : List (FuncId × Sx.Spec) := [(13, specF ⟨F13.i, F13.o, x13⟩)]
def pls (x13 : F13.FT) : List (FuncId × Plan) := []
@[reducible] def i : Sh := .sl false 5 (.sc (.int .u8) .nil) (.sl false 5 (.sc (.int .u8) .nil) .nil)
@[reducible] def o : Sh := .sc .bool .nil
abbrev FT := (List (Int) × List (Int)) → Option (Bool × Unit)
theorem tabS : AllS Tryd.prog (tab F13.f) := ⟨F13.spec, trivial⟩
theorem plsP : AllP Tryd.prog (pls F13.f) := trivial
theorem mixed : Tryd.prog.follows .mixedOrders = true := by kernel_rfl
def fP (x13 : F13.FT) : FT := fun (s, prefix0) =>
    bif decide ((↑s.length : Int) ≥ (↑prefix0.length : Int)) then
      bif
       decide
       (0 ≤ (some (↑prefix0.length : Int)).getD (↑s.length : Int) ∧
       (some (↑prefix0.length : Int)).getD (↑s.length : Int) ≤ (↑s.length : Int) ∧ 0 + s.length ≤ s.length) then
       bif decide (0 + ((some (↑prefix0.length : Int)).getD (↑s.length : Int)).toNat ≤ s.length) && true then
       bif decide (0 + prefix0.length ≤ prefix0.length) && true then
       (x13
       (List.take ((some (↑prefix0.length : Int)).getD (↑s.length : Int)).toNat s,
       List.take prefix0.length prefix0)).bind
       fun r0 => some (r0.fst, PUnit.unit)
       else none
       else none
      else none
    else some (false, PUnit.unit)
theorem fe (x13 : F13.FT) (d : List (Int) × List (Int)) : bodyF (tabC Tryd.prog (tab x13) ((25, .none) :: pls x13) 100 12) 100 25 i o d = fP x13 d := by kernel_rfl
noncomputable def f : FT := fP F13.f
def plan : Plan := .none
theorem planOk : PlanOk Tryd.prog (plan) (bodyOf Tryd.prog 25) := (planOk_of (plan) _ [] (by kernel_rfl) trivial)
theorem meets : MeetsF Tryd.prog 25 ⟨i, o, f⟩ :=
  funcT (fuel := 100) (depth := 12) (pl := (25, plan) :: pls F13.f) mixed tabS ⟨planOk, plsP⟩ (fun d => fe F13.f d)
theorem spec : SpecOk Tryd.prog (fun _ => none) 25 (specF ⟨i, o, f⟩) := specF_ok (by kernel_rfl) meets
end Go.Proofs.YtnmgbheaabdhlaaDoor.F25

/- What comes of function 8 of this program, consulate.consulatelaw03.FrameBack, as the engine gives it. -/
namespace Go.Proofs.YtnmgbheaabdhlaaDoor.F8
open Go Go.Proofs Go.Proofs.YtnmgbheaabdhlaaDoor Go.RowKit Go.Proofs.YtnmgbheaabdhlaaDoor.Sx
set_option linter.unusedVariables false
set_option maxRecDepth 100000
def tab (x21 : F21.FT) (x9 : F9.FT) (x10 : F10.FT) (x11 : F11.FT) (x12 : F12B.FT) (x14 : F14.FT) (x18 : F18.FT) (x25 : F25.FT) : List (FuncId × Sx.Spec) := [(21, specF ⟨F21.i, F21.o, x21⟩), (9, specF ⟨F9.i, F9.o, x9⟩), (10, specF ⟨F10.i, F10.o, x10⟩), (11, specF ⟨F11.i, F11.o, x11⟩), (12, specF ⟨F12B.i, F12B.o, x12⟩), (14, specF ⟨F14.i, F14.o, x14⟩), (18, specF ⟨F18.i, F18.o, x18⟩), (25, specF ⟨F25.i, F25.o, x25⟩), (15, pureS saysS)]
def pls (x21 : F21.FT) (x9 : F9.FT) (x10 : F10.FT) (x11 : F11.FT) (x12 : F12B.FT) (x14 : F14.FT) (x18 : F18.FT) (x25 : F25.FT) : List (FuncId × Plan) := []
@[reducible] def k1 : Sh := .sc (.int .i64) .nil
@[reducible] def i1 : Sh := .nil
@[reducible] def o1 : Sh := .sc .bool .nil
abbrev G1 := Int → Unit → Option (Bool × Unit)
def u1 (F : G1) : Un := ⟨178, [7], k1, [], i1, [31], o1, [1, 5, 6, 8, 23, 24, 25], [(.normal, [true])], F⟩
@[reducible] def k2 : Sh := .nil
@[reducible] def i2 : Sh := .pt true 52 (.sc (.int .u8) (.sl false 5 (.sc (.int .u8) .nil) .nil)) .nil
@[reducible] def o2 : Sh := .nil
abbrev G2 := Unit → ((Int × List (Int))) → Option (Unit × ((Int × List (Int))))
def u2 (F : G2) : Un := ⟨178, [], k2, [8], i2, [], o2, [1, 5, 6, 8, 23, 24, 25], [(.normal, [])], F⟩
@[reducible] def k3 : Sh := .pt true 52 (.sc (.int .u8) (.sl false 5 (.sc (.int .u8) .nil) .nil)) .nil
@[reducible] def i3 : Sh := .nil
@[reducible] def o3 : Sh := .sl true 5 (.sc (.int .u8) .nil) (.sc (.int .i64) .nil)
abbrev G3 := ((Int × List (Int))) → Unit → Option ((List (Int) × Int) × Unit)
def u3 (F : G3) : Un := ⟨178, [8], k3, [], i3, [9, 10], o3, [1, 5, 6, 8, 23, 24, 25], [(.normal, [true, true])], F⟩
@[reducible] def k4 : Sh := .sl true 5 (.sc (.int .u8) .nil) (.sc (.int .i64) .nil)
@[reducible] def i4 : Sh := .nil
@[reducible] def o4 : Sh := .sc .bool .nil
abbrev G4 := (List (Int) × Int) → Unit → Option (Bool × Unit)
def u4 (F : G4) : Un := ⟨178, [9, 10], k4, [], i4, [57], o4, [1, 5, 6, 23, 24, 25], [(.normal, [true])], F⟩
@[reducible] def k5 : Sh := .pt true 52 (.sc (.int .u8) (.sl false 5 (.sc (.int .u8) .nil) .nil)) (.sl true 5 (.sc (.int .u8) .nil) .nil)
@[reducible] def i5 : Sh := .nil
@[reducible] def o5 : Sh := .sc .bool .nil
abbrev G5 := ((Int × List (Int)) × List (Int)) → Unit → Option (Bool × Unit)
def u5 (F : G5) : Un := ⟨178, [8, 9], k5, [], i5, [64], o5, [1, 5, 6, 8, 9, 23, 24, 25], [(.normal, [true])], F⟩
@[reducible] def k6 : Sh := .sl true 5 (.sc (.int .u8) .nil) .nil
@[reducible] def i6 : Sh := .sl true 5 (.sc (.int .u8) .nil) .nil
@[reducible] def o6 : Sh := .sl true 5 (.sc (.int .u8) .nil) .nil
abbrev G6 := List (Int) → List (Int) → Option (List (Int) × Unit)
def u6 (F : G6) : Un := ⟨178, [9], k6, [6], i6, [6], o6, [1, 5, 23, 24, 25], [(.normal, [true])], F⟩
@[reducible] def k7 : Sh := .sl false 52 (.sc (.int .u8) (.sl false 5 (.sc (.int .u8) .nil) .nil)) (.sc (.int .i64) .nil)
@[reducible] def i7 : Sh := .sl true 52 (.sc (.int .u8) (.sl false 5 (.sc (.int .u8) .nil) .nil)) (.sl true 5 (.sc (.int .u8) .nil) (.sc (.int .i64) .nil))
@[reducible] def o7 : Sh := .sc (.int .i64) (.sc .bool (.sl true 52 (.sc (.int .u8) (.sl false 5 (.sc (.int .u8) .nil) .nil)) (.sl true 5 (.sc (.int .u8) .nil) .nil)))
abbrev G7 := ((List (Int × List (Int))) × Int) → ((List (Int × List (Int))) × List (Int) × Int) → Option ((Int × Bool × (List (Int × List (Int))) × List (Int)) × Unit)
def u7 (F : G7) : Un := ⟨178, [23, 24], k7, [5, 6, 25], i7, [4, 5, 6], o7, [1, 23, 24], [(.exit 0, [false, true, true]), (.ret, [true, false, false])], F⟩
@[reducible] def k8 : Sh := .nil
@[reducible] def i8 : Sh := .nil
@[reducible] def o8 : Sh := .pt true 61 (.sl true 5 (.sc (.int .u8) .nil) (.sc (.int .u8) (.sc (.int .u8) (.sl true 5 (.sc (.int .u8) .nil) (.sc .bool .nil))))) .nil
abbrev G8 := Unit → Unit → Option (((List (Int) × Int × Int × List (Int) × Bool)) × Unit)
def u8 (F : G8) : Un := ⟨178, [], k8, [], i8, [11], o8, [1, 5, 6], [(.normal, [true])], F⟩
@[reducible] def k9 : Sh := .nil
@[reducible] def i9 : Sh := .sl true 5 (.sc (.int .u8) .nil) (.pt true 61 (.sl true 5 (.sc (.int .u8) .nil) (.sc (.int .u8) (.sc (.int .u8) (.sl true 5 (.sc (.int .u8) .nil) (.sc .bool .nil))))) .nil)
@[reducible] def o9 : Sh := .sl true 5 (.sc (.int .u8) .nil) (.sl true 52 (.sc (.int .u8) (.sl true 5 (.sc (.int .u8) .nil) .nil)) .nil)
abbrev G9 := Unit → (List (Int) × (List (Int) × Int × Int × List (Int) × Bool)) → Option ((List (Int) × (List (Int × List (Int)))) × ((List (Int) × Int × Int × List (Int) × Bool)))
def u9 (F : G9) : Un := ⟨178, [], k9, [6, 11], i9, [6, 12], o9, [1, 5, 11], [(.normal, [true, true])], F⟩
@[reducible] def k10 : Sh := .nil
@[reducible] def i10 : Sh := .pt true 61 (.sl true 5 (.sc (.int .u8) .nil) (.sc (.int .u8) (.sc (.int .u8) (.sl true 5 (.sc (.int .u8) .nil) (.sc .bool .nil))))) .nil
@[reducible] def o10 : Sh := .pt true 30 (.sc (.int .u8) (.sc (.int .u8) .nil)) .nil
abbrev G10 := Unit → ((List (Int) × Int × Int × List (Int) × Bool)) → Option (((Int × Int)) × ((List (Int) × Int × Int × List (Int) × Bool)))
def u10 (F : G10) : Un := ⟨178, [], k10, [11], i10, [13], o10, [1, 5, 6, 11, 12], [(.normal, [true])], F⟩
@[reducible] def k11 : Sh := .sl true 52 (.sc (.int .u8) (.sl false 5 (.sc (.int .u8) .nil) .nil)) (.pt true 30 (.sc (.int .u8) (.sc (.int .u8) .nil)) .nil)
@[reducible] def i11 : Sh := .pt true 61 (.sl true 5 (.sc (.int .u8) .nil) (.sc (.int .u8) (.sc (.int .u8) (.sl true 5 (.sc (.int .u8) .nil) (.sc .bool .nil))))) (.sl true 52 (.sc (.int .u8) (.sl true 5 (.sc (.int .u8) .nil) .nil)) .nil)
@[reducible] def o11 : Sh := .sc .bool .nil
abbrev G11 := ((List (Int × List (Int))) × (Int × Int)) → ((List (Int) × Int × Int × List (Int) × Bool) × (List (Int × List (Int)))) → Option (Bool × ((List (Int) × Int × Int × List (Int) × Bool)))
def u11 (F : G11) : Un := ⟨178, [5, 13], k11, [11, 12], i11, [95], o11, [1, 5, 6, 13], [(.normal, [true])], F⟩
@[reducible] def k12 : Sh := .nil
@[reducible] def i12 : Sh := .sl false 5 (.sc (.int .u8) .nil) .nil
@[reducible] def o12 : Sh := .sl false 5 (.sc (.int .u8) .nil) .nil
abbrev G12 := Unit → List (Int) → Option (List (Int) × Unit)
def u12 (F : G12) : Un := ⟨178, [], k12, [1], i12, [1], o12, [5, 6, 13], [(.normal, [true])], F⟩
@[reducible] def k13 : Sh := .nil
@[reducible] def i13 : Sh := .nil
@[reducible] def o13 : Sh := .pt true 61 (.sl true 5 (.sc (.int .u8) .nil) (.sc (.int .u8) (.sc (.int .u8) (.sl true 5 (.sc (.int .u8) .nil) (.sc .bool .nil))))) .nil
abbrev G13 := Unit → Unit → Option (((List (Int) × Int × Int × List (Int) × Bool)) × Unit)
def u13 (F : G13) : Un := ⟨178, [], k13, [], i13, [15], o13, [1, 5, 6, 13], [(.normal, [true])], F⟩
@[reducible] def k14 : Sh := .sl false 5 (.sc (.int .u8) .nil) .nil
@[reducible] def i14 : Sh := .sl true 5 (.sc (.int .u8) .nil) (.pt true 61 (.sl true 5 (.sc (.int .u8) .nil) (.sc (.int .u8) (.sc (.int .u8) (.sl true 5 (.sc (.int .u8) .nil) (.sc .bool .nil))))) .nil)
@[reducible] def o14 : Sh := .sl true 5 (.sc (.int .u8) .nil) (.sl true 52 (.sc (.int .u8) (.sl true 5 (.sc (.int .u8) .nil) .nil)) .nil)
abbrev G14 := List (Int) → (List (Int) × (List (Int) × Int × Int × List (Int) × Bool)) → Option ((List (Int) × (List (Int × List (Int)))) × ((List (Int) × Int × Int × List (Int) × Bool)))
def u14 (F : G14) : Un := ⟨178, [1], k14, [6, 15], i14, [6, 16], o14, [1, 5, 13, 15], [(.normal, [true, true])], F⟩
@[reducible] def k15 : Sh := .nil
@[reducible] def i15 : Sh := .sl true 52 (.sc (.int .u8) (.sl false 5 (.sc (.int .u8) .nil) .nil)) (.sl true 52 (.sc (.int .u8) (.sl true 5 (.sc (.int .u8) .nil) .nil)) .nil)
@[reducible] def o15 : Sh := .sl true 52 (.sc (.int .u8) (.sl true 5 (.sc (.int .u8) .nil) .nil)) (.sc .bool .nil)
abbrev G15 := Unit → ((List (Int × List (Int))) × (List (Int × List (Int)))) → Option (((List (Int × List (Int))) × Bool) × Unit)
def u15 (F : G15) : Un := ⟨178, [], k15, [5, 16], i15, [16, 121], o15, [1, 6, 13, 15], [(.normal, [true, true])], F⟩
@[reducible] def k16 : Sh := .nil
@[reducible] def i16 : Sh := .nil
@[reducible] def o16 : Sh := .sl true 5 (.sc (.int .u8) .nil) .nil
abbrev G16 := Unit → Unit → Option (List (Int) × Unit)
def u16 (F : G16) : Un := ⟨178, [], k16, [], i16, [17], o16, [1, 6, 13, 15, 16], [(.normal, [true])], F⟩
@[reducible] def k17 : Sh := .pt true 52 (.sc (.int .u8) (.sl false 5 (.sc (.int .u8) .nil) .nil)) .nil
@[reducible] def i17 : Sh := .nil
@[reducible] def o17 : Sh := .sl true 5 (.sc (.int .u8) .nil) (.sc (.int .i64) .nil)
abbrev G17 := ((Int × List (Int))) → Unit → Option ((List (Int) × Int) × Unit)
def u17 (F : G17) : Un := ⟨178, [19], k17, [], i17, [20, 21], o17, [1, 6, 13, 15, 17, 122, 123, 124], [(.normal, [true, true])], F⟩
@[reducible] def k18 : Sh := .sl true 5 (.sc (.int .u8) .nil) .nil
@[reducible] def i18 : Sh := .sl true 5 (.sc (.int .u8) .nil) .nil
@[reducible] def o18 : Sh := .sl true 5 (.sc (.int .u8) .nil) .nil
abbrev G18 := List (Int) → List (Int) → Option (List (Int) × Unit)
def u18 (F : G18) : Un := ⟨178, [20], k18, [17], i18, [17], o18, [1, 6, 13, 15, 122, 123, 124], [(.normal, [true])], F⟩
@[reducible] def k19 : Sh := .sl true 52 (.sc (.int .u8) (.sl true 5 (.sc (.int .u8) .nil) .nil)) (.sc (.int .i64) .nil)
@[reducible] def i19 : Sh := .sl true 5 (.sc (.int .u8) .nil) (.sc (.int .i64) .nil)
@[reducible] def o19 : Sh := .sc (.int .i64) (.sc .bool (.sl true 5 (.sc (.int .u8) .nil) .nil))
abbrev G19 := ((List (Int × List (Int))) × Int) → (List (Int) × Int) → Option ((Int × Bool × List (Int)) × Unit)
def u19 (F : G19) : Un := ⟨178, [122, 123], k19, [17, 124], i19, [4, 17], o19, [1, 6, 13, 15, 122, 123], [(.exit 2, [false, true]), (.ret, [true, false])], F⟩
@[reducible] def k20 : Sh := .sl false 5 (.sc (.int .u8) .nil) .nil
@[reducible] def i20 : Sh := .sl true 5 (.sc (.int .u8) .nil) .nil
@[reducible] def o20 : Sh := .sl true 5 (.sc (.int .u8) .nil) .nil
abbrev G20 := List (Int) → List (Int) → Option (List (Int) × Unit)
def u20 (F : G20) : Un := ⟨178, [1], k20, [6], i20, [22], o20, [13, 15, 17], [(.normal, [true])], F⟩
@[reducible] def k21 : Sh := .nil
@[reducible] def i21 : Sh := .pt true 30 (.sc (.int .u8) (.sc (.int .u8) .nil)) (.pt true 61 (.sl true 5 (.sc (.int .u8) .nil) (.sc (.int .u8) (.sc (.int .u8) (.sl true 5 (.sc (.int .u8) .nil) (.sc .bool .nil))))) .nil)
@[reducible] def o21 : Sh := .nil
abbrev G21 := Unit → ((Int × Int) × (List (Int) × Int × Int × List (Int) × Bool)) → Option (Unit × ((Int × Int) × (List (Int) × Int × Int × List (Int) × Bool)))
def u21 (F : G21) : Un := ⟨178, [], k21, [13, 15], i21, [], o21, [13, 15, 17, 22], [(.normal, [])], F⟩
@[reducible] def k22 : Sh := .pt true 30 (.sc (.int .u8) (.sc (.int .u8) .nil)) .nil
@[reducible] def i22 : Sh := .pt true 61 (.sl true 5 (.sc (.int .u8) .nil) (.sc (.int .u8) (.sc (.int .u8) (.sl true 5 (.sc (.int .u8) .nil) (.sc .bool .nil))))) (.sl true 5 (.sc (.int .u8) .nil) (.sl true 5 (.sc (.int .u8) .nil) .nil))
@[reducible] def o22 : Sh := .sc .bool .nil
abbrev G22 := ((Int × Int)) → ((List (Int) × Int × Int × List (Int) × Bool) × List (Int) × List (Int)) → Option (Bool × ((List (Int) × Int × Int × List (Int) × Bool)))
def u22 (F : G22) : Un := ⟨178, [13], k22, [15, 17, 22], i22, [176], o22, [], [(.normal, [true])], F⟩
@[reducible] def i : Sh := .sl false 52 (.sc (.int .u8) (.sl false 5 (.sc (.int .u8) .nil) .nil)) (.sl false 5 (.sc (.int .u8) .nil) .nil)
@[reducible] def o : Sh := .sc .bool .nil
abbrev FT := ((List (Int × List (Int))) × List (Int)) → Option (Bool × Unit)
theorem tabS : AllS Tryd.prog (tab F21.f F9.f F10.f F11.f F12B.f F14.f F18.f F25.f) := ⟨F21.spec, F9.spec, F10.spec, F11.spec, F12B.spec, F14.spec, F18.spec, F25.spec, says_ok (by kernel_rfl) KA.tells, trivial⟩
theorem plsP : AllP Tryd.prog (pls F21.f F9.f F10.f F11.f F12B.f F14.f F18.f F25.f) := trivial
theorem mixed : Tryd.prog.follows .mixedOrders = true := by kernel_rfl
def r1P (x21 : F21.FT) (x9 : F9.FT) (x10 : F10.FT) (x11 : F11.FT) (x12 : F12B.FT) (x14 : F14.FT) (x18 : F18.FT) (x25 : F25.FT) : G1 := fun k () =>
   some (k == (8 : Int), PUnit.unit)
theorem r1e (x21 : F21.FT) (x9 : F9.FT) (x10 : F10.FT) (x11 : F11.FT) (x12 : F12B.FT) (x14 : F14.FT) (x18 : F18.FT) (x25 : F25.FT) (kd : Int) (d : Unit) : unitF (tabC Tryd.prog (tab x21 x9 x10 x11 x12 x14 x18 x25) (pls x21 x9 x10 x11 x12 x14 x18 x25) 100 12) 100 .none (u1 fun _ _ => none) (codeAt [1, 1, 1, 0, 1, 0, 0, 1, 1, 0, 0, 1, 0, 0] (bodyOf Tryd.prog 8)) kd d = r1P x21 x9 x10 x11 x12 x14 x18 x25 kd d := by kernel_rfl
noncomputable def r1 : G1 := r1P F21.f F9.f F10.f F11.f F12B.f F14.f F18.f F25.f
noncomputable def l1 : G1 := r1
theorem ok1 : UnOk Tryd.prog (u1 l1) (codeAt [1, 1, 1, 0, 1, 0, 0, 1, 1, 0, 0, 1, 0, 0] (bodyOf Tryd.prog 8)) :=
  blockT (p := .none) (fuel := 100) (depth := 12) mixed tabS plsP trivial (fun kd d => r1e F21.f F9.f F10.f F11.f F12B.f F14.f F18.f F25.f kd d)
def r2P (x21 : F21.FT) (x9 : F9.FT) (x10 : F10.FT) (x11 : F11.FT) (x12 : F12B.FT) (x14 : F14.FT) (x18 : F18.FT) (x25 : F25.FT) : G2 := fun () (m0, m1) =>
    bif
       decide
       ((0 : Int) ≤
       (some (if (5000 : Int) < (↑m1.length : Int) then (5000 : Int) else (↑m1.length : Int))).getD
       (↑m1.length : Int) ∧
       (some (if (5000 : Int) < (↑m1.length : Int) then (5000 : Int) else (↑m1.length : Int))).getD
       (↑m1.length : Int) ≤
       (↑m1.length : Int) ∧
       (0 : Nat) + m1.length ≤ m1.length) then
      bif
       decide
       ((0 : Nat) +
       ((some (if (5000 : Int) < (↑m1.length : Int) then (5000 : Int) else (↑m1.length : Int))).getD
       (↑m1.length : Int)).toNat ≤
       m1.length) &&
       true then
       some
       (PUnit.unit, m0,
       List.take
       ((some (if (5000 : Int) < (↑m1.length : Int) then (5000 : Int) else (↑m1.length : Int))).getD
       (↑m1.length : Int)).toNat
       m1)
      else none
    else none
theorem r2e (x21 : F21.FT) (x9 : F9.FT) (x10 : F10.FT) (x11 : F11.FT) (x12 : F12B.FT) (x14 : F14.FT) (x18 : F18.FT) (x25 : F25.FT) (kd : Unit) (d : (Int × List (Int))) : unitF (tabC Tryd.prog (tab x21 x9 x10 x11 x12 x14 x18 x25) (pls x21 x9 x10 x11 x12 x14 x18 x25) 100 12) 100 .none (u2 fun _ _ => none) (codeAt [1, 1, 1, 0, 1, 0, 0, 1, 1, 0, 0, 1, 1, 0] (bodyOf Tryd.prog 8)) kd d = r2P x21 x9 x10 x11 x12 x14 x18 x25 kd d := by kernel_rfl
noncomputable def r2 : G2 := r2P F21.f F9.f F10.f F11.f F12B.f F14.f F18.f F25.f
noncomputable def l2 : G2 := r2
theorem ok2 : UnOk Tryd.prog (u2 l2) (codeAt [1, 1, 1, 0, 1, 0, 0, 1, 1, 0, 0, 1, 1, 0] (bodyOf Tryd.prog 8)) :=
  blockT (p := .none) (fuel := 100) (depth := 12) mixed tabS plsP trivial (fun kd d => r2e F21.f F9.f F10.f F11.f F12B.f F14.f F18.f F25.f kd d)
def r3P (x21 : F21.FT) (x9 : F9.FT) (x10 : F10.FT) (x11 : F11.FT) (x12 : F12B.FT) (x14 : F14.FT) (x18 : F18.FT) (x25 : F25.FT) : G3 := fun (m0, m1) () =>
    bif decide ((0 : Nat) + m1.length ≤ m1.length) && true then
      (x21 (m0, List.take m1.length m1)).bind fun r0 =>
       bif decide ((0 : Nat) + r0.fst.fst.length ≤ r0.fst.fst.length) && true then
       some ((List.take r0.fst.fst.length (List.drop (0 : Nat) r0.fst.fst), r0.fst.snd), PUnit.unit)
       else none
    else none
theorem r3e (x21 : F21.FT) (x9 : F9.FT) (x10 : F10.FT) (x11 : F11.FT) (x12 : F12B.FT) (x14 : F14.FT) (x18 : F18.FT) (x25 : F25.FT) (kd : (Int × List (Int))) (d : Unit) : unitF (tabC Tryd.prog (tab x21 x9 x10 x11 x12 x14 x18 x25) (pls x21 x9 x10 x11 x12 x14 x18 x25) 100 12) 100 .none (u3 fun _ _ => none) (codeAt [1, 1, 1, 0, 1, 0, 0, 1, 1, 0, 0, 1, 1, 1, 0] (bodyOf Tryd.prog 8)) kd d = r3P x21 x9 x10 x11 x12 x14 x18 x25 kd d := by kernel_rfl
noncomputable def r3 : G3 := r3P F21.f F9.f F10.f F11.f F12B.f F14.f F18.f F25.f
noncomputable def l3 : G3 := r3
theorem ok3 : UnOk Tryd.prog (u3 l3) (codeAt [1, 1, 1, 0, 1, 0, 0, 1, 1, 0, 0, 1, 1, 1, 0] (bodyOf Tryd.prog 8)) :=
  blockT (p := .none) (fuel := 100) (depth := 12) mixed tabS plsP trivial (fun kd d => r3e F21.f F9.f F10.f F11.f F12B.f F14.f F18.f F25.f kd d)
def r4P (x21 : F21.FT) (x9 : F9.FT) (x10 : F10.FT) (x11 : F11.FT) (x12 : F12B.FT) (x14 : F14.FT) (x18 : F18.FT) (x25 : F25.FT) : G4 := fun (b, e) () =>
    bif decide ((↑b.length : Int) > (0 : Int)) then some (true, PUnit.unit)
    else bif e != (1 : Int) then some (e != (3 : Int), PUnit.unit) else some (false, PUnit.unit)
theorem r4e (x21 : F21.FT) (x9 : F9.FT) (x10 : F10.FT) (x11 : F11.FT) (x12 : F12B.FT) (x14 : F14.FT) (x18 : F18.FT) (x25 : F25.FT) (kd : List (Int) × Int) (d : Unit) : unitF (tabC Tryd.prog (tab x21 x9 x10 x11 x12 x14 x18 x25) (pls x21 x9 x10 x11 x12 x14 x18 x25) 100 12) 100 .none (u4 fun _ _ => none) (codeAt [1, 1, 1, 0, 1, 0, 0, 1, 1, 0, 0, 1, 1, 1, 1, 0, 1, 0, 0, 0] (bodyOf Tryd.prog 8)) kd d = r4P x21 x9 x10 x11 x12 x14 x18 x25 kd d := by kernel_rfl
noncomputable def r4 : G4 := r4P F21.f F9.f F10.f F11.f F12B.f F14.f F18.f F25.f
noncomputable def l4 : G4 := r4
theorem ok4 : UnOk Tryd.prog (u4 l4) (codeAt [1, 1, 1, 0, 1, 0, 0, 1, 1, 0, 0, 1, 1, 1, 1, 0, 1, 0, 0, 0] (bodyOf Tryd.prog 8)) :=
  blockT (p := .none) (fuel := 100) (depth := 12) mixed tabS plsP trivial (fun kd d => r4e F21.f F9.f F10.f F11.f F12B.f F14.f F18.f F25.f kd d)
def r5P (x21 : F21.FT) (x9 : F9.FT) (x10 : F10.FT) (x11 : F11.FT) (x12 : F12B.FT) (x14 : F14.FT) (x18 : F18.FT) (x25 : F25.FT) : G5 := fun ((m0, m1), b) () =>
    some ((↑b.length : Int) != IntKind.i64.wrap ((19 : Int) + (↑m1.length : Int)), PUnit.unit)
theorem r5e (x21 : F21.FT) (x9 : F9.FT) (x10 : F10.FT) (x11 : F11.FT) (x12 : F12B.FT) (x14 : F14.FT) (x18 : F18.FT) (x25 : F25.FT) (kd : (Int × List (Int)) × List (Int)) (d : Unit) : unitF (tabC Tryd.prog (tab x21 x9 x10 x11 x12 x14 x18 x25) (pls x21 x9 x10 x11 x12 x14 x18 x25) 100 12) 100 .none (u5 fun _ _ => none) (codeAt [1, 1, 1, 0, 1, 0, 0, 1, 1, 0, 0, 1, 1, 1, 1, 1, 0, 0] (bodyOf Tryd.prog 8)) kd d = r5P x21 x9 x10 x11 x12 x14 x18 x25 kd d := by kernel_rfl
noncomputable def r5 : G5 := r5P F21.f F9.f F10.f F11.f F12B.f F14.f F18.f F25.f
noncomputable def l5 : G5 := r5
theorem ok5 : UnOk Tryd.prog (u5 l5) (codeAt [1, 1, 1, 0, 1, 0, 0, 1, 1, 0, 0, 1, 1, 1, 1, 1, 0, 0] (bodyOf Tryd.prog 8)) :=
  blockT (p := .none) (fuel := 100) (depth := 12) mixed tabS plsP trivial (fun kd d => r5e F21.f F9.f F10.f F11.f F12B.f F14.f F18.f F25.f kd d)
def r6P (x21 : F21.FT) (x9 : F9.FT) (x10 : F10.FT) (x11 : F11.FT) (x12 : F12B.FT) (x14 : F14.FT) (x18 : F18.FT) (x25 : F25.FT) : G6 := fun b all =>
    bif decide ((0 : Nat) + b.length ≤ b.length) then
      bif decide (all.length + (List.take b.length b).length ≤ (1073741824 : Nat)) then
       bif decide ((0 : Nat) + all.length ≤ all.length) then
       bif
       decide
       ((0 : Nat) + (all.length + (List.take b.length b).length) ≤
       (List.take all.length all ++ List.take b.length b).length) &&
       true then
       some
       (List.take (all.length + (List.take b.length b).length)
       (List.drop (0 : Nat) (List.take all.length all ++ List.take b.length b)),
       PUnit.unit)
       else none
       else none
      else none
    else none
theorem r6e (x21 : F21.FT) (x9 : F9.FT) (x10 : F10.FT) (x11 : F11.FT) (x12 : F12B.FT) (x14 : F14.FT) (x18 : F18.FT) (x25 : F25.FT) (kd : List (Int)) (d : List (Int)) : unitF (tabC Tryd.prog (tab x21 x9 x10 x11 x12 x14 x18 x25) (pls x21 x9 x10 x11 x12 x14 x18 x25) 100 12) 100 .none (u6 fun _ _ => none) (codeAt [1, 1, 1, 0, 1, 0, 0, 1, 1, 0, 0, 1, 1, 1, 1, 1, 1, 1] (bodyOf Tryd.prog 8)) kd d = r6P x21 x9 x10 x11 x12 x14 x18 x25 kd d := by kernel_rfl
noncomputable def r6 : G6 := r6P F21.f F9.f F10.f F11.f F12B.f F14.f F18.f F25.f
noncomputable def l6 : G6 := r6
theorem ok6 : UnOk Tryd.prog (u6 l6) (codeAt [1, 1, 1, 0, 1, 0, 0, 1, 1, 0, 0, 1, 1, 1, 1, 1, 1, 1] (bodyOf Tryd.prog 8)) :=
  blockT (p := .none) (fuel := 100) (depth := 12) mixed tabS plsP trivial (fun kd d => r6e F21.f F9.f F10.f F11.f F12B.f F14.f F18.f F25.f kd d)
def r7P (x21 : F21.FT) (x9 : F9.FT) (x10 : F10.FT) (x11 : F11.FT) (x12 : F12B.FT) (x14 : F14.FT) (x18 : F18.FT) (x25 : F25.FT) (l1 : G1) (l2 : G2) (l3 : G3) (l4 : G4) (l5 : G5) (l6 : G6) : ((List (Int × List (Int))) × Int) → ((List (Int × List (Int))) × List (Int) × Int) → Option (((List (Int × List (Int))) × List (Int) × Int) ⊕ ((Int × Bool × (List (Int × List (Int))) × List (Int)) × Unit)) := fun (t23, t24) (own, all, t25) =>
    bif decide (t25 < t24) then
      bif decide ((0 : Int) ≤ t25 ∧ t25 < (↑t23.length : Int) ∧ (0 : Nat) < t23.length) then
       bif decide ((0 : Nat) + t25.toNat < t23.length) then
       (l1 t25 PUnit.unit).bind fun r0 =>
       bif r0.fst then
       bif decide ((0 : Nat) + own.length ≤ own.length) && true then
       bif decide ((0 : Nat) + all.length ≤ all.length) && true then
       some (Sum.inr (((0 : Int), false, List.take own.length own, List.take all.length all), PUnit.unit))
       else none
       else none
       else
       bif
       decide
       ((0 : Nat) + List.length (t23.getD ((0 : Nat) + t25.toNat) ((0 : Int), [])).snd ≤
       List.length (t23.getD ((0 : Nat) + t25.toNat) ((0 : Int), [])).snd) &&
       true then
       (l2 PUnit.unit
       ((t23.getD ((0 : Nat) + t25.toNat) ((0 : Int), [])).fst,
       List.take (List.length (t23.getD ((0 : Nat) + t25.toNat) ((0 : Int), [])).snd)
       (List.drop (0 : Nat) (t23.getD ((0 : Nat) + t25.toNat) ((0 : Int), [])).snd))).bind
       fun r1 =>
       (l3 r1.snd PUnit.unit).bind fun r2 =>
       bif r2.fst.snd != (0 : Int) then
       bif decide ((0 : Nat) + r2.fst.fst.length ≤ r2.fst.fst.length) && true then
       (l4 (List.take r2.fst.fst.length (List.drop (0 : Nat) r2.fst.fst), r2.fst.snd) PUnit.unit).bind
       fun r3 =>
       bif r3.fst then some (Sum.inr (((1 : Int), false, [], []), PUnit.unit))
       else
       bif decide ((0 : Nat) + own.length ≤ own.length) && true then
       bif decide ((0 : Nat) + all.length ≤ all.length) && true then
       some
       (Sum.inl
       (List.take own.length own, List.take all.length all,
       IntKind.i64.wrap (t25 + (1 : Int))))
       else none
       else none
       else none
       else
       bif decide ((0 : Nat) + r2.fst.fst.length ≤ r2.fst.fst.length) && true then
       (l5 (r1.snd, List.take r2.fst.fst.length (List.drop (0 : Nat) r2.fst.fst)) PUnit.unit).bind
       fun r3 =>
       bif r3.fst then some (Sum.inr (((1 : Int), false, [], []), PUnit.unit))
       else
       bif decide (own.length + (2 : Nat) / OfNat.ofNat (2 : Nat) ≤ (1073741824 : Nat)) then
       bif decide ((0 : Nat) + own.length ≤ own.length) then
       bif decide ((0 : Nat) + List.length r1.snd.snd ≤ List.length r1.snd.snd) && true then
       bif decide ((0 : Nat) + r2.fst.fst.length ≤ r2.fst.fst.length) && true then
       bif decide ((0 : Nat) + all.length ≤ all.length) && true then
       (l6 (List.take r2.fst.fst.length (List.drop (0 : Nat) r2.fst.fst))
       (List.take all.length all)).bind
       fun r4 =>
       bif
       decide
       ((0 : Nat) + (own.length + (2 : Nat) / OfNat.ofNat (2 : Nat)) ≤
       (List.take own.length own ++
       [(r1.snd.fst,
       List.take (List.length r1.snd.snd)
       (List.drop (0 : Nat) r1.snd.snd))]).length) &&
       true then
       bif decide ((0 : Nat) + List.length r4.fst ≤ List.length r4.fst) && true then
       some
       (Sum.inl
       (List.take (own.length + (2 : Nat) / OfNat.ofNat (2 : Nat))
       (List.drop (0 : Nat)
       (List.take own.length own ++
       [(r1.snd.fst,
       List.take (List.length r1.snd.snd)
       (List.drop (0 : Nat) r1.snd.snd))])),
       List.take (List.length r4.fst) (List.drop (0 : Nat) r4.fst),
       IntKind.i64.wrap (t25 + (1 : Int))))
       else none
       else none
       else none
       else none
       else none
       else none
       else none
       else none
       else none
       else none
      else none
    else
      bif decide ((0 : Nat) + own.length ≤ own.length) && true then
       bif decide ((0 : Nat) + all.length ≤ all.length) && true then
       some (Sum.inr (((0 : Int), false, List.take own.length own, List.take all.length all), PUnit.unit))
       else none
      else none
theorem r7e (x21 : F21.FT) (x9 : F9.FT) (x10 : F10.FT) (x11 : F11.FT) (x12 : F12B.FT) (x14 : F14.FT) (x18 : F18.FT) (x25 : F25.FT) (l1 : G1) (l2 : G2) (l3 : G3) (l4 : G4) (l5 : G5) (l6 : G6) (kd : (List (Int × List (Int))) × Int) (d : (List (Int × List (Int))) × List (Int) × Int) : roundF (tabC Tryd.prog (tab x21 x9 x10 x11 x12 x14 x18 x25) (pls x21 x9 x10 x11 x12 x14 x18 x25) 100 12) 100 (.node .none (.node .none (.node (.node (.node .none (.node (.node (.unit (u1 l1)) .none) (.node (.unit (u2 l2)) (.node (.unit (u3 l3)) (.node (.node .none (.node (.node (.node (.unit (u4 l4)) .none) .none) .none)) (.node (.node (.unit (u5 l5)) .none) (.node .none (.unit (u6 l6))))))))) .none) .none))) (u7 fun _ _ => none) (codeAt [1, 1, 1, 0, 1, 0, 0] (bodyOf Tryd.prog 8)) kd d = r7P x21 x9 x10 x11 x12 x14 x18 x25 l1 l2 l3 l4 l5 l6 kd d := by kernel_rfl
noncomputable def r7 : ((List (Int × List (Int))) × Int) → ((List (Int × List (Int))) × List (Int) × Int) → Option (((List (Int × List (Int))) × List (Int) × Int) ⊕ ((Int × Bool × (List (Int × List (Int))) × List (Int)) × Unit)) := r7P F21.f F9.f F10.f F11.f F12B.f F14.f F18.f F25.f l1 l2 l3 l4 l5 l6
noncomputable def l7 : G7 := fun kd d => iterO (r7 kd) d
theorem ok7 : UnOk Tryd.prog (u7 l7) (codeAt [1, 1, 1, 0, 1, 0] (bodyOf Tryd.prog 8)) :=
  loopT (p := (.node .none (.node .none (.node (.node (.node .none (.node (.node (.unit (u1 l1)) .none) (.node (.unit (u2 l2)) (.node (.unit (u3 l3)) (.node (.node .none (.node (.node (.node (.unit (u4 l4)) .none) .none) .none)) (.node (.node (.unit (u5 l5)) .none) (.node .none (.unit (u6 l6))))))))) .none) .none)))) (c := codeAt [1, 1, 1, 0, 1, 0, 0] (bodyOf Tryd.prog 8)) (fuel := 100) (depth := 12) mixed tabS plsP (by kernel_rfl) (planOk_of (.node .none (.node .none (.node (.node (.node .none (.node (.node (.unit (u1 l1)) .none) (.node (.unit (u2 l2)) (.node (.unit (u3 l3)) (.node (.node .none (.node (.node (.node (.unit (u4 l4)) .none) .none) .none)) (.node (.node (.unit (u5 l5)) .none) (.node .none (.unit (u6 l6))))))))) .none) .none))) _ [([1, 1, 0, 0, 1, 0, 0], u1 l1), ([1, 1, 0, 0, 1, 1, 0], u2 l2), ([1, 1, 0, 0, 1, 1, 1, 0], u3 l3), ([1, 1, 0, 0, 1, 1, 1, 1, 0, 1, 0, 0, 0], u4 l4), ([1, 1, 0, 0, 1, 1, 1, 1, 1, 0, 0], u5 l5), ([1, 1, 0, 0, 1, 1, 1, 1, 1, 1, 1], u6 l6)] rfl ⟨ok1, ok2, ok3, ok4, ok5, ok6, trivial⟩) (by kernel_rfl) (fun kd d => r7e F21.f F9.f F10.f F11.f F12B.f F14.f F18.f F25.f l1 l2 l3 l4 l5 l6 kd d) rfl
def r8P (x21 : F21.FT) (x9 : F9.FT) (x10 : F10.FT) (x11 : F11.FT) (x12 : F12B.FT) (x14 : F14.FT) (x18 : F18.FT) (x25 : F25.FT) : G8 := fun () () =>
    (x9 PUnit.unit).bind fun r0 =>
      bif Option.isSome r0.fst then some (Option.getD r0.fst ([], (0 : Int), (0 : Int), [], false), PUnit.unit) else none
theorem r8e (x21 : F21.FT) (x9 : F9.FT) (x10 : F10.FT) (x11 : F11.FT) (x12 : F12B.FT) (x14 : F14.FT) (x18 : F18.FT) (x25 : F25.FT) (kd : Unit) (d : Unit) : unitF (tabC Tryd.prog (tab x21 x9 x10 x11 x12 x14 x18 x25) (pls x21 x9 x10 x11 x12 x14 x18 x25) 100 12) 100 .none (u8 fun _ _ => none) (codeAt [1, 1, 1, 1, 0] (bodyOf Tryd.prog 8)) kd d = r8P x21 x9 x10 x11 x12 x14 x18 x25 kd d := by kernel_rfl
noncomputable def r8 : G8 := r8P F21.f F9.f F10.f F11.f F12B.f F14.f F18.f F25.f
noncomputable def l8 : G8 := r8
theorem ok8 : UnOk Tryd.prog (u8 l8) (codeAt [1, 1, 1, 1, 0] (bodyOf Tryd.prog 8)) :=
  blockT (p := .none) (fuel := 100) (depth := 12) mixed tabS plsP trivial (fun kd d => r8e F21.f F9.f F10.f F11.f F12B.f F14.f F18.f F25.f kd d)
def r9P (x21 : F21.FT) (x9 : F9.FT) (x10 : F10.FT) (x11 : F11.FT) (x12 : F12B.FT) (x14 : F14.FT) (x18 : F18.FT) (x25 : F25.FT) : G9 := fun () (all, (i0_2, i1_2, i2_2, i3_2, i4_2)) =>
    bif decide ((0 : Nat) + all.length ≤ all.length) && true then
      (x10 ((i0_2, i1_2, i2_2, i3_2, i4_2), List.take all.length all)).bind fun r0 =>
       bif decide ((0 : Nat) + all.length ≤ all.length) && true then
       bif decide ((0 : Nat) + List.length r0.fst ≤ List.length r0.fst) && true then
       some ((List.take all.length all, List.take (List.length r0.fst) (List.drop (0 : Nat) r0.fst)), r0.snd)
       else none
       else none
    else none
theorem r9e (x21 : F21.FT) (x9 : F9.FT) (x10 : F10.FT) (x11 : F11.FT) (x12 : F12B.FT) (x14 : F14.FT) (x18 : F18.FT) (x25 : F25.FT) (kd : Unit) (d : List (Int) × (List (Int) × Int × Int × List (Int) × Bool)) : unitF (tabC Tryd.prog (tab x21 x9 x10 x11 x12 x14 x18 x25) (pls x21 x9 x10 x11 x12 x14 x18 x25) 100 12) 100 .none (u9 fun _ _ => none) (codeAt [1, 1, 1, 1, 1, 0] (bodyOf Tryd.prog 8)) kd d = r9P x21 x9 x10 x11 x12 x14 x18 x25 kd d := by kernel_rfl
noncomputable def r9 : G9 := r9P F21.f F9.f F10.f F11.f F12B.f F14.f F18.f F25.f
noncomputable def l9 : G9 := r9
theorem ok9 : UnOk Tryd.prog (u9 l9) (codeAt [1, 1, 1, 1, 1, 0] (bodyOf Tryd.prog 8)) :=
  blockT (p := .none) (fuel := 100) (depth := 12) mixed tabS plsP trivial (fun kd d => r9e F21.f F9.f F10.f F11.f F12B.f F14.f F18.f F25.f kd d)
def r10P (x21 : F21.FT) (x9 : F9.FT) (x10 : F10.FT) (x11 : F11.FT) (x12 : F12B.FT) (x14 : F14.FT) (x18 : F18.FT) (x25 : F25.FT) : G10 := fun () (i0_2, i1_2, i2_2, i3_2, i4_2) =>
    (x11 (i0_2, i1_2, i2_2, i3_2, i4_2)).bind fun r0 => some ((r0.fst.fst.fst, r0.fst.fst.snd), r0.snd)
theorem r10e (x21 : F21.FT) (x9 : F9.FT) (x10 : F10.FT) (x11 : F11.FT) (x12 : F12B.FT) (x14 : F14.FT) (x18 : F18.FT) (x25 : F25.FT) (kd : Unit) (d : (List (Int) × Int × Int × List (Int) × Bool)) : unitF (tabC Tryd.prog (tab x21 x9 x10 x11 x12 x14 x18 x25) (pls x21 x9 x10 x11 x12 x14 x18 x25) 100 12) 100 .none (u10 fun _ _ => none) (codeAt [1, 1, 1, 1, 1, 1, 0] (bodyOf Tryd.prog 8)) kd d = r10P x21 x9 x10 x11 x12 x14 x18 x25 kd d := by kernel_rfl
noncomputable def r10 : G10 := r10P F21.f F9.f F10.f F11.f F12B.f F14.f F18.f F25.f
noncomputable def l10 : G10 := r10
theorem ok10 : UnOk Tryd.prog (u10 l10) (codeAt [1, 1, 1, 1, 1, 1, 0] (bodyOf Tryd.prog 8)) :=
  blockT (p := .none) (fuel := 100) (depth := 12) mixed tabS plsP trivial (fun kd d => r10e F21.f F9.f F10.f F11.f F12B.f F14.f F18.f F25.f kd d)
def r11P (x21 : F21.FT) (x9 : F9.FT) (x10 : F10.FT) (x11 : F11.FT) (x12 : F12B.FT) (x14 : F14.FT) (x18 : F18.FT) (x25 : F25.FT) : G11 := fun (own, (fault0, fault1)) ((i0_2, i1_2, i2_2, i3_2, i4_2), got) =>
    bif decide ((0 : Nat) + got.length ≤ got.length) && true then
      bif decide ((0 : Nat) + own.length ≤ own.length) && true then
       (x12 (List.take got.length got, List.take own.length own)).bind fun r0 =>
       bif !r0.fst then some (true, i0_2, i1_2, i2_2, i3_2, i4_2)
       else
       bif fault0 != (0 : Int) then some (true, i0_2, i1_2, i2_2, i3_2, i4_2)
       else (x14 (i0_2, i1_2, i2_2, i3_2, i4_2)).bind fun r1 => some (r1.fst != (0 : Int), r1.snd)
      else none
    else none
theorem r11e (x21 : F21.FT) (x9 : F9.FT) (x10 : F10.FT) (x11 : F11.FT) (x12 : F12B.FT) (x14 : F14.FT) (x18 : F18.FT) (x25 : F25.FT) (kd : (List (Int × List (Int))) × (Int × Int)) (d : (List (Int) × Int × Int × List (Int) × Bool) × (List (Int × List (Int)))) : unitF (tabC Tryd.prog (tab x21 x9 x10 x11 x12 x14 x18 x25) (pls x21 x9 x10 x11 x12 x14 x18 x25) 100 12) 100 .none (u11 fun _ _ => none) (codeAt [1, 1, 1, 1, 1, 1, 1, 0, 0] (bodyOf Tryd.prog 8)) kd d = r11P x21 x9 x10 x11 x12 x14 x18 x25 kd d := by kernel_rfl
noncomputable def r11 : G11 := r11P F21.f F9.f F10.f F11.f F12B.f F14.f F18.f F25.f
noncomputable def l11 : G11 := r11
theorem ok11 : UnOk Tryd.prog (u11 l11) (codeAt [1, 1, 1, 1, 1, 1, 1, 0, 0] (bodyOf Tryd.prog 8)) :=
  blockT (p := .none) (fuel := 100) (depth := 12) mixed tabS plsP trivial (fun kd d => r11e F21.f F9.f F10.f F11.f F12B.f F14.f F18.f F25.f kd d)
def r12P (x21 : F21.FT) (x9 : F9.FT) (x10 : F10.FT) (x11 : F11.FT) (x12 : F12B.FT) (x14 : F14.FT) (x18 : F18.FT) (x25 : F25.FT) : G12 := fun () behind =>
    bif
       decide
       ((0 : Int) ≤
       (some (if (5000 : Int) < (↑behind.length : Int) then (5000 : Int) else (↑behind.length : Int))).getD
       (↑behind.length : Int) ∧
       (some (if (5000 : Int) < (↑behind.length : Int) then (5000 : Int) else (↑behind.length : Int))).getD
       (↑behind.length : Int) ≤
       (↑behind.length : Int) ∧
       (0 : Nat) + behind.length ≤ behind.length) then
      bif
       decide
       ((0 : Nat) +
       ((some (if (5000 : Int) < (↑behind.length : Int) then (5000 : Int) else (↑behind.length : Int))).getD
       (↑behind.length : Int)).toNat ≤
       behind.length) &&
       true then
       some
       (List.take
       ((some (if (5000 : Int) < (↑behind.length : Int) then (5000 : Int) else (↑behind.length : Int))).getD
       (↑behind.length : Int)).toNat
       behind,
       PUnit.unit)
      else none
    else none
theorem r12e (x21 : F21.FT) (x9 : F9.FT) (x10 : F10.FT) (x11 : F11.FT) (x12 : F12B.FT) (x14 : F14.FT) (x18 : F18.FT) (x25 : F25.FT) (kd : Unit) (d : List (Int)) : unitF (tabC Tryd.prog (tab x21 x9 x10 x11 x12 x14 x18 x25) (pls x21 x9 x10 x11 x12 x14 x18 x25) 100 12) 100 .none (u12 fun _ _ => none) (codeAt [1, 1, 1, 1, 1, 1, 1, 1, 0] (bodyOf Tryd.prog 8)) kd d = r12P x21 x9 x10 x11 x12 x14 x18 x25 kd d := by kernel_rfl
noncomputable def r12 : G12 := r12P F21.f F9.f F10.f F11.f F12B.f F14.f F18.f F25.f
noncomputable def l12 : G12 := r12
theorem ok12 : UnOk Tryd.prog (u12 l12) (codeAt [1, 1, 1, 1, 1, 1, 1, 1, 0] (bodyOf Tryd.prog 8)) :=
  blockT (p := .none) (fuel := 100) (depth := 12) mixed tabS plsP trivial (fun kd d => r12e F21.f F9.f F10.f F11.f F12B.f F14.f F18.f F25.f kd d)
def r13P (x21 : F21.FT) (x9 : F9.FT) (x10 : F10.FT) (x11 : F11.FT) (x12 : F12B.FT) (x14 : F14.FT) (x18 : F18.FT) (x25 : F25.FT) : G13 := fun () () =>
    (x9 PUnit.unit).bind fun r0 =>
      bif Option.isSome r0.fst then some (Option.getD r0.fst ([], (0 : Int), (0 : Int), [], false), PUnit.unit) else none
theorem r13e (x21 : F21.FT) (x9 : F9.FT) (x10 : F10.FT) (x11 : F11.FT) (x12 : F12B.FT) (x14 : F14.FT) (x18 : F18.FT) (x25 : F25.FT) (kd : Unit) (d : Unit) : unitF (tabC Tryd.prog (tab x21 x9 x10 x11 x12 x14 x18 x25) (pls x21 x9 x10 x11 x12 x14 x18 x25) 100 12) 100 .none (u13 fun _ _ => none) (codeAt [1, 1, 1, 1, 1, 1, 1, 1, 1, 0] (bodyOf Tryd.prog 8)) kd d = r13P x21 x9 x10 x11 x12 x14 x18 x25 kd d := by kernel_rfl
noncomputable def r13 : G13 := r13P F21.f F9.f F10.f F11.f F12B.f F14.f F18.f F25.f
noncomputable def l13 : G13 := r13
theorem ok13 : UnOk Tryd.prog (u13 l13) (codeAt [1, 1, 1, 1, 1, 1, 1, 1, 1, 0] (bodyOf Tryd.prog 8)) :=
  blockT (p := .none) (fuel := 100) (depth := 12) mixed tabS plsP trivial (fun kd d => r13e F21.f F9.f F10.f F11.f F12B.f F14.f F18.f F25.f kd d)
def r14P (x21 : F21.FT) (x9 : F9.FT) (x10 : F10.FT) (x11 : F11.FT) (x12 : F12B.FT) (x14 : F14.FT) (x18 : F18.FT) (x25 : F25.FT) : G14 := fun behind (all, (j0, j1, j2, j3, j4)) =>
    bif decide ((0 : Nat) + all.length ≤ all.length) && true then
      (x18 (List.take all.length all)).bind fun r0 =>
       bif decide ((0 : Nat) + behind.length ≤ behind.length) then
       bif decide (List.length r0.fst + (List.take behind.length behind).length ≤ (1073741824 : Nat)) then
       bif decide ((0 : Nat) + List.length r0.fst ≤ List.length r0.fst) then
       bif
       decide
       ((0 : Nat) + (List.length r0.fst + (List.take behind.length behind).length) ≤
       (List.take (List.length r0.fst) (List.drop (0 : Nat) r0.fst) ++
       List.take behind.length behind).length) &&
       true then
       (x10
       ((j0, j1, j2, j3, j4),
       List.take (List.length r0.fst + (List.take behind.length behind).length)
       (List.drop (0 : Nat)
       (List.take (List.length r0.fst) (List.drop (0 : Nat) r0.fst) ++
       List.take behind.length behind)))).bind
       fun r1 =>
       bif decide ((0 : Nat) + all.length ≤ all.length) && true then
       bif decide ((0 : Nat) + List.length r1.fst ≤ List.length r1.fst) && true then
       some
       ((List.take all.length all, List.take (List.length r1.fst) (List.drop (0 : Nat) r1.fst)), r1.snd)
       else none
       else none
       else none
       else none
       else none
       else none
    else none
theorem r14e (x21 : F21.FT) (x9 : F9.FT) (x10 : F10.FT) (x11 : F11.FT) (x12 : F12B.FT) (x14 : F14.FT) (x18 : F18.FT) (x25 : F25.FT) (kd : List (Int)) (d : List (Int) × (List (Int) × Int × Int × List (Int) × Bool)) : unitF (tabC Tryd.prog (tab x21 x9 x10 x11 x12 x14 x18 x25) (pls x21 x9 x10 x11 x12 x14 x18 x25) 100 12) 100 .none (u14 fun _ _ => none) (codeAt [1, 1, 1, 1, 1, 1, 1, 1, 1, 1, 0] (bodyOf Tryd.prog 8)) kd d = r14P x21 x9 x10 x11 x12 x14 x18 x25 kd d := by kernel_rfl
noncomputable def r14 : G14 := r14P F21.f F9.f F10.f F11.f F12B.f F14.f F18.f F25.f
noncomputable def l14 : G14 := r14
theorem ok14 : UnOk Tryd.prog (u14 l14) (codeAt [1, 1, 1, 1, 1, 1, 1, 1, 1, 1, 0] (bodyOf Tryd.prog 8)) :=
  blockT (p := .none) (fuel := 100) (depth := 12) mixed tabS plsP trivial (fun kd d => r14e F21.f F9.f F10.f F11.f F12B.f F14.f F18.f F25.f kd d)
def r15P (x21 : F21.FT) (x9 : F9.FT) (x10 : F10.FT) (x11 : F11.FT) (x12 : F12B.FT) (x14 : F14.FT) (x18 : F18.FT) (x25 : F25.FT) : G15 := fun () (own, more) =>
    bif decide ((↑more.length : Int) < (↑own.length : Int)) then
      bif decide ((0 : Nat) + more.length ≤ more.length) && true then
       some ((List.take more.length more, true), PUnit.unit)
      else none
    else
      bif
       decide
       ((0 : Int) ≤ (some (↑own.length : Int)).getD (↑more.length : Int) ∧
       (some (↑own.length : Int)).getD (↑more.length : Int) ≤ (↑more.length : Int) ∧
       (0 : Nat) + more.length ≤ more.length) then
       bif decide ((0 : Nat) + ((some (↑own.length : Int)).getD (↑more.length : Int)).toNat ≤ more.length) && true then
       bif decide ((0 : Nat) + own.length ≤ own.length) && true then
       (x12
       (List.take ((some (↑own.length : Int)).getD (↑more.length : Int)).toNat more,
       List.take own.length own)).bind
       fun r0 =>
       bif decide ((0 : Nat) + more.length ≤ more.length) && true then
       some ((List.take more.length more, !r0.fst), PUnit.unit)
       else none
       else none
       else none
      else none
theorem r15e (x21 : F21.FT) (x9 : F9.FT) (x10 : F10.FT) (x11 : F11.FT) (x12 : F12B.FT) (x14 : F14.FT) (x18 : F18.FT) (x25 : F25.FT) (kd : Unit) (d : (List (Int × List (Int))) × (List (Int × List (Int)))) : unitF (tabC Tryd.prog (tab x21 x9 x10 x11 x12 x14 x18 x25) (pls x21 x9 x10 x11 x12 x14 x18 x25) 100 12) 100 .none (u15 fun _ _ => none) (codeAt [1, 1, 1, 1, 1, 1, 1, 1, 1, 1, 1, 0, 0] (bodyOf Tryd.prog 8)) kd d = r15P x21 x9 x10 x11 x12 x14 x18 x25 kd d := by kernel_rfl
noncomputable def r15 : G15 := r15P F21.f F9.f F10.f F11.f F12B.f F14.f F18.f F25.f
noncomputable def l15 : G15 := r15
theorem ok15 : UnOk Tryd.prog (u15 l15) (codeAt [1, 1, 1, 1, 1, 1, 1, 1, 1, 1, 1, 0, 0] (bodyOf Tryd.prog 8)) :=
  blockT (p := .none) (fuel := 100) (depth := 12) mixed tabS plsP trivial (fun kd d => r15e F21.f F9.f F10.f F11.f F12B.f F14.f F18.f F25.f kd d)
def r16P (x21 : F21.FT) (x9 : F9.FT) (x10 : F10.FT) (x11 : F11.FT) (x12 : F12B.FT) (x14 : F14.FT) (x18 : F18.FT) (x25 : F25.FT) : G16 := fun () () =>
   some ([], PUnit.unit)
theorem r16e (x21 : F21.FT) (x9 : F9.FT) (x10 : F10.FT) (x11 : F11.FT) (x12 : F12B.FT) (x14 : F14.FT) (x18 : F18.FT) (x25 : F25.FT) (kd : Unit) (d : Unit) : unitF (tabC Tryd.prog (tab x21 x9 x10 x11 x12 x14 x18 x25) (pls x21 x9 x10 x11 x12 x14 x18 x25) 100 12) 100 .none (u16 fun _ _ => none) (codeAt [1, 1, 1, 1, 1, 1, 1, 1, 1, 1, 1, 1, 0] (bodyOf Tryd.prog 8)) kd d = r16P x21 x9 x10 x11 x12 x14 x18 x25 kd d := by kernel_rfl
noncomputable def r16 : G16 := r16P F21.f F9.f F10.f F11.f F12B.f F14.f F18.f F25.f
noncomputable def l16 : G16 := r16
theorem ok16 : UnOk Tryd.prog (u16 l16) (codeAt [1, 1, 1, 1, 1, 1, 1, 1, 1, 1, 1, 1, 0] (bodyOf Tryd.prog 8)) :=
  blockT (p := .none) (fuel := 100) (depth := 12) mixed tabS plsP trivial (fun kd d => r16e F21.f F9.f F10.f F11.f F12B.f F14.f F18.f F25.f kd d)
def r17P (x21 : F21.FT) (x9 : F9.FT) (x10 : F10.FT) (x11 : F11.FT) (x12 : F12B.FT) (x14 : F14.FT) (x18 : F18.FT) (x25 : F25.FT) : G17 := fun (m0, m1) () =>
    bif decide ((0 : Nat) + m1.length ≤ m1.length) && true then
      (x21 (m0, List.take m1.length m1)).bind fun r0 =>
       bif decide ((0 : Nat) + r0.fst.fst.length ≤ r0.fst.fst.length) && true then
       some ((List.take r0.fst.fst.length (List.drop (0 : Nat) r0.fst.fst), r0.fst.snd), PUnit.unit)
       else none
    else none
theorem r17e (x21 : F21.FT) (x9 : F9.FT) (x10 : F10.FT) (x11 : F11.FT) (x12 : F12B.FT) (x14 : F14.FT) (x18 : F18.FT) (x25 : F25.FT) (kd : (Int × List (Int))) (d : Unit) : unitF (tabC Tryd.prog (tab x21 x9 x10 x11 x12 x14 x18 x25) (pls x21 x9 x10 x11 x12 x14 x18 x25) 100 12) 100 .none (u17 fun _ _ => none) (codeAt [1, 1, 1, 1, 1, 1, 1, 1, 1, 1, 1, 1, 1, 0, 1, 0, 0, 1, 1, 0, 0, 1, 0] (bodyOf Tryd.prog 8)) kd d = r17P x21 x9 x10 x11 x12 x14 x18 x25 kd d := by kernel_rfl
noncomputable def r17 : G17 := r17P F21.f F9.f F10.f F11.f F12B.f F14.f F18.f F25.f
noncomputable def l17 : G17 := r17
theorem ok17 : UnOk Tryd.prog (u17 l17) (codeAt [1, 1, 1, 1, 1, 1, 1, 1, 1, 1, 1, 1, 1, 0, 1, 0, 0, 1, 1, 0, 0, 1, 0] (bodyOf Tryd.prog 8)) :=
  blockT (p := .none) (fuel := 100) (depth := 12) mixed tabS plsP trivial (fun kd d => r17e F21.f F9.f F10.f F11.f F12B.f F14.f F18.f F25.f kd d)
def r18P (x21 : F21.FT) (x9 : F9.FT) (x10 : F10.FT) (x11 : F11.FT) (x12 : F12B.FT) (x14 : F14.FT) (x18 : F18.FT) (x25 : F25.FT) : G18 := fun b made =>
    bif decide ((0 : Nat) + b.length ≤ b.length) then
      bif decide (made.length + (List.take b.length b).length ≤ (1073741824 : Nat)) then
       bif decide ((0 : Nat) + made.length ≤ made.length) then
       bif
       decide
       ((0 : Nat) + (made.length + (List.take b.length b).length) ≤
       (List.take made.length made ++ List.take b.length b).length) &&
       true then
       some
       (List.take (made.length + (List.take b.length b).length)
       (List.drop (0 : Nat) (List.take made.length made ++ List.take b.length b)),
       PUnit.unit)
       else none
       else none
      else none
    else none
theorem r18e (x21 : F21.FT) (x9 : F9.FT) (x10 : F10.FT) (x11 : F11.FT) (x12 : F12B.FT) (x14 : F14.FT) (x18 : F18.FT) (x25 : F25.FT) (kd : List (Int)) (d : List (Int)) : unitF (tabC Tryd.prog (tab x21 x9 x10 x11 x12 x14 x18 x25) (pls x21 x9 x10 x11 x12 x14 x18 x25) 100 12) 100 .none (u18 fun _ _ => none) (codeAt [1, 1, 1, 1, 1, 1, 1, 1, 1, 1, 1, 1, 1, 0, 1, 0, 0, 1, 1, 0, 0, 1, 1, 1] (bodyOf Tryd.prog 8)) kd d = r18P x21 x9 x10 x11 x12 x14 x18 x25 kd d := by kernel_rfl
noncomputable def r18 : G18 := r18P F21.f F9.f F10.f F11.f F12B.f F14.f F18.f F25.f
noncomputable def l18 : G18 := r18
theorem ok18 : UnOk Tryd.prog (u18 l18) (codeAt [1, 1, 1, 1, 1, 1, 1, 1, 1, 1, 1, 1, 1, 0, 1, 0, 0, 1, 1, 0, 0, 1, 1, 1] (bodyOf Tryd.prog 8)) :=
  blockT (p := .none) (fuel := 100) (depth := 12) mixed tabS plsP trivial (fun kd d => r18e F21.f F9.f F10.f F11.f F12B.f F14.f F18.f F25.f kd d)
def r19P (x21 : F21.FT) (x9 : F9.FT) (x10 : F10.FT) (x11 : F11.FT) (x12 : F12B.FT) (x14 : F14.FT) (x18 : F18.FT) (x25 : F25.FT) (l17 : G17) (l18 : G18) : ((List (Int × List (Int))) × Int) → (List (Int) × Int) → Option ((List (Int) × Int) ⊕ ((Int × Bool × List (Int)) × Unit)) := fun (t122, t123) (made, t124) =>
    bif decide (t124 < t123) then
      bif decide ((0 : Int) ≤ t124 ∧ t124 < (↑t122.length : Int) ∧ (0 : Nat) < t122.length) then
       bif decide ((0 : Nat) + t124.toNat < t122.length) then
       bif
       decide
       ((0 : Nat) + List.length (t122.getD ((0 : Nat) + t124.toNat) ((0 : Int), [])).snd ≤
       List.length (t122.getD ((0 : Nat) + t124.toNat) ((0 : Int), [])).snd) &&
       true then
       (l17
       ((t122.getD ((0 : Nat) + t124.toNat) ((0 : Int), [])).fst,
       List.take (List.length (t122.getD ((0 : Nat) + t124.toNat) ((0 : Int), [])).snd)
       (List.drop (0 : Nat) (t122.getD ((0 : Nat) + t124.toNat) ((0 : Int), [])).snd))
       PUnit.unit).bind
       fun r0 =>
       bif r0.fst.snd != (0 : Int) then some (Sum.inr (((1 : Int), false, []), PUnit.unit))
       else
       bif decide ((0 : Nat) + r0.fst.fst.length ≤ r0.fst.fst.length) && true then
       bif decide ((0 : Nat) + made.length ≤ made.length) && true then
       (l18 (List.take r0.fst.fst.length (List.drop (0 : Nat) r0.fst.fst)) (List.take made.length made)).bind
       fun r1 =>
       bif decide ((0 : Nat) + List.length r1.fst ≤ List.length r1.fst) && true then
       some
       (Sum.inl
       (List.take (List.length r1.fst) (List.drop (0 : Nat) r1.fst),
       IntKind.i64.wrap (t124 + (1 : Int))))
       else none
       else none
       else none
       else none
       else none
      else none
    else
      bif decide ((0 : Nat) + made.length ≤ made.length) && true then
       some (Sum.inr (((0 : Int), false, List.take made.length made), PUnit.unit))
      else none
theorem r19e (x21 : F21.FT) (x9 : F9.FT) (x10 : F10.FT) (x11 : F11.FT) (x12 : F12B.FT) (x14 : F14.FT) (x18 : F18.FT) (x25 : F25.FT) (l17 : G17) (l18 : G18) (kd : (List (Int × List (Int))) × Int) (d : List (Int) × Int) : roundF (tabC Tryd.prog (tab x21 x9 x10 x11 x12 x14 x18 x25) (pls x21 x9 x10 x11 x12 x14 x18 x25) 100 12) 100 (.node .none (.node .none (.node (.node (.node .none (.node (.unit (u17 l17)) (.node .none (.unit (u18 l18))))) .none) .none))) (u19 fun _ _ => none) (codeAt [1, 1, 1, 1, 1, 1, 1, 1, 1, 1, 1, 1, 1, 0, 1, 0, 0] (bodyOf Tryd.prog 8)) kd d = r19P x21 x9 x10 x11 x12 x14 x18 x25 l17 l18 kd d := by kernel_rfl
noncomputable def r19 : ((List (Int × List (Int))) × Int) → (List (Int) × Int) → Option ((List (Int) × Int) ⊕ ((Int × Bool × List (Int)) × Unit)) := r19P F21.f F9.f F10.f F11.f F12B.f F14.f F18.f F25.f l17 l18
noncomputable def l19 : G19 := fun kd d => iterO (r19 kd) d
theorem ok19 : UnOk Tryd.prog (u19 l19) (codeAt [1, 1, 1, 1, 1, 1, 1, 1, 1, 1, 1, 1, 1, 0, 1, 0] (bodyOf Tryd.prog 8)) :=
  loopT (p := (.node .none (.node .none (.node (.node (.node .none (.node (.unit (u17 l17)) (.node .none (.unit (u18 l18))))) .none) .none)))) (c := codeAt [1, 1, 1, 1, 1, 1, 1, 1, 1, 1, 1, 1, 1, 0, 1, 0, 0] (bodyOf Tryd.prog 8)) (fuel := 100) (depth := 12) mixed tabS plsP (by kernel_rfl) (planOk_of (.node .none (.node .none (.node (.node (.node .none (.node (.unit (u17 l17)) (.node .none (.unit (u18 l18))))) .none) .none))) _ [([1, 1, 0, 0, 1, 0], u17 l17), ([1, 1, 0, 0, 1, 1, 1], u18 l18)] rfl ⟨ok17, ok18, trivial⟩) (by kernel_rfl) (fun kd d => r19e F21.f F9.f F10.f F11.f F12B.f F14.f F18.f F25.f l17 l18 kd d) rfl
def r20P (x21 : F21.FT) (x9 : F9.FT) (x10 : F10.FT) (x11 : F11.FT) (x12 : F12B.FT) (x14 : F14.FT) (x18 : F18.FT) (x25 : F25.FT) : G20 := fun behind all =>
    bif decide ((0 : Nat) + all.length ≤ all.length) && true then
      (x18 (List.take all.length all)).bind fun r0 =>
       bif decide ((0 : Nat) + behind.length ≤ behind.length) then
       bif decide (List.length r0.fst + (List.take behind.length behind).length ≤ (1073741824 : Nat)) then
       bif decide ((0 : Nat) + List.length r0.fst ≤ List.length r0.fst) then
       bif
       decide
       ((0 : Nat) + (List.length r0.fst + (List.take behind.length behind).length) ≤
       (List.take (List.length r0.fst) (List.drop (0 : Nat) r0.fst) ++
       List.take behind.length behind).length) &&
       true then
       some
       (List.take (List.length r0.fst + (List.take behind.length behind).length)
       (List.drop (0 : Nat)
       (List.take (List.length r0.fst) (List.drop (0 : Nat) r0.fst) ++ List.take behind.length behind)),
       PUnit.unit)
       else none
       else none
       else none
       else none
    else none
theorem r20e (x21 : F21.FT) (x9 : F9.FT) (x10 : F10.FT) (x11 : F11.FT) (x12 : F12B.FT) (x14 : F14.FT) (x18 : F18.FT) (x25 : F25.FT) (kd : List (Int)) (d : List (Int)) : unitF (tabC Tryd.prog (tab x21 x9 x10 x11 x12 x14 x18 x25) (pls x21 x9 x10 x11 x12 x14 x18 x25) 100 12) 100 .none (u20 fun _ _ => none) (codeAt [1, 1, 1, 1, 1, 1, 1, 1, 1, 1, 1, 1, 1, 1, 0] (bodyOf Tryd.prog 8)) kd d = r20P x21 x9 x10 x11 x12 x14 x18 x25 kd d := by kernel_rfl
noncomputable def r20 : G20 := r20P F21.f F9.f F10.f F11.f F12B.f F14.f F18.f F25.f
noncomputable def l20 : G20 := r20
theorem ok20 : UnOk Tryd.prog (u20 l20) (codeAt [1, 1, 1, 1, 1, 1, 1, 1, 1, 1, 1, 1, 1, 1, 0] (bodyOf Tryd.prog 8)) :=
  blockT (p := .none) (fuel := 100) (depth := 12) mixed tabS plsP trivial (fun kd d => r20e F21.f F9.f F10.f F11.f F12B.f F14.f F18.f F25.f kd d)
def r21P (x21 : F21.FT) (x9 : F9.FT) (x10 : F10.FT) (x11 : F11.FT) (x12 : F12B.FT) (x14 : F14.FT) (x18 : F18.FT) (x25 : F25.FT) : G21 := fun () ((fault0, fault1), (j0, j1, j2, j3, j4)) =>
    (x11 (j0, j1, j2, j3, j4)).bind fun r0 => some (PUnit.unit, (r0.fst.fst.fst, r0.fst.fst.snd), r0.snd)
theorem r21e (x21 : F21.FT) (x9 : F9.FT) (x10 : F10.FT) (x11 : F11.FT) (x12 : F12B.FT) (x14 : F14.FT) (x18 : F18.FT) (x25 : F25.FT) (kd : Unit) (d : (Int × Int) × (List (Int) × Int × Int × List (Int) × Bool)) : unitF (tabC Tryd.prog (tab x21 x9 x10 x11 x12 x14 x18 x25) (pls x21 x9 x10 x11 x12 x14 x18 x25) 100 12) 100 .none (u21 fun _ _ => none) (codeAt [1, 1, 1, 1, 1, 1, 1, 1, 1, 1, 1, 1, 1, 1, 1, 0] (bodyOf Tryd.prog 8)) kd d = r21P x21 x9 x10 x11 x12 x14 x18 x25 kd d := by kernel_rfl
noncomputable def r21 : G21 := r21P F21.f F9.f F10.f F11.f F12B.f F14.f F18.f F25.f
noncomputable def l21 : G21 := r21
theorem ok21 : UnOk Tryd.prog (u21 l21) (codeAt [1, 1, 1, 1, 1, 1, 1, 1, 1, 1, 1, 1, 1, 1, 1, 0] (bodyOf Tryd.prog 8)) :=
  blockT (p := .none) (fuel := 100) (depth := 12) mixed tabS plsP trivial (fun kd d => r21e F21.f F9.f F10.f F11.f F12B.f F14.f F18.f F25.f kd d)
def r22P (x21 : F21.FT) (x9 : F9.FT) (x10 : F10.FT) (x11 : F11.FT) (x12 : F12B.FT) (x14 : F14.FT) (x18 : F18.FT) (x25 : F25.FT) : G22 := fun (fault0, fault1) ((j0, j1, j2, j3, j4), made, whole) =>
    bif decide ((0 : Nat) + whole.length ≤ whole.length) && true then
      bif decide ((0 : Nat) + made.length ≤ made.length) && true then
       (x25 (List.take whole.length whole, List.take made.length made)).bind fun r0 =>
       bif !r0.fst then some (true, j0, j1, j2, j3, j4)
       else
       bif fault0 == (0 : Int) then
       (x14 (j0, j1, j2, j3, j4)).bind fun r1 =>
       bif IntKind.i64.wrap ((↑made.length : Int) + r1.fst) != (↑whole.length : Int) then some (true, r1.snd)
       else
       bif fault0 != (0 : Int) then (x14 r1.snd).bind fun r2 => some (r2.fst != (0 : Int), r2.snd)
       else some (false, r1.snd)
       else
       bif fault0 != (0 : Int) then (x14 (j0, j1, j2, j3, j4)).bind fun r1 => some (r1.fst != (0 : Int), r1.snd)
       else some (false, j0, j1, j2, j3, j4)
      else none
    else none
theorem r22e (x21 : F21.FT) (x9 : F9.FT) (x10 : F10.FT) (x11 : F11.FT) (x12 : F12B.FT) (x14 : F14.FT) (x18 : F18.FT) (x25 : F25.FT) (kd : (Int × Int)) (d : (List (Int) × Int × Int × List (Int) × Bool) × List (Int) × List (Int)) : unitF (tabC Tryd.prog (tab x21 x9 x10 x11 x12 x14 x18 x25) (pls x21 x9 x10 x11 x12 x14 x18 x25) 100 12) 100 .none (u22 fun _ _ => none) (codeAt [1, 1, 1, 1, 1, 1, 1, 1, 1, 1, 1, 1, 1, 1, 1, 1, 0, 0] (bodyOf Tryd.prog 8)) kd d = r22P x21 x9 x10 x11 x12 x14 x18 x25 kd d := by kernel_rfl
noncomputable def r22 : G22 := r22P F21.f F9.f F10.f F11.f F12B.f F14.f F18.f F25.f
noncomputable def l22 : G22 := r22
theorem ok22 : UnOk Tryd.prog (u22 l22) (codeAt [1, 1, 1, 1, 1, 1, 1, 1, 1, 1, 1, 1, 1, 1, 1, 1, 0, 0] (bodyOf Tryd.prog 8)) :=
  blockT (p := .none) (fuel := 100) (depth := 12) mixed tabS plsP trivial (fun kd d => r22e F21.f F9.f F10.f F11.f F12B.f F14.f F18.f F25.f kd d)
def fP (x21 : F21.FT) (x9 : F9.FT) (x10 : F10.FT) (x11 : F11.FT) (x12 : F12B.FT) (x14 : F14.FT) (x18 : F18.FT) (x25 : F25.FT) (l7 : G7) (l8 : G8) (l9 : G9) (l10 : G10) (l11 : G11) (l12 : G12) (l13 : G13) (l14 : G14) (l15 : G15) (l16 : G16) (l19 : G19) (l20 : G20) (l21 : G21) (l22 : G22) : FT := fun (l, behind) =>
    bif decide ((0 : Nat) + l.length ≤ l.length) && true then
      (l7 (List.take l.length l, (↑l.length : Int)) ([], [], (0 : Int))).bind fun r0 =>
       bif decide (r0.fst.fst = (0 : Int)) then
       (l8 PUnit.unit PUnit.unit).bind fun r1 =>
       bif decide ((0 : Nat) + List.length r0.fst.snd.snd.snd ≤ List.length r0.fst.snd.snd.snd) && true then
       (l9 PUnit.unit
       (List.take (List.length r0.fst.snd.snd.snd) (List.drop (0 : Nat) r0.fst.snd.snd.snd), r1.fst)).bind
       fun r2 =>
       (l10 PUnit.unit r2.snd).bind fun r3 =>
       bif decide ((0 : Nat) + r0.fst.snd.snd.fst.length ≤ r0.fst.snd.snd.fst.length) && true then
       bif decide ((0 : Nat) + List.length r2.fst.snd ≤ List.length r2.fst.snd) && true then
       (l11 (List.take r0.fst.snd.snd.fst.length (List.drop (0 : Nat) r0.fst.snd.snd.fst), r3.fst)
       (r3.snd, List.take (List.length r2.fst.snd) (List.drop (0 : Nat) r2.fst.snd))).bind
       fun r4 =>
       bif r4.fst then some (false, PUnit.unit)
       else
       bif decide ((0 : Nat) + behind.length ≤ behind.length) && true then
       (l12 PUnit.unit (List.take behind.length behind)).bind fun r5 =>
       (l13 PUnit.unit PUnit.unit).bind fun r6 =>
       bif decide ((0 : Nat) + List.length r5.fst ≤ List.length r5.fst) && true then
       bif decide ((0 : Nat) + r2.fst.fst.length ≤ r2.fst.fst.length) && true then
       (l14 (List.take (List.length r5.fst) (List.drop (0 : Nat) r5.fst))
       (List.take r2.fst.fst.length (List.drop (0 : Nat) r2.fst.fst), r6.fst)).bind
       fun r7 =>
       bif
       decide ((0 : Nat) + r0.fst.snd.snd.fst.length ≤ r0.fst.snd.snd.fst.length) &&
       true then
       bif
       decide ((0 : Nat) + List.length r7.fst.snd ≤ List.length r7.fst.snd) &&
       true then
       (l15 PUnit.unit
       (List.take r0.fst.snd.snd.fst.length
       (List.drop (0 : Nat) r0.fst.snd.snd.fst),
       List.take (List.length r7.fst.snd)
       (List.drop (0 : Nat) r7.fst.snd))).bind
       fun r8 =>
       bif r8.fst.snd then some (false, PUnit.unit)
       else
       (l16 PUnit.unit PUnit.unit).bind fun r9 =>
       bif
       decide ((0 : Nat) + r8.fst.fst.length ≤ r8.fst.fst.length) &&
       true then
       bif
       decide ((0 : Nat) + List.length r9.fst ≤ List.length r9.fst) &&
       true then
       (l19
       (List.take r8.fst.fst.length (List.drop (0 : Nat) r8.fst.fst),
       (↑r8.fst.fst.length : Int))
       (List.take (List.length r9.fst) (List.drop (0 : Nat) r9.fst),
       (0 : Int))).bind
       fun r10 =>
       bif decide (r10.fst.fst = (0 : Int)) then
       bif
       decide
       ((0 : Nat) + List.length r5.fst ≤ List.length r5.fst) &&
       true then
       bif
       decide
       ((0 : Nat) + r7.fst.fst.length ≤ r7.fst.fst.length) &&
       true then
       (l20
       (List.take (List.length r5.fst)
       (List.drop (0 : Nat) r5.fst))
       (List.take r7.fst.fst.length
       (List.drop (0 : Nat) r7.fst.fst))).bind
       fun r11 =>
       (l21 PUnit.unit (r3.fst, r7.snd)).bind fun r12 =>
       bif
       decide
       ((0 : Nat) + List.length r10.fst.snd.snd ≤
       List.length r10.fst.snd.snd) &&
       true then
       bif
       decide
       ((0 : Nat) + List.length r11.fst ≤
       List.length r11.fst) &&
       true then
       (l22 r12.snd.fst
       (r12.snd.snd,
       List.take (List.length r10.fst.snd.snd)
       (List.drop (0 : Nat) r10.fst.snd.snd),
       List.take (List.length r11.fst)
       (List.drop (0 : Nat) r11.fst))).bind
       fun r13 =>
       bif r13.fst then some (false, PUnit.unit)
       else some (true, PUnit.unit)
       else none
       else none
       else none
       else none
       else
       bif decide (r10.fst.fst = (1 : Int)) then
       some (r10.fst.snd.fst, PUnit.unit)
       else none
       else none
       else none
       else none
       else none
       else none
       else none
       else none
       else none
       else none
       else none
       else bif decide (r0.fst.fst = (1 : Int)) then some (r0.fst.snd.fst, PUnit.unit) else none
    else none
theorem fe (x21 : F21.FT) (x9 : F9.FT) (x10 : F10.FT) (x11 : F11.FT) (x12 : F12B.FT) (x14 : F14.FT) (x18 : F18.FT) (x25 : F25.FT) (l7 : G7) (l8 : G8) (l9 : G9) (l10 : G10) (l11 : G11) (l12 : G12) (l13 : G13) (l14 : G14) (l15 : G15) (l16 : G16) (l19 : G19) (l20 : G20) (l21 : G21) (l22 : G22) (d : (List (Int × List (Int))) × List (Int)) : bodyF (tabC Tryd.prog (tab x21 x9 x10 x11 x12 x14 x18 x25) ((8, (.node .none (.node .none (.node .none (.node (.node .none (.node (.unit (u7 l7)) .none)) (.node (.unit (u8 l8)) (.node (.unit (u9 l9)) (.node (.unit (u10 l10)) (.node (.node (.unit (u11 l11)) .none) (.node (.unit (u12 l12)) (.node (.unit (u13 l13)) (.node (.unit (u14 l14)) (.node (.node (.unit (u15 l15)) .none) (.node (.unit (u16 l16)) (.node (.node .none (.node (.unit (u19 l19)) .none)) (.node (.unit (u20 l20)) (.node (.unit (u21 l21)) (.node (.node (.unit (u22 l22)) .none) .none)))))))))))))))))) :: pls x21 x9 x10 x11 x12 x14 x18 x25) 100 12) 100 8 i o d = fP x21 x9 x10 x11 x12 x14 x18 x25 l7 l8 l9 l10 l11 l12 l13 l14 l15 l16 l19 l20 l21 l22 d := by kernel_rfl
noncomputable def f : FT := fP F21.f F9.f F10.f F11.f F12B.f F14.f F18.f F25.f l7 l8 l9 l10 l11 l12 l13 l14 l15 l16 l19 l20 l21 l22
def plan (l7 : G7) (l8 : G8) (l9 : G9) (l10 : G10) (l11 : G11) (l12 : G12) (l13 : G13) (l14 : G14) (l15 : G15) (l16 : G16) (l19 : G19) (l20 : G20) (l21 : G21) (l22 : G22) : Plan := (.node .none (.node .none (.node .none (.node (.node .none (.node (.unit (u7 l7)) .none)) (.node (.unit (u8 l8)) (.node (.unit (u9 l9)) (.node (.unit (u10 l10)) (.node (.node (.unit (u11 l11)) .none) (.node (.unit (u12 l12)) (.node (.unit (u13 l13)) (.node (.unit (u14 l14)) (.node (.node (.unit (u15 l15)) .none) (.node (.unit (u16 l16)) (.node (.node .none (.node (.unit (u19 l19)) .none)) (.node (.unit (u20 l20)) (.node (.unit (u21 l21)) (.node (.node (.unit (u22 l22)) .none) .none)))))))))))))))))
theorem planOk : PlanOk Tryd.prog (plan l7 l8 l9 l10 l11 l12 l13 l14 l15 l16 l19 l20 l21 l22) (bodyOf Tryd.prog 8) := (planOk_of (plan l7 l8 l9 l10 l11 l12 l13 l14 l15 l16 l19 l20 l21 l22) _ [([1, 1, 1, 0, 1, 0], u7 l7), ([1, 1, 1, 1, 0], u8 l8), ([1, 1, 1, 1, 1, 0], u9 l9), ([1, 1, 1, 1, 1, 1, 0], u10 l10), ([1, 1, 1, 1, 1, 1, 1, 0, 0], u11 l11), ([1, 1, 1, 1, 1, 1, 1, 1, 0], u12 l12), ([1, 1, 1, 1, 1, 1, 1, 1, 1, 0], u13 l13), ([1, 1, 1, 1, 1, 1, 1, 1, 1, 1, 0], u14 l14), ([1, 1, 1, 1, 1, 1, 1, 1, 1, 1, 1, 0, 0], u15 l15), ([1, 1, 1, 1, 1, 1, 1, 1, 1, 1, 1, 1, 0], u16 l16), ([1, 1, 1, 1, 1, 1, 1, 1, 1, 1, 1, 1, 1, 0, 1, 0], u19 l19), ([1, 1, 1, 1, 1, 1, 1, 1, 1, 1, 1, 1, 1, 1, 0], u20 l20), ([1, 1, 1, 1, 1, 1, 1, 1, 1, 1, 1, 1, 1, 1, 1, 0], u21 l21), ([1, 1, 1, 1, 1, 1, 1, 1, 1, 1, 1, 1, 1, 1, 1, 1, 0, 0], u22 l22)] rfl ⟨ok7, ok8, ok9, ok10, ok11, ok12, ok13, ok14, ok15, ok16, ok19, ok20, ok21, ok22, trivial⟩)
theorem meets : MeetsF Tryd.prog 8 ⟨i, o, f⟩ :=
  funcT (fuel := 100) (depth := 12) (pl := (8, plan l7 l8 l9 l10 l11 l12 l13 l14 l15 l16 l19 l20 l21 l22) :: pls F21.f F9.f F10.f F11.f F12B.f F14.f F18.f F25.f) mixed tabS ⟨planOk, plsP⟩ (fun d => fe F21.f F9.f F10.f F11.f F12B.f F14.f F18.f F25.f l7 l8 l9 l10 l11 l12 l13 l14 l15 l16 l19 l20 l21 l22 d)
theorem spec : SpecOk Tryd.prog (fun _ => none) 8 (specF ⟨i, o, f⟩) := specF_ok (by kernel_rfl) meets
end Go.Proofs.YtnmgbheaabdhlaaDoor.F8
