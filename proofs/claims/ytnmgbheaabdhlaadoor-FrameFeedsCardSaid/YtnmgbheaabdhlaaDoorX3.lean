/- What comes of function 21 of this program, (consulate.frame.Message).Bytes, as the engine gives it. -/
import Derived.Test.YtnmgbheaabdhlaaDoorChecked
import Derived.Test.YtnmgbheaabdhlaaDoorZO
import Derived.Test.YtnmgbheaabdhlaaDoorX2
import Derived.Test.YtnmgbheaabdhlaaDoorX1
namespace Go.Proofs.YtnmgbheaabdhlaaDoor.F21
open Go Go.Proofs Go.Proofs.YtnmgbheaabdhlaaDoor Go.RowKit Go.Proofs.YtnmgbheaabdhlaaDoor.Sx
set_option linter.unusedVariables false
set_option maxRecDepth 100000
def tab (x39 : F39.FT) (x43 : F43.FT) (l42_1 : F42.G1) : List (FuncId × Sx.Spec) := [(39, specF ⟨F39.i, F39.o, x39⟩), (43, specF ⟨F43.i, F43.o, x43⟩)]
def pls (x39 : F39.FT) (x43 : F43.FT) (l42_1 : F42.G1) : List (FuncId × Plan) := [(42, F42.plan l42_1)]
@[reducible] def k1 : Sh := .pt true 52 (.sc (.int .u8) (.sl true 5 (.sc (.int .u8) .nil) .nil)) (.sc (.int .i64) .nil)
@[reducible] def i1 : Sh := .nil
@[reducible] def o1 : Sh := .sc .bool .nil
abbrev G1 := ((Int × List (Int)) × Int) → Unit → Option (Bool × Unit)
def u1 (F : G1) : Un := ⟨63, [1, 4], k1, [], i1, [10], o1, [1, 4], [(.normal, [true])], F⟩
@[reducible] def k2 : Sh := .nil
@[reducible] def i2 : Sh := .nil
@[reducible] def o2 : Sh := .sl true 5 (.sc (.int .u8) .nil) .nil
abbrev G2 := Unit → Unit → Option (List (Int) × Unit)
def u2 (F : G2) : Un := ⟨63, [], k2, [], i2, [5], o2, [1, 4], [(.normal, [true])], F⟩
@[reducible] def k3 : Sh := .pt true 52 (.sc (.int .u8) (.sl true 5 (.sc (.int .u8) .nil) .nil)) (.sc (.int .i64) .nil)
@[reducible] def i3 : Sh := .sl true 5 (.sc (.int .u8) .nil) .nil
@[reducible] def o3 : Sh := .sl true 5 (.sc (.int .u8) .nil) (.sc (.int .i64) .nil)
abbrev G3 := ((Int × List (Int)) × Int) → List (Int) → Option ((List (Int) × Int) × Unit)
def u3 (F : G3) : Un := ⟨63, [1, 4], k3, [5], i3, [2, 3], o3, [], [(.normal, [true, true])], F⟩
@[reducible] def i : Sh := .ag none (.sc (.int .u8) (.sl false 5 (.sc (.int .u8) .nil) .nil)) .nil
@[reducible] def o : Sh := .sl true 5 (.sc (.int .u8) .nil) (.sc (.int .i64) .nil)
abbrev FT := ((Int × List (Int))) → Option ((List (Int) × Int) × Unit)
theorem tabS : AllS Tryd.prog (tab F39.f F43.f F42.l1) := ⟨F39.spec, F43.spec, trivial⟩
theorem plsP : AllP Tryd.prog (pls F39.f F43.f F42.l1) := ⟨F42.planOk, trivial⟩
theorem mixed : Tryd.prog.follows .mixedOrders = true := by kernel_rfl
def r1P (x39 : F39.FT) (x43 : F43.FT) (l42_1 : F42.G1) : G1 := fun ((m0, m1), n) () =>
    bif decide (m0 ≥ (1 : Int)) then
      bif !decide (m0 ≤ (5 : Int)) then some (true, PUnit.unit)
      else
       bif decide ((0 : Int) ≤ m0 ∧ m0 < (6 : Int)) then
       bif m0.toNat.beq (0 : Nat) then
       bif decide (n < (0 : Int)) then some (true, PUnit.unit)
       else
       bif decide ((0 : Int) ≤ m0 ∧ m0 < (6 : Int)) then
       bif m0.toNat.beq (0 : Nat) then
       bif decide (n > (0 : Int)) then
       bif decide ((0 : Int) ≤ m0 ∧ m0 < (6 : Int)) then
       bif m0.toNat.beq (0 : Nat) then some (true, PUnit.unit)
       else
       bif m0.toNat.beq (1 : Nat) then some (false, PUnit.unit)
       else
       bif m0.toNat.beq (2 : Nat) then some (false, PUnit.unit)
       else
       bif m0.toNat.beq (3 : Nat) then some (false, PUnit.unit)
       else
       bif m0.toNat.beq (4 : Nat) then some (true, PUnit.unit)
       else bif m0.toNat.beq (5 : Nat) then some (true, PUnit.unit) else none
       else none
       else some (false, PUnit.unit)
       else
       bif m0.toNat.beq (1 : Nat) then
       bif decide (n > (4096 : Int)) then
       bif decide ((0 : Int) ≤ m0 ∧ m0 < (6 : Int)) then
       bif m0.toNat.beq (0 : Nat) then some (true, PUnit.unit)
       else
       bif m0.toNat.beq (1 : Nat) then some (false, PUnit.unit)
       else
       bif m0.toNat.beq (2 : Nat) then some (false, PUnit.unit)
       else
       bif m0.toNat.beq (3 : Nat) then some (false, PUnit.unit)
       else
       bif m0.toNat.beq (4 : Nat) then some (true, PUnit.unit)
       else bif m0.toNat.beq (5 : Nat) then some (true, PUnit.unit) else none
       else none
       else some (false, PUnit.unit)
       else
       bif m0.toNat.beq (2 : Nat) then
       bif decide (n > (4096 : Int)) then
       bif decide ((0 : Int) ≤ m0 ∧ m0 < (6 : Int)) then
       bif m0.toNat.beq (0 : Nat) then some (true, PUnit.unit)
       else
       bif m0.toNat.beq (1 : Nat) then some (false, PUnit.unit)
       else
       bif m0.toNat.beq (2 : Nat) then some (false, PUnit.unit)
       else
       bif m0.toNat.beq (3 : Nat) then some (false, PUnit.unit)
       else
       bif m0.toNat.beq (4 : Nat) then some (true, PUnit.unit)
       else bif m0.toNat.beq (5 : Nat) then some (true, PUnit.unit) else none
       else none
       else some (false, PUnit.unit)
       else
       bif m0.toNat.beq (3 : Nat) then
       bif decide (n > (4096 : Int)) then
       bif decide ((0 : Int) ≤ m0 ∧ m0 < (6 : Int)) then
       bif m0.toNat.beq (0 : Nat) then some (true, PUnit.unit)
       else
       bif m0.toNat.beq (1 : Nat) then some (false, PUnit.unit)
       else
       bif m0.toNat.beq (2 : Nat) then some (false, PUnit.unit)
       else
       bif m0.toNat.beq (3 : Nat) then some (false, PUnit.unit)
       else
       bif m0.toNat.beq (4 : Nat) then some (true, PUnit.unit)
       else bif m0.toNat.beq (5 : Nat) then some (true, PUnit.unit) else none
       else none
       else some (false, PUnit.unit)
       else
       bif m0.toNat.beq (4 : Nat) then
       bif decide (n > (19 : Int)) then
       bif decide ((0 : Int) ≤ m0 ∧ m0 < (6 : Int)) then
       bif m0.toNat.beq (0 : Nat) then some (true, PUnit.unit)
       else
       bif m0.toNat.beq (1 : Nat) then some (false, PUnit.unit)
       else
       bif m0.toNat.beq (2 : Nat) then some (false, PUnit.unit)
       else
       bif m0.toNat.beq (3 : Nat) then some (false, PUnit.unit)
       else
       bif m0.toNat.beq (4 : Nat) then some (true, PUnit.unit)
       else bif m0.toNat.beq (5 : Nat) then some (true, PUnit.unit) else none
       else none
       else some (false, PUnit.unit)
       else
       bif m0.toNat.beq (5 : Nat) then
       bif decide (n > (23 : Int)) then
       bif decide ((0 : Int) ≤ m0 ∧ m0 < (6 : Int)) then
       bif m0.toNat.beq (0 : Nat) then some (true, PUnit.unit)
       else
       bif m0.toNat.beq (1 : Nat) then some (false, PUnit.unit)
       else
       bif m0.toNat.beq (2 : Nat) then some (false, PUnit.unit)
       else
       bif m0.toNat.beq (3 : Nat) then some (false, PUnit.unit)
       else
       bif m0.toNat.beq (4 : Nat) then some (true, PUnit.unit)
       else bif m0.toNat.beq (5 : Nat) then some (true, PUnit.unit) else none
       else none
       else some (false, PUnit.unit)
       else none
       else none
       else
       bif m0.toNat.beq (1 : Nat) then
       bif decide (n < (29 : Int)) then some (true, PUnit.unit)
       else
       bif decide ((0 : Int) ≤ m0 ∧ m0 < (6 : Int)) then
       bif m0.toNat.beq (0 : Nat) then
       bif decide (n > (0 : Int)) then
       bif decide ((0 : Int) ≤ m0 ∧ m0 < (6 : Int)) then
       bif m0.toNat.beq (0 : Nat) then some (true, PUnit.unit)
       else
       bif m0.toNat.beq (1 : Nat) then some (false, PUnit.unit)
       else
       bif m0.toNat.beq (2 : Nat) then some (false, PUnit.unit)
       else
       bif m0.toNat.beq (3 : Nat) then some (false, PUnit.unit)
       else
       bif m0.toNat.beq (4 : Nat) then some (true, PUnit.unit)
       else bif m0.toNat.beq (5 : Nat) then some (true, PUnit.unit) else none
       else none
       else some (false, PUnit.unit)
       else
       bif m0.toNat.beq (1 : Nat) then
       bif decide (n > (4096 : Int)) then
       bif decide ((0 : Int) ≤ m0 ∧ m0 < (6 : Int)) then
       bif m0.toNat.beq (0 : Nat) then some (true, PUnit.unit)
       else
       bif m0.toNat.beq (1 : Nat) then some (false, PUnit.unit)
       else
       bif m0.toNat.beq (2 : Nat) then some (false, PUnit.unit)
       else
       bif m0.toNat.beq (3 : Nat) then some (false, PUnit.unit)
       else
       bif m0.toNat.beq (4 : Nat) then some (true, PUnit.unit)
       else bif m0.toNat.beq (5 : Nat) then some (true, PUnit.unit) else none
       else none
       else some (false, PUnit.unit)
       else
       bif m0.toNat.beq (2 : Nat) then
       bif decide (n > (4096 : Int)) then
       bif decide ((0 : Int) ≤ m0 ∧ m0 < (6 : Int)) then
       bif m0.toNat.beq (0 : Nat) then some (true, PUnit.unit)
       else
       bif m0.toNat.beq (1 : Nat) then some (false, PUnit.unit)
       else
       bif m0.toNat.beq (2 : Nat) then some (false, PUnit.unit)
       else
       bif m0.toNat.beq (3 : Nat) then some (false, PUnit.unit)
       else
       bif m0.toNat.beq (4 : Nat) then some (true, PUnit.unit)
       else bif m0.toNat.beq (5 : Nat) then some (true, PUnit.unit) else none
       else none
       else some (false, PUnit.unit)
       else
       bif m0.toNat.beq (3 : Nat) then
       bif decide (n > (4096 : Int)) then
       bif decide ((0 : Int) ≤ m0 ∧ m0 < (6 : Int)) then
       bif m0.toNat.beq (0 : Nat) then some (true, PUnit.unit)
       else
       bif m0.toNat.beq (1 : Nat) then some (false, PUnit.unit)
       else
       bif m0.toNat.beq (2 : Nat) then some (false, PUnit.unit)
       else
       bif m0.toNat.beq (3 : Nat) then some (false, PUnit.unit)
       else
       bif m0.toNat.beq (4 : Nat) then some (true, PUnit.unit)
       else bif m0.toNat.beq (5 : Nat) then some (true, PUnit.unit) else none
       else none
       else some (false, PUnit.unit)
       else
       bif m0.toNat.beq (4 : Nat) then
       bif decide (n > (19 : Int)) then
       bif decide ((0 : Int) ≤ m0 ∧ m0 < (6 : Int)) then
       bif m0.toNat.beq (0 : Nat) then some (true, PUnit.unit)
       else
       bif m0.toNat.beq (1 : Nat) then some (false, PUnit.unit)
       else
       bif m0.toNat.beq (2 : Nat) then some (false, PUnit.unit)
       else
       bif m0.toNat.beq (3 : Nat) then some (false, PUnit.unit)
       else
       bif m0.toNat.beq (4 : Nat) then some (true, PUnit.unit)
       else bif m0.toNat.beq (5 : Nat) then some (true, PUnit.unit) else none
       else none
       else some (false, PUnit.unit)
       else
       bif m0.toNat.beq (5 : Nat) then
       bif decide (n > (23 : Int)) then
       bif decide ((0 : Int) ≤ m0 ∧ m0 < (6 : Int)) then
       bif m0.toNat.beq (0 : Nat) then some (true, PUnit.unit)
       else
       bif m0.toNat.beq (1 : Nat) then some (false, PUnit.unit)
       else
       bif m0.toNat.beq (2 : Nat) then some (false, PUnit.unit)
       else
       bif m0.toNat.beq (3 : Nat) then some (false, PUnit.unit)
       else
       bif m0.toNat.beq (4 : Nat) then some (true, PUnit.unit)
       else bif m0.toNat.beq (5 : Nat) then some (true, PUnit.unit) else none
       else none
       else some (false, PUnit.unit)
       else none
       else none
       else
       bif m0.toNat.beq (2 : Nat) then
       bif decide (n < (23 : Int)) then some (true, PUnit.unit)
       else
       bif decide ((0 : Int) ≤ m0 ∧ m0 < (6 : Int)) then
       bif m0.toNat.beq (0 : Nat) then
       bif decide (n > (0 : Int)) then
       bif decide ((0 : Int) ≤ m0 ∧ m0 < (6 : Int)) then
       bif m0.toNat.beq (0 : Nat) then some (true, PUnit.unit)
       else
       bif m0.toNat.beq (1 : Nat) then some (false, PUnit.unit)
       else
       bif m0.toNat.beq (2 : Nat) then some (false, PUnit.unit)
       else
       bif m0.toNat.beq (3 : Nat) then some (false, PUnit.unit)
       else
       bif m0.toNat.beq (4 : Nat) then some (true, PUnit.unit)
       else bif m0.toNat.beq (5 : Nat) then some (true, PUnit.unit) else none
       else none
       else some (false, PUnit.unit)
       else
       bif m0.toNat.beq (1 : Nat) then
       bif decide (n > (4096 : Int)) then
       bif decide ((0 : Int) ≤ m0 ∧ m0 < (6 : Int)) then
       bif m0.toNat.beq (0 : Nat) then some (true, PUnit.unit)
       else
       bif m0.toNat.beq (1 : Nat) then some (false, PUnit.unit)
       else
       bif m0.toNat.beq (2 : Nat) then some (false, PUnit.unit)
       else
       bif m0.toNat.beq (3 : Nat) then some (false, PUnit.unit)
       else
       bif m0.toNat.beq (4 : Nat) then some (true, PUnit.unit)
       else bif m0.toNat.beq (5 : Nat) then some (true, PUnit.unit) else none
       else none
       else some (false, PUnit.unit)
       else
       bif m0.toNat.beq (2 : Nat) then
       bif decide (n > (4096 : Int)) then
       bif decide ((0 : Int) ≤ m0 ∧ m0 < (6 : Int)) then
       bif m0.toNat.beq (0 : Nat) then some (true, PUnit.unit)
       else
       bif m0.toNat.beq (1 : Nat) then some (false, PUnit.unit)
       else
       bif m0.toNat.beq (2 : Nat) then some (false, PUnit.unit)
       else
       bif m0.toNat.beq (3 : Nat) then some (false, PUnit.unit)
       else
       bif m0.toNat.beq (4 : Nat) then some (true, PUnit.unit)
       else bif m0.toNat.beq (5 : Nat) then some (true, PUnit.unit) else none
       else none
       else some (false, PUnit.unit)
       else
       bif m0.toNat.beq (3 : Nat) then
       bif decide (n > (4096 : Int)) then
       bif decide ((0 : Int) ≤ m0 ∧ m0 < (6 : Int)) then
       bif m0.toNat.beq (0 : Nat) then some (true, PUnit.unit)
       else
       bif m0.toNat.beq (1 : Nat) then some (false, PUnit.unit)
       else
       bif m0.toNat.beq (2 : Nat) then some (false, PUnit.unit)
       else
       bif m0.toNat.beq (3 : Nat) then some (false, PUnit.unit)
       else
       bif m0.toNat.beq (4 : Nat) then some (true, PUnit.unit)
       else bif m0.toNat.beq (5 : Nat) then some (true, PUnit.unit) else none
       else none
       else some (false, PUnit.unit)
       else
       bif m0.toNat.beq (4 : Nat) then
       bif decide (n > (19 : Int)) then
       bif decide ((0 : Int) ≤ m0 ∧ m0 < (6 : Int)) then
       bif m0.toNat.beq (0 : Nat) then some (true, PUnit.unit)
       else
       bif m0.toNat.beq (1 : Nat) then some (false, PUnit.unit)
       else
       bif m0.toNat.beq (2 : Nat) then some (false, PUnit.unit)
       else
       bif m0.toNat.beq (3 : Nat) then some (false, PUnit.unit)
       else
       bif m0.toNat.beq (4 : Nat) then some (true, PUnit.unit)
       else bif m0.toNat.beq (5 : Nat) then some (true, PUnit.unit) else none
       else none
       else some (false, PUnit.unit)
       else
       bif m0.toNat.beq (5 : Nat) then
       bif decide (n > (23 : Int)) then
       bif decide ((0 : Int) ≤ m0 ∧ m0 < (6 : Int)) then
       bif m0.toNat.beq (0 : Nat) then some (true, PUnit.unit)
       else
       bif m0.toNat.beq (1 : Nat) then some (false, PUnit.unit)
       else
       bif m0.toNat.beq (2 : Nat) then some (false, PUnit.unit)
       else
       bif m0.toNat.beq (3 : Nat) then some (false, PUnit.unit)
       else
       bif m0.toNat.beq (4 : Nat) then some (true, PUnit.unit)
       else bif m0.toNat.beq (5 : Nat) then some (true, PUnit.unit) else none
       else none
       else some (false, PUnit.unit)
       else none
       else none
       else
       bif m0.toNat.beq (3 : Nat) then
       bif decide (n < (21 : Int)) then some (true, PUnit.unit)
       else
       bif decide ((0 : Int) ≤ m0 ∧ m0 < (6 : Int)) then
       bif m0.toNat.beq (0 : Nat) then
       bif decide (n > (0 : Int)) then
       bif decide ((0 : Int) ≤ m0 ∧ m0 < (6 : Int)) then
       bif m0.toNat.beq (0 : Nat) then some (true, PUnit.unit)
       else
       bif m0.toNat.beq (1 : Nat) then some (false, PUnit.unit)
       else
       bif m0.toNat.beq (2 : Nat) then some (false, PUnit.unit)
       else
       bif m0.toNat.beq (3 : Nat) then some (false, PUnit.unit)
       else
       bif m0.toNat.beq (4 : Nat) then some (true, PUnit.unit)
       else bif m0.toNat.beq (5 : Nat) then some (true, PUnit.unit) else none
       else none
       else some (false, PUnit.unit)
       else
       bif m0.toNat.beq (1 : Nat) then
       bif decide (n > (4096 : Int)) then
       bif decide ((0 : Int) ≤ m0 ∧ m0 < (6 : Int)) then
       bif m0.toNat.beq (0 : Nat) then some (true, PUnit.unit)
       else
       bif m0.toNat.beq (1 : Nat) then some (false, PUnit.unit)
       else
       bif m0.toNat.beq (2 : Nat) then some (false, PUnit.unit)
       else
       bif m0.toNat.beq (3 : Nat) then some (false, PUnit.unit)
       else
       bif m0.toNat.beq (4 : Nat) then some (true, PUnit.unit)
       else bif m0.toNat.beq (5 : Nat) then some (true, PUnit.unit) else none
       else none
       else some (false, PUnit.unit)
       else
       bif m0.toNat.beq (2 : Nat) then
       bif decide (n > (4096 : Int)) then
       bif decide ((0 : Int) ≤ m0 ∧ m0 < (6 : Int)) then
       bif m0.toNat.beq (0 : Nat) then some (true, PUnit.unit)
       else
       bif m0.toNat.beq (1 : Nat) then some (false, PUnit.unit)
       else
       bif m0.toNat.beq (2 : Nat) then some (false, PUnit.unit)
       else
       bif m0.toNat.beq (3 : Nat) then some (false, PUnit.unit)
       else
       bif m0.toNat.beq (4 : Nat) then some (true, PUnit.unit)
       else bif m0.toNat.beq (5 : Nat) then some (true, PUnit.unit) else none
       else none
       else some (false, PUnit.unit)
       else
       bif m0.toNat.beq (3 : Nat) then
       bif decide (n > (4096 : Int)) then
       bif decide ((0 : Int) ≤ m0 ∧ m0 < (6 : Int)) then
       bif m0.toNat.beq (0 : Nat) then some (true, PUnit.unit)
       else
       bif m0.toNat.beq (1 : Nat) then some (false, PUnit.unit)
       else
       bif m0.toNat.beq (2 : Nat) then some (false, PUnit.unit)
       else
       bif m0.toNat.beq (3 : Nat) then some (false, PUnit.unit)
       else
       bif m0.toNat.beq (4 : Nat) then some (true, PUnit.unit)
       else bif m0.toNat.beq (5 : Nat) then some (true, PUnit.unit) else none
       else none
       else some (false, PUnit.unit)
       else
       bif m0.toNat.beq (4 : Nat) then
       bif decide (n > (19 : Int)) then
       bif decide ((0 : Int) ≤ m0 ∧ m0 < (6 : Int)) then
       bif m0.toNat.beq (0 : Nat) then some (true, PUnit.unit)
       else
       bif m0.toNat.beq (1 : Nat) then some (false, PUnit.unit)
       else
       bif m0.toNat.beq (2 : Nat) then some (false, PUnit.unit)
       else
       bif m0.toNat.beq (3 : Nat) then some (false, PUnit.unit)
       else
       bif m0.toNat.beq (4 : Nat) then some (true, PUnit.unit)
       else bif m0.toNat.beq (5 : Nat) then some (true, PUnit.unit) else none
       else none
       else some (false, PUnit.unit)
       else
       bif m0.toNat.beq (5 : Nat) then
       bif decide (n > (23 : Int)) then
       bif decide ((0 : Int) ≤ m0 ∧ m0 < (6 : Int)) then
       bif m0.toNat.beq (0 : Nat) then some (true, PUnit.unit)
       else
       bif m0.toNat.beq (1 : Nat) then some (false, PUnit.unit)
       else
       bif m0.toNat.beq (2 : Nat) then some (false, PUnit.unit)
       else
       bif m0.toNat.beq (3 : Nat) then some (false, PUnit.unit)
       else
       bif m0.toNat.beq (4 : Nat) then some (true, PUnit.unit)
       else bif m0.toNat.beq (5 : Nat) then some (true, PUnit.unit) else none
       else none
       else some (false, PUnit.unit)
       else none
       else none
       else
       bif m0.toNat.beq (4 : Nat) then
       bif decide (n < (19 : Int)) then some (true, PUnit.unit)
       else
       bif decide ((0 : Int) ≤ m0 ∧ m0 < (6 : Int)) then
       bif m0.toNat.beq (0 : Nat) then
       bif decide (n > (0 : Int)) then
       bif decide ((0 : Int) ≤ m0 ∧ m0 < (6 : Int)) then
       bif m0.toNat.beq (0 : Nat) then some (true, PUnit.unit)
       else
       bif m0.toNat.beq (1 : Nat) then some (false, PUnit.unit)
       else
       bif m0.toNat.beq (2 : Nat) then some (false, PUnit.unit)
       else
       bif m0.toNat.beq (3 : Nat) then some (false, PUnit.unit)
       else
       bif m0.toNat.beq (4 : Nat) then some (true, PUnit.unit)
       else bif m0.toNat.beq (5 : Nat) then some (true, PUnit.unit) else none
       else none
       else some (false, PUnit.unit)
       else
       bif m0.toNat.beq (1 : Nat) then
       bif decide (n > (4096 : Int)) then
       bif decide ((0 : Int) ≤ m0 ∧ m0 < (6 : Int)) then
       bif m0.toNat.beq (0 : Nat) then some (true, PUnit.unit)
       else
       bif m0.toNat.beq (1 : Nat) then some (false, PUnit.unit)
       else
       bif m0.toNat.beq (2 : Nat) then some (false, PUnit.unit)
       else
       bif m0.toNat.beq (3 : Nat) then some (false, PUnit.unit)
       else
       bif m0.toNat.beq (4 : Nat) then some (true, PUnit.unit)
       else bif m0.toNat.beq (5 : Nat) then some (true, PUnit.unit) else none
       else none
       else some (false, PUnit.unit)
       else
       bif m0.toNat.beq (2 : Nat) then
       bif decide (n > (4096 : Int)) then
       bif decide ((0 : Int) ≤ m0 ∧ m0 < (6 : Int)) then
       bif m0.toNat.beq (0 : Nat) then some (true, PUnit.unit)
       else
       bif m0.toNat.beq (1 : Nat) then some (false, PUnit.unit)
       else
       bif m0.toNat.beq (2 : Nat) then some (false, PUnit.unit)
       else
       bif m0.toNat.beq (3 : Nat) then some (false, PUnit.unit)
       else
       bif m0.toNat.beq (4 : Nat) then some (true, PUnit.unit)
       else bif m0.toNat.beq (5 : Nat) then some (true, PUnit.unit) else none
       else none
       else some (false, PUnit.unit)
       else
       bif m0.toNat.beq (3 : Nat) then
       bif decide (n > (4096 : Int)) then
       bif decide ((0 : Int) ≤ m0 ∧ m0 < (6 : Int)) then
       bif m0.toNat.beq (0 : Nat) then some (true, PUnit.unit)
       else
       bif m0.toNat.beq (1 : Nat) then some (false, PUnit.unit)
       else
       bif m0.toNat.beq (2 : Nat) then some (false, PUnit.unit)
       else
       bif m0.toNat.beq (3 : Nat) then some (false, PUnit.unit)
       else
       bif m0.toNat.beq (4 : Nat) then some (true, PUnit.unit)
       else bif m0.toNat.beq (5 : Nat) then some (true, PUnit.unit) else none
       else none
       else some (false, PUnit.unit)
       else
       bif m0.toNat.beq (4 : Nat) then
       bif decide (n > (19 : Int)) then
       bif decide ((0 : Int) ≤ m0 ∧ m0 < (6 : Int)) then
       bif m0.toNat.beq (0 : Nat) then some (true, PUnit.unit)
       else
       bif m0.toNat.beq (1 : Nat) then some (false, PUnit.unit)
       else
       bif m0.toNat.beq (2 : Nat) then some (false, PUnit.unit)
       else
       bif m0.toNat.beq (3 : Nat) then some (false, PUnit.unit)
       else
       bif m0.toNat.beq (4 : Nat) then some (true, PUnit.unit)
       else bif m0.toNat.beq (5 : Nat) then some (true, PUnit.unit) else none
       else none
       else some (false, PUnit.unit)
       else
       bif m0.toNat.beq (5 : Nat) then
       bif decide (n > (23 : Int)) then
       bif decide ((0 : Int) ≤ m0 ∧ m0 < (6 : Int)) then
       bif m0.toNat.beq (0 : Nat) then some (true, PUnit.unit)
       else
       bif m0.toNat.beq (1 : Nat) then some (false, PUnit.unit)
       else
       bif m0.toNat.beq (2 : Nat) then some (false, PUnit.unit)
       else
       bif m0.toNat.beq (3 : Nat) then some (false, PUnit.unit)
       else
       bif m0.toNat.beq (4 : Nat) then some (true, PUnit.unit)
       else bif m0.toNat.beq (5 : Nat) then some (true, PUnit.unit) else none
       else none
       else some (false, PUnit.unit)
       else none
       else none
       else
       bif m0.toNat.beq (5 : Nat) then
       bif decide (n < (23 : Int)) then some (true, PUnit.unit)
       else
       bif decide ((0 : Int) ≤ m0 ∧ m0 < (6 : Int)) then
       bif m0.toNat.beq (0 : Nat) then
       bif decide (n > (0 : Int)) then
       bif decide ((0 : Int) ≤ m0 ∧ m0 < (6 : Int)) then
       bif m0.toNat.beq (0 : Nat) then some (true, PUnit.unit)
       else
       bif m0.toNat.beq (1 : Nat) then some (false, PUnit.unit)
       else
       bif m0.toNat.beq (2 : Nat) then some (false, PUnit.unit)
       else
       bif m0.toNat.beq (3 : Nat) then some (false, PUnit.unit)
       else
       bif m0.toNat.beq (4 : Nat) then some (true, PUnit.unit)
       else bif m0.toNat.beq (5 : Nat) then some (true, PUnit.unit) else none
       else none
       else some (false, PUnit.unit)
       else
       bif m0.toNat.beq (1 : Nat) then
       bif decide (n > (4096 : Int)) then
       bif decide ((0 : Int) ≤ m0 ∧ m0 < (6 : Int)) then
       bif m0.toNat.beq (0 : Nat) then some (true, PUnit.unit)
       else
       bif m0.toNat.beq (1 : Nat) then some (false, PUnit.unit)
       else
       bif m0.toNat.beq (2 : Nat) then some (false, PUnit.unit)
       else
       bif m0.toNat.beq (3 : Nat) then some (false, PUnit.unit)
       else
       bif m0.toNat.beq (4 : Nat) then some (true, PUnit.unit)
       else bif m0.toNat.beq (5 : Nat) then some (true, PUnit.unit) else none
       else none
       else some (false, PUnit.unit)
       else
       bif m0.toNat.beq (2 : Nat) then
       bif decide (n > (4096 : Int)) then
       bif decide ((0 : Int) ≤ m0 ∧ m0 < (6 : Int)) then
       bif m0.toNat.beq (0 : Nat) then some (true, PUnit.unit)
       else
       bif m0.toNat.beq (1 : Nat) then some (false, PUnit.unit)
       else
       bif m0.toNat.beq (2 : Nat) then some (false, PUnit.unit)
       else
       bif m0.toNat.beq (3 : Nat) then some (false, PUnit.unit)
       else
       bif m0.toNat.beq (4 : Nat) then some (true, PUnit.unit)
       else bif m0.toNat.beq (5 : Nat) then some (true, PUnit.unit) else none
       else none
       else some (false, PUnit.unit)
       else
       bif m0.toNat.beq (3 : Nat) then
       bif decide (n > (4096 : Int)) then
       bif decide ((0 : Int) ≤ m0 ∧ m0 < (6 : Int)) then
       bif m0.toNat.beq (0 : Nat) then some (true, PUnit.unit)
       else
       bif m0.toNat.beq (1 : Nat) then some (false, PUnit.unit)
       else
       bif m0.toNat.beq (2 : Nat) then some (false, PUnit.unit)
       else
       bif m0.toNat.beq (3 : Nat) then some (false, PUnit.unit)
       else
       bif m0.toNat.beq (4 : Nat) then some (true, PUnit.unit)
       else bif m0.toNat.beq (5 : Nat) then some (true, PUnit.unit) else none
       else none
       else some (false, PUnit.unit)
       else
       bif m0.toNat.beq (4 : Nat) then
       bif decide (n > (19 : Int)) then
       bif decide ((0 : Int) ≤ m0 ∧ m0 < (6 : Int)) then
       bif m0.toNat.beq (0 : Nat) then some (true, PUnit.unit)
       else
       bif m0.toNat.beq (1 : Nat) then some (false, PUnit.unit)
       else
       bif m0.toNat.beq (2 : Nat) then some (false, PUnit.unit)
       else
       bif m0.toNat.beq (3 : Nat) then some (false, PUnit.unit)
       else
       bif m0.toNat.beq (4 : Nat) then some (true, PUnit.unit)
       else bif m0.toNat.beq (5 : Nat) then some (true, PUnit.unit) else none
       else none
       else some (false, PUnit.unit)
       else
       bif m0.toNat.beq (5 : Nat) then
       bif decide (n > (23 : Int)) then
       bif decide ((0 : Int) ≤ m0 ∧ m0 < (6 : Int)) then
       bif m0.toNat.beq (0 : Nat) then some (true, PUnit.unit)
       else
       bif m0.toNat.beq (1 : Nat) then some (false, PUnit.unit)
       else
       bif m0.toNat.beq (2 : Nat) then some (false, PUnit.unit)
       else
       bif m0.toNat.beq (3 : Nat) then some (false, PUnit.unit)
       else
       bif m0.toNat.beq (4 : Nat) then some (true, PUnit.unit)
       else bif m0.toNat.beq (5 : Nat) then some (true, PUnit.unit) else none
       else none
       else some (false, PUnit.unit)
       else none
       else none
       else none
       else none
    else some (true, PUnit.unit)
theorem r1e (x39 : F39.FT) (x43 : F43.FT) (l42_1 : F42.G1) (kd : (Int × List (Int)) × Int) (d : Unit) : unitF (tabC Tryd.prog (tab x39 x43 l42_1) (pls x39 x43 l42_1) 100 12) 100 .none (u1 fun _ _ => none) (codeAt [1, 1, 0, 0, 0] (bodyOf Tryd.prog 21)) kd d = r1P x39 x43 l42_1 kd d := by kernel_rfl
noncomputable def r1 : G1 := r1P F39.f F43.f F42.l1
noncomputable def l1 : G1 := r1
theorem ok1 : UnOk Tryd.prog (u1 l1) (codeAt [1, 1, 0, 0, 0] (bodyOf Tryd.prog 21)) :=
  blockT (p := .none) (fuel := 100) (depth := 12) mixed tabS plsP trivial (fun kd d => r1e F39.f F43.f F42.l1 kd d)
def r2P (x39 : F39.FT) (x43 : F43.FT) (l42_1 : F42.G1) : G2 := fun () () =>
    (x39 ([(255 : Int)], (16 : Int))).bind fun r0 =>
      bif decide ((0 : Nat) + List.length r0.fst ≤ List.length r0.fst) && true then
       some (List.take (List.length r0.fst) (List.drop (0 : Nat) r0.fst), PUnit.unit)
      else none
theorem r2e (x39 : F39.FT) (x43 : F43.FT) (l42_1 : F42.G1) (kd : Unit) (d : Unit) : unitF (tabC Tryd.prog (tab x39 x43 l42_1) (pls x39 x43 l42_1) 100 12) 100 .none (u2 fun _ _ => none) (codeAt [1, 1, 1, 0] (bodyOf Tryd.prog 21)) kd d = r2P x39 x43 l42_1 kd d := by kernel_rfl
noncomputable def r2 : G2 := r2P F39.f F43.f F42.l1
noncomputable def l2 : G2 := r2
theorem ok2 : UnOk Tryd.prog (u2 l2) (codeAt [1, 1, 1, 0] (bodyOf Tryd.prog 21)) :=
  blockT (p := .none) (fuel := 100) (depth := 12) mixed tabS plsP trivial (fun kd d => r2e F39.f F43.f F42.l1 kd d)
def r3P (x39 : F39.FT) (x43 : F43.FT) (l42_1 : F42.G1) : G3 := fun ((m0, m1), n) ahead =>
    bif decide ((0 : Nat) + ahead.length ≤ ahead.length) then
      bif decide ((List.take ahead.length ahead).length = (0 : Nat)) then
       (l42_1 ([IntKind.u16.wrap n], (1 : Int)) (([], [], (0 : Int), true), (0 : Int))).bind fun r0 =>
       bif !r0.snd.snd.snd.snd then
       bif !r0.snd.snd.snd.snd then
       (x43 r0.snd).bind fun r1 =>
       bif decide ((0 : Nat) + r1.fst.fst.length ≤ r1.fst.fst.length) && true then
       some ((List.take r1.fst.fst.length (List.drop (0 : Nat) r1.fst.fst), r1.fst.snd), PUnit.unit)
       else none
       else
       bif r0.snd.snd.snd.fst == (0 : Int) then
       bif decide ((0 : Nat) + m1.length ≤ m1.length) then
       bif decide (r0.snd.fst.length + (List.take m1.length m1).length ≤ (1073741824 : Nat)) then
       bif decide ((0 : Nat) + r0.snd.fst.length ≤ r0.snd.fst.length) then
       bif
       decide
       ((0 : Nat) + (r0.snd.fst.length + (List.take m1.length m1).length) ≤
       (List.take r0.snd.fst.length (List.drop (0 : Nat) r0.snd.fst) ++
       List.take m1.length m1).length) &&
       true then
       bif decide ((0 : Nat) + r0.snd.snd.fst.length ≤ r0.snd.snd.fst.length) && true then
       (x43
       (List.take (r0.snd.fst.length + (List.take m1.length m1).length)
       (List.drop (0 : Nat)
       (List.take r0.snd.fst.length (List.drop (0 : Nat) r0.snd.fst) ++
       List.take m1.length m1)),
       List.take r0.snd.snd.fst.length (List.drop (0 : Nat) r0.snd.snd.fst),
       r0.snd.snd.snd.fst, r0.snd.snd.snd.snd)).bind
       fun r1 =>
       bif decide ((0 : Nat) + r1.fst.fst.length ≤ r1.fst.fst.length) && true then
       some
       ((List.take r1.fst.fst.length (List.drop (0 : Nat) r1.fst.fst), r1.fst.snd), PUnit.unit)
       else none
       else none
       else none
       else none
       else none
       else none
       else
       (x43 r0.snd).bind fun r1 =>
       bif decide ((0 : Nat) + r1.fst.fst.length ≤ r1.fst.fst.length) && true then
       some ((List.take r1.fst.fst.length (List.drop (0 : Nat) r1.fst.fst), r1.fst.snd), PUnit.unit)
       else none
       else
       bif r0.snd.snd.snd.fst == (0 : Int) then
       bif decide (r0.snd.fst.length + (1 : Nat) / OfNat.ofNat (1 : Nat) ≤ (1073741824 : Nat)) then
       bif decide ((0 : Nat) + r0.snd.fst.length ≤ r0.snd.fst.length) then
       bif !r0.snd.snd.snd.snd then
       bif
       decide
       ((0 : Nat) + (r0.snd.fst.length + (1 : Nat) / OfNat.ofNat (1 : Nat)) ≤
       (List.take r0.snd.fst.length (List.drop (0 : Nat) r0.snd.fst) ++ [m0]).length) &&
       true then
       bif decide ((0 : Nat) + r0.snd.snd.fst.length ≤ r0.snd.snd.fst.length) && true then
       (x43
       (List.take (r0.snd.fst.length + (1 : Nat) / OfNat.ofNat (1 : Nat))
       (List.drop (0 : Nat)
       (List.take r0.snd.fst.length (List.drop (0 : Nat) r0.snd.fst) ++ [m0])),
       List.take r0.snd.snd.fst.length (List.drop (0 : Nat) r0.snd.snd.fst), r0.snd.snd.snd.fst,
       r0.snd.snd.snd.snd)).bind
       fun r1 =>
       bif decide ((0 : Nat) + r1.fst.fst.length ≤ r1.fst.fst.length) && true then
       some ((List.take r1.fst.fst.length (List.drop (0 : Nat) r1.fst.fst), r1.fst.snd), PUnit.unit)
       else none
       else none
       else none
       else
       bif r0.snd.snd.snd.fst == (0 : Int) then
       bif decide ((0 : Nat) + m1.length ≤ m1.length) then
       bif
       decide
       (r0.snd.fst.length + (1 : Nat) / OfNat.ofNat (1 : Nat) + (List.take m1.length m1).length ≤
       (1073741824 : Nat)) then
       bif
       decide
       ((0 : Nat) + (r0.snd.fst.length + (1 : Nat) / OfNat.ofNat (1 : Nat)) ≤
       (List.take r0.snd.fst.length (List.drop (0 : Nat) r0.snd.fst) ++ [m0]).length) then
       bif
       decide
       ((0 : Nat) +
       (r0.snd.fst.length + (1 : Nat) / OfNat.ofNat (1 : Nat) +
       (List.take m1.length m1).length) ≤
       (List.take (r0.snd.fst.length + (1 : Nat) / OfNat.ofNat (1 : Nat))
       (List.drop (0 : Nat)
       (List.take r0.snd.fst.length (List.drop (0 : Nat) r0.snd.fst) ++ [m0])) ++
       List.take m1.length m1).length) &&
       true then
       bif decide ((0 : Nat) + r0.snd.snd.fst.length ≤ r0.snd.snd.fst.length) && true then
       (x43
       (List.take
       (r0.snd.fst.length + (1 : Nat) / OfNat.ofNat (1 : Nat) +
       (List.take m1.length m1).length)
       (List.drop (0 : Nat)
       (List.take (r0.snd.fst.length + (1 : Nat) / OfNat.ofNat (1 : Nat))
       (List.drop (0 : Nat)
       (List.take r0.snd.fst.length (List.drop (0 : Nat) r0.snd.fst) ++
       [m0])) ++
       List.take m1.length m1)),
       List.take r0.snd.snd.fst.length (List.drop (0 : Nat) r0.snd.snd.fst),
       r0.snd.snd.snd.fst, r0.snd.snd.snd.snd)).bind
       fun r1 =>
       bif decide ((0 : Nat) + r1.fst.fst.length ≤ r1.fst.fst.length) && true then
       some
       ((List.take r1.fst.fst.length (List.drop (0 : Nat) r1.fst.fst), r1.fst.snd),
       PUnit.unit)
       else none
       else none
       else none
       else none
       else none
       else none
       else
       bif
       decide
       ((0 : Nat) + (r0.snd.fst.length + (1 : Nat) / OfNat.ofNat (1 : Nat)) ≤
       (List.take r0.snd.fst.length (List.drop (0 : Nat) r0.snd.fst) ++ [m0]).length) &&
       true then
       bif decide ((0 : Nat) + r0.snd.snd.fst.length ≤ r0.snd.snd.fst.length) && true then
       (x43
       (List.take (r0.snd.fst.length + (1 : Nat) / OfNat.ofNat (1 : Nat))
       (List.drop (0 : Nat)
       (List.take r0.snd.fst.length (List.drop (0 : Nat) r0.snd.fst) ++ [m0])),
       List.take r0.snd.snd.fst.length (List.drop (0 : Nat) r0.snd.snd.fst),
       r0.snd.snd.snd.fst, r0.snd.snd.snd.snd)).bind
       fun r1 =>
       bif decide ((0 : Nat) + r1.fst.fst.length ≤ r1.fst.fst.length) && true then
       some
       ((List.take r1.fst.fst.length (List.drop (0 : Nat) r1.fst.fst), r1.fst.snd), PUnit.unit)
       else none
       else none
       else none
       else none
       else none
       else
       bif !r0.snd.snd.snd.snd then
       (x43 r0.snd).bind fun r1 =>
       bif decide ((0 : Nat) + r1.fst.fst.length ≤ r1.fst.fst.length) && true then
       some ((List.take r1.fst.fst.length (List.drop (0 : Nat) r1.fst.fst), r1.fst.snd), PUnit.unit)
       else none
       else
       bif r0.snd.snd.snd.fst == (0 : Int) then
       bif decide ((0 : Nat) + m1.length ≤ m1.length) then
       bif decide (r0.snd.fst.length + (List.take m1.length m1).length ≤ (1073741824 : Nat)) then
       bif decide ((0 : Nat) + r0.snd.fst.length ≤ r0.snd.fst.length) then
       bif
       decide
       ((0 : Nat) + (r0.snd.fst.length + (List.take m1.length m1).length) ≤
       (List.take r0.snd.fst.length (List.drop (0 : Nat) r0.snd.fst) ++
       List.take m1.length m1).length) &&
       true then
       bif decide ((0 : Nat) + r0.snd.snd.fst.length ≤ r0.snd.snd.fst.length) && true then
       (x43
       (List.take (r0.snd.fst.length + (List.take m1.length m1).length)
       (List.drop (0 : Nat)
       (List.take r0.snd.fst.length (List.drop (0 : Nat) r0.snd.fst) ++
       List.take m1.length m1)),
       List.take r0.snd.snd.fst.length (List.drop (0 : Nat) r0.snd.snd.fst),
       r0.snd.snd.snd.fst, r0.snd.snd.snd.snd)).bind
       fun r1 =>
       bif decide ((0 : Nat) + r1.fst.fst.length ≤ r1.fst.fst.length) && true then
       some
       ((List.take r1.fst.fst.length (List.drop (0 : Nat) r1.fst.fst), r1.fst.snd), PUnit.unit)
       else none
       else none
       else none
       else none
       else none
       else none
       else
       (x43 r0.snd).bind fun r1 =>
       bif decide ((0 : Nat) + r1.fst.fst.length ≤ r1.fst.fst.length) && true then
       some ((List.take r1.fst.fst.length (List.drop (0 : Nat) r1.fst.fst), r1.fst.snd), PUnit.unit)
       else none
      else
       bif decide ((List.take ahead.length ahead).length ≤ (1073741824 : Nat)) then
       bif
       decide ((0 : Nat) + (List.take ahead.length ahead).length ≤ ([] ++ List.take ahead.length ahead).length) &&
       true then
       (l42_1 ([IntKind.u16.wrap n], (1 : Int))
       ((List.take (List.take ahead.length ahead).length
       (List.drop (0 : Nat) ([] ++ List.take ahead.length ahead)),
       [], (0 : Int), true),
       (0 : Int))).bind
       fun r0 =>
       bif !r0.snd.snd.snd.snd then
       bif !r0.snd.snd.snd.snd then
       (x43 r0.snd).bind fun r1 =>
       bif decide ((0 : Nat) + r1.fst.fst.length ≤ r1.fst.fst.length) && true then
       some ((List.take r1.fst.fst.length (List.drop (0 : Nat) r1.fst.fst), r1.fst.snd), PUnit.unit)
       else none
       else
       bif r0.snd.snd.snd.fst == (0 : Int) then
       bif decide ((0 : Nat) + m1.length ≤ m1.length) then
       bif decide (r0.snd.fst.length + (List.take m1.length m1).length ≤ (1073741824 : Nat)) then
       bif decide ((0 : Nat) + r0.snd.fst.length ≤ r0.snd.fst.length) then
       bif
       decide
       ((0 : Nat) + (r0.snd.fst.length + (List.take m1.length m1).length) ≤
       (List.take r0.snd.fst.length (List.drop (0 : Nat) r0.snd.fst) ++
       List.take m1.length m1).length) &&
       true then
       bif decide ((0 : Nat) + r0.snd.snd.fst.length ≤ r0.snd.snd.fst.length) && true then
       (x43
       (List.take (r0.snd.fst.length + (List.take m1.length m1).length)
       (List.drop (0 : Nat)
       (List.take r0.snd.fst.length (List.drop (0 : Nat) r0.snd.fst) ++
       List.take m1.length m1)),
       List.take r0.snd.snd.fst.length (List.drop (0 : Nat) r0.snd.snd.fst),
       r0.snd.snd.snd.fst, r0.snd.snd.snd.snd)).bind
       fun r1 =>
       bif decide ((0 : Nat) + r1.fst.fst.length ≤ r1.fst.fst.length) && true then
       some
       ((List.take r1.fst.fst.length (List.drop (0 : Nat) r1.fst.fst), r1.fst.snd),
       PUnit.unit)
       else none
       else none
       else none
       else none
       else none
       else none
       else
       (x43 r0.snd).bind fun r1 =>
       bif decide ((0 : Nat) + r1.fst.fst.length ≤ r1.fst.fst.length) && true then
       some ((List.take r1.fst.fst.length (List.drop (0 : Nat) r1.fst.fst), r1.fst.snd), PUnit.unit)
       else none
       else
       bif r0.snd.snd.snd.fst == (0 : Int) then
       bif decide (r0.snd.fst.length + (1 : Nat) / OfNat.ofNat (1 : Nat) ≤ (1073741824 : Nat)) then
       bif decide ((0 : Nat) + r0.snd.fst.length ≤ r0.snd.fst.length) then
       bif !r0.snd.snd.snd.snd then
       bif
       decide
       ((0 : Nat) + (r0.snd.fst.length + (1 : Nat) / OfNat.ofNat (1 : Nat)) ≤
       (List.take r0.snd.fst.length (List.drop (0 : Nat) r0.snd.fst) ++ [m0]).length) &&
       true then
       bif decide ((0 : Nat) + r0.snd.snd.fst.length ≤ r0.snd.snd.fst.length) && true then
       (x43
       (List.take (r0.snd.fst.length + (1 : Nat) / OfNat.ofNat (1 : Nat))
       (List.drop (0 : Nat)
       (List.take r0.snd.fst.length (List.drop (0 : Nat) r0.snd.fst) ++ [m0])),
       List.take r0.snd.snd.fst.length (List.drop (0 : Nat) r0.snd.snd.fst),
       r0.snd.snd.snd.fst, r0.snd.snd.snd.snd)).bind
       fun r1 =>
       bif decide ((0 : Nat) + r1.fst.fst.length ≤ r1.fst.fst.length) && true then
       some
       ((List.take r1.fst.fst.length (List.drop (0 : Nat) r1.fst.fst), r1.fst.snd), PUnit.unit)
       else none
       else none
       else none
       else
       bif r0.snd.snd.snd.fst == (0 : Int) then
       bif decide ((0 : Nat) + m1.length ≤ m1.length) then
       bif
       decide
       (r0.snd.fst.length + (1 : Nat) / OfNat.ofNat (1 : Nat) +
       (List.take m1.length m1).length ≤
       (1073741824 : Nat)) then
       bif
       decide
       ((0 : Nat) + (r0.snd.fst.length + (1 : Nat) / OfNat.ofNat (1 : Nat)) ≤
       (List.take r0.snd.fst.length (List.drop (0 : Nat) r0.snd.fst) ++ [m0]).length) then
       bif
       decide
       ((0 : Nat) +
       (r0.snd.fst.length + (1 : Nat) / OfNat.ofNat (1 : Nat) +
       (List.take m1.length m1).length) ≤
       (List.take (r0.snd.fst.length + (1 : Nat) / OfNat.ofNat (1 : Nat))
       (List.drop (0 : Nat)
       (List.take r0.snd.fst.length (List.drop (0 : Nat) r0.snd.fst) ++
       [m0])) ++
       List.take m1.length m1).length) &&
       true then
       bif decide ((0 : Nat) + r0.snd.snd.fst.length ≤ r0.snd.snd.fst.length) && true then
       (x43
       (List.take
       (r0.snd.fst.length + (1 : Nat) / OfNat.ofNat (1 : Nat) +
       (List.take m1.length m1).length)
       (List.drop (0 : Nat)
       (List.take (r0.snd.fst.length + (1 : Nat) / OfNat.ofNat (1 : Nat))
       (List.drop (0 : Nat)
       (List.take r0.snd.fst.length (List.drop (0 : Nat) r0.snd.fst) ++
       [m0])) ++
       List.take m1.length m1)),
       List.take r0.snd.snd.fst.length (List.drop (0 : Nat) r0.snd.snd.fst),
       r0.snd.snd.snd.fst, r0.snd.snd.snd.snd)).bind
       fun r1 =>
       bif decide ((0 : Nat) + r1.fst.fst.length ≤ r1.fst.fst.length) && true then
       some
       ((List.take r1.fst.fst.length (List.drop (0 : Nat) r1.fst.fst), r1.fst.snd),
       PUnit.unit)
       else none
       else none
       else none
       else none
       else none
       else none
       else
       bif
       decide
       ((0 : Nat) + (r0.snd.fst.length + (1 : Nat) / OfNat.ofNat (1 : Nat)) ≤
       (List.take r0.snd.fst.length (List.drop (0 : Nat) r0.snd.fst) ++ [m0]).length) &&
       true then
       bif decide ((0 : Nat) + r0.snd.snd.fst.length ≤ r0.snd.snd.fst.length) && true then
       (x43
       (List.take (r0.snd.fst.length + (1 : Nat) / OfNat.ofNat (1 : Nat))
       (List.drop (0 : Nat)
       (List.take r0.snd.fst.length (List.drop (0 : Nat) r0.snd.fst) ++ [m0])),
       List.take r0.snd.snd.fst.length (List.drop (0 : Nat) r0.snd.snd.fst),
       r0.snd.snd.snd.fst, r0.snd.snd.snd.snd)).bind
       fun r1 =>
       bif decide ((0 : Nat) + r1.fst.fst.length ≤ r1.fst.fst.length) && true then
       some
       ((List.take r1.fst.fst.length (List.drop (0 : Nat) r1.fst.fst), r1.fst.snd),
       PUnit.unit)
       else none
       else none
       else none
       else none
       else none
       else
       bif !r0.snd.snd.snd.snd then
       (x43 r0.snd).bind fun r1 =>
       bif decide ((0 : Nat) + r1.fst.fst.length ≤ r1.fst.fst.length) && true then
       some ((List.take r1.fst.fst.length (List.drop (0 : Nat) r1.fst.fst), r1.fst.snd), PUnit.unit)
       else none
       else
       bif r0.snd.snd.snd.fst == (0 : Int) then
       bif decide ((0 : Nat) + m1.length ≤ m1.length) then
       bif decide (r0.snd.fst.length + (List.take m1.length m1).length ≤ (1073741824 : Nat)) then
       bif decide ((0 : Nat) + r0.snd.fst.length ≤ r0.snd.fst.length) then
       bif
       decide
       ((0 : Nat) + (r0.snd.fst.length + (List.take m1.length m1).length) ≤
       (List.take r0.snd.fst.length (List.drop (0 : Nat) r0.snd.fst) ++
       List.take m1.length m1).length) &&
       true then
       bif decide ((0 : Nat) + r0.snd.snd.fst.length ≤ r0.snd.snd.fst.length) && true then
       (x43
       (List.take (r0.snd.fst.length + (List.take m1.length m1).length)
       (List.drop (0 : Nat)
       (List.take r0.snd.fst.length (List.drop (0 : Nat) r0.snd.fst) ++
       List.take m1.length m1)),
       List.take r0.snd.snd.fst.length (List.drop (0 : Nat) r0.snd.snd.fst),
       r0.snd.snd.snd.fst, r0.snd.snd.snd.snd)).bind
       fun r1 =>
       bif decide ((0 : Nat) + r1.fst.fst.length ≤ r1.fst.fst.length) && true then
       some
       ((List.take r1.fst.fst.length (List.drop (0 : Nat) r1.fst.fst), r1.fst.snd),
       PUnit.unit)
       else none
       else none
       else none
       else none
       else none
       else none
       else
       (x43 r0.snd).bind fun r1 =>
       bif decide ((0 : Nat) + r1.fst.fst.length ≤ r1.fst.fst.length) && true then
       some ((List.take r1.fst.fst.length (List.drop (0 : Nat) r1.fst.fst), r1.fst.snd), PUnit.unit)
       else none
       else none
       else none
    else none
theorem r3e (x39 : F39.FT) (x43 : F43.FT) (l42_1 : F42.G1) (kd : (Int × List (Int)) × Int) (d : List (Int)) : unitF (tabC Tryd.prog (tab x39 x43 l42_1) (pls x39 x43 l42_1) 100 12) 100 .none (u3 fun _ _ => none) (codeAt [1, 1, 1, 1, 0] (bodyOf Tryd.prog 21)) kd d = r3P x39 x43 l42_1 kd d := by kernel_rfl
noncomputable def r3 : G3 := r3P F39.f F43.f F42.l1
noncomputable def l3 : G3 := r3
theorem ok3 : UnOk Tryd.prog (u3 l3) (codeAt [1, 1, 1, 1, 0] (bodyOf Tryd.prog 21)) :=
  blockT (p := .none) (fuel := 100) (depth := 12) mixed tabS plsP trivial (fun kd d => r3e F39.f F43.f F42.l1 kd d)
def fP (x39 : F39.FT) (x43 : F43.FT) (l42_1 : F42.G1) (l1 : G1) (l2 : G2) (l3 : G3) : FT := fun (m0, m1) =>
    bif decide ((0 : Nat) + m1.length ≤ m1.length) && true then
      (l1 ((m0, List.take m1.length m1), IntKind.i64.wrap ((19 : Int) + (↑m1.length : Int))) PUnit.unit).bind fun r0 =>
       bif r0.fst then some (([], (1 : Int)), PUnit.unit)
       else
       bif decide (IntKind.i64.wrap ((19 : Int) + (↑m1.length : Int)) > (4096 : Int)) then
       some (([], (3 : Int)), PUnit.unit)
       else
       (l2 PUnit.unit PUnit.unit).bind fun r1 =>
       bif decide ((0 : Nat) + m1.length ≤ m1.length) && true then
       bif decide ((0 : Nat) + List.length r1.fst ≤ List.length r1.fst) && true then
       (l3 ((m0, List.take m1.length m1), IntKind.i64.wrap ((19 : Int) + (↑m1.length : Int)))
       (List.take (List.length r1.fst) (List.drop (0 : Nat) r1.fst))).bind
       fun r2 =>
       bif decide ((0 : Nat) + r2.fst.fst.length ≤ r2.fst.fst.length) && true then
       some ((List.take r2.fst.fst.length (List.drop (0 : Nat) r2.fst.fst), r2.fst.snd), PUnit.unit)
       else none
       else none
       else none
    else none
theorem fe (x39 : F39.FT) (x43 : F43.FT) (l42_1 : F42.G1) (l1 : G1) (l2 : G2) (l3 : G3) (d : (Int × List (Int))) : bodyF (tabC Tryd.prog (tab x39 x43 l42_1) ((21, (.node .none (.node .none (.node (.node (.node (.unit (u1 l1)) .none) .none) (.node (.unit (u2 l2)) (.node (.unit (u3 l3)) .none)))))) :: pls x39 x43 l42_1) 100 12) 100 21 i o d = fP x39 x43 l42_1 l1 l2 l3 d := by kernel_rfl
noncomputable def f : FT := fP F39.f F43.f F42.l1 l1 l2 l3
def plan (l1 : G1) (l2 : G2) (l3 : G3) : Plan := (.node .none (.node .none (.node (.node (.node (.unit (u1 l1)) .none) .none) (.node (.unit (u2 l2)) (.node (.unit (u3 l3)) .none)))))
theorem planOk : PlanOk Tryd.prog (plan l1 l2 l3) (bodyOf Tryd.prog 21) := (planOk_of (plan l1 l2 l3) _ [([1, 1, 0, 0, 0], u1 l1), ([1, 1, 1, 0], u2 l2), ([1, 1, 1, 1, 0], u3 l3)] rfl ⟨ok1, ok2, ok3, trivial⟩)
theorem meets : MeetsF Tryd.prog 21 ⟨i, o, f⟩ :=
  funcT (fuel := 100) (depth := 12) (pl := (21, plan l1 l2 l3) :: pls F39.f F43.f F42.l1) mixed tabS ⟨planOk, plsP⟩ (fun d => fe F39.f F43.f F42.l1 l1 l2 l3 d)
theorem spec : SpecOk Tryd.prog (fun _ => none) 21 (specF ⟨i, o, f⟩) := specF_ok (by kernel_rfl) meets
end Go.Proofs.YtnmgbheaabdhlaaDoor.F21

/- What comes of function 38 of this program, consulate.consulateref03.wrong, as the engine gives it. -/
namespace Go.Proofs.YtnmgbheaabdhlaaDoor.F38
open Go Go.Proofs Go.Proofs.YtnmgbheaabdhlaaDoor Go.RowKit Go.Proofs.YtnmgbheaabdhlaaDoor.Sx
set_option linter.unusedVariables false
set_option maxRecDepth 100000
def tab : List (FuncId × Sx.Spec) := []
def pls : List (FuncId × Plan) := []
@[reducible] def i : Sh := .sc (.int .u8) (.sc (.int .i64) .nil)
@[reducible] def o : Sh := .sc .bool .nil
abbrev FT := (Int × Int) → Option (Bool × Unit)
theorem tabS : AllS Tryd.prog (tab) := trivial
theorem plsP : AllP Tryd.prog (pls) := trivial
theorem mixed : Tryd.prog.follows .mixedOrders = true := by kernel_rfl
def fP : FT := fun (t, n) =>
    bif t == 1 then bif decide (n < 29) then some (true, PUnit.unit) else some (false, PUnit.unit)
    else
      bif t == 2 then bif decide (n < 23) then some (true, PUnit.unit) else some (false, PUnit.unit)
      else
       bif t == 3 then bif decide (n < 21) then some (true, PUnit.unit) else some (false, PUnit.unit)
       else
       bif t == 4 then bif decide (n < 19) then some (true, PUnit.unit) else some (decide (n > 19), PUnit.unit)
       else bif decide (n < 23) then some (true, PUnit.unit) else some (decide (n > 23), PUnit.unit)
theorem fe (d : Int × Int) : bodyF (tabC Tryd.prog (tab) ((38, .none) :: pls) 100 12) 100 38 i o d = fP d := by kernel_rfl
noncomputable def f : FT := fP
def plan : Plan := .none
theorem planOk : PlanOk Tryd.prog (plan) (bodyOf Tryd.prog 38) := (planOk_of (plan) _ [] (by kernel_rfl) trivial)
theorem meets : MeetsF Tryd.prog 38 ⟨i, o, f⟩ :=
  funcT (fuel := 100) (depth := 12) (pl := (38, plan) :: pls) mixed tabS ⟨planOk, plsP⟩ (fun d => fe  d)
theorem spec : SpecOk Tryd.prog (fun _ => none) 38 (specF ⟨i, o, f⟩) := specF_ok (by kernel_rfl) meets
end Go.Proofs.YtnmgbheaabdhlaaDoor.F38

/- What comes of function 22 of this program, consulate.consulateref03.Bytes, as the engine gives it. -/
namespace Go.Proofs.YtnmgbheaabdhlaaDoor.F22
open Go Go.Proofs Go.Proofs.YtnmgbheaabdhlaaDoor Go.RowKit Go.Proofs.YtnmgbheaabdhlaaDoor.Sx
set_option linter.unusedVariables false
set_option maxRecDepth 100000
def tab (x38 : F38.FT) : List (FuncId × Sx.Spec) := [(38, specF ⟨F38.i, F38.o, x38⟩)]
def pls (x38 : F38.FT) : List (FuncId × Plan) := []
@[reducible] def k1 : Sh := .nil
@[reducible] def i1 : Sh := .sl true 5 (.sc (.int .u8) .nil) (.sc (.int .i64) .nil)
@[reducible] def o1 : Sh := .sl true 5 (.sc (.int .u8) .nil) .nil
abbrev G1 := Unit → (List (Int) × Int) → Option (List (Int) × Unit)
def u1 (F : G1) : Un := ⟨49, [], k1, [5, 6], i1, [5], o1, [1, 4], [(.exit 0, [true])], F⟩
@[reducible] def i : Sh := .ag none (.sc (.int .u8) (.sl false 5 (.sc (.int .u8) .nil) .nil)) .nil
@[reducible] def o : Sh := .sl true 5 (.sc (.int .u8) .nil) (.sc (.int .i64) .nil)
abbrev FT := ((Int × List (Int))) → Option ((List (Int) × Int) × Unit)
theorem tabS : AllS Tryd.prog (tab F38.f) := ⟨F38.spec, trivial⟩
theorem plsP : AllP Tryd.prog (pls F38.f) := trivial
theorem mixed : Tryd.prog.follows .mixedOrders = true := by kernel_rfl
def r1P (x38 : F38.FT) : Unit → (List (Int) × Int) → Option ((List (Int) × Int) ⊕ (List (Int) × Unit)) := fun () (out, i) =>
    bif decide (i < 16) then
      bif decide (out.length + 1 / OfNat.ofNat 1 ≤ 1073741824) then
       bif decide (0 + out.length ≤ out.length) then
       bif decide (0 + (out.length + 1 / OfNat.ofNat 1) ≤ (List.take out.length out ++ [255]).length) && true then
       some
       (Sum.inl
       (List.take (out.length + 1 / OfNat.ofNat 1) (List.drop 0 (List.take out.length out ++ [255])),
       IntKind.i64.wrap (i + 1)))
       else none
       else none
      else none
    else
      bif decide (0 + out.length ≤ out.length) && true then some (Sum.inr (List.take out.length out, PUnit.unit))
      else none
theorem r1e (x38 : F38.FT) (kd : Unit) (d : List (Int) × Int) : roundF (tabC Tryd.prog (tab x38) (pls x38) 100 12) 100 .none (u1 fun _ _ => none) (codeAt [1, 1, 1, 1, 1, 0, 1, 0, 0] (bodyOf Tryd.prog 22)) kd d = r1P x38 kd d := by kernel_rfl
noncomputable def r1 : Unit → (List (Int) × Int) → Option ((List (Int) × Int) ⊕ (List (Int) × Unit)) := r1P F38.f
noncomputable def l1 : G1 := fun kd d => iterO (r1 kd) d
theorem ok1 : UnOk Tryd.prog (u1 l1) (codeAt [1, 1, 1, 1, 1, 0, 1, 0] (bodyOf Tryd.prog 22)) :=
  loopT (p := .none) (c := codeAt [1, 1, 1, 1, 1, 0, 1, 0, 0] (bodyOf Tryd.prog 22)) (fuel := 100) (depth := 12) mixed tabS plsP (by kernel_rfl) trivial (by kernel_rfl) (fun kd d => r1e F38.f kd d) rfl
def fP (x38 : F38.FT) (l1 : G1) : FT := fun (m0, m1) =>
    bif decide (m0 < 1) then some (([], 1), PUnit.unit)
    else
      bif decide (m0 > 5) then some (([], 1), PUnit.unit)
      else
       (x38 (m0, IntKind.i64.wrap (19 + (↑m1.length : Int)))).bind fun r0 =>
       bif r0.fst then some (([], 1), PUnit.unit)
       else
       bif decide (IntKind.i64.wrap (19 + (↑m1.length : Int)) > 4096) then some (([], 3), PUnit.unit)
       else
       (l1 PUnit.unit ([], 0)).bind fun r1 =>
       bif decide (List.length r1.fst + 3 / OfNat.ofNat 1 ≤ 1073741824) then
       bif decide (0 + List.length r1.fst ≤ List.length r1.fst) then
       bif decide (0 + m1.length ≤ m1.length) then
       bif
       decide
       (List.length r1.fst + 3 / OfNat.ofNat 1 + (List.take m1.length m1).length ≤ 1073741824) then
       bif
       decide
       (0 + (List.length r1.fst + 3 / OfNat.ofNat 1) ≤
       (List.take (List.length r1.fst) (List.drop 0 r1.fst) ++
       [IntKind.u8.wrap
       (IntKind.i64.wrap ((IntKind.i64.wrap (19 + (↑m1.length : Int))).tdiv 256)),
       IntKind.u8.wrap ((IntKind.i64.wrap (19 + (↑m1.length : Int))).tmod 256),
       m0]).length) then
       bif
       decide
       (0 + (List.length r1.fst + 3 / OfNat.ofNat 1 + (List.take m1.length m1).length) ≤
       (List.take (List.length r1.fst + 3 / OfNat.ofNat 1)
       (List.drop 0
       (List.take (List.length r1.fst) (List.drop 0 r1.fst) ++
       [IntKind.u8.wrap
       (IntKind.i64.wrap
       ((IntKind.i64.wrap (19 + (↑m1.length : Int))).tdiv 256)),
       IntKind.u8.wrap ((IntKind.i64.wrap (19 + (↑m1.length : Int))).tmod 256),
       m0])) ++
       List.take m1.length m1).length) &&
       true then
       some
       ((List.take (List.length r1.fst + 3 / OfNat.ofNat 1 + (List.take m1.length m1).length)
       (List.drop 0
       (List.take (List.length r1.fst + 3 / OfNat.ofNat 1)
       (List.drop 0
       (List.take (List.length r1.fst) (List.drop 0 r1.fst) ++
       [IntKind.u8.wrap
       (IntKind.i64.wrap
       ((IntKind.i64.wrap (19 + (↑m1.length : Int))).tdiv 256)),
       IntKind.u8.wrap ((IntKind.i64.wrap (19 + (↑m1.length : Int))).tmod 256),
       m0])) ++
       List.take m1.length m1)),
       0),
       PUnit.unit)
       else none
       else none
       else none
       else none
       else none
       else none
theorem fe (x38 : F38.FT) (l1 : G1) (d : (Int × List (Int))) : bodyF (tabC Tryd.prog (tab x38) ((22, (.node .none (.node .none (.node .none (.node .none (.node .none (.node (.node .none (.node (.unit (u1 l1)) .none)) .none))))))) :: pls x38) 100 12) 100 22 i o d = fP x38 l1 d := by kernel_rfl
noncomputable def f : FT := fP F38.f l1
def plan (l1 : G1) : Plan := (.node .none (.node .none (.node .none (.node .none (.node .none (.node (.node .none (.node (.unit (u1 l1)) .none)) .none))))))
theorem planOk : PlanOk Tryd.prog (plan l1) (bodyOf Tryd.prog 22) := (planOk_of (plan l1) _ [([1, 1, 1, 1, 1, 0, 1, 0], u1 l1)] rfl ⟨ok1, trivial⟩)
theorem meets : MeetsF Tryd.prog 22 ⟨i, o, f⟩ :=
  funcT (fuel := 100) (depth := 12) (pl := (22, plan l1) :: pls F38.f) mixed tabS ⟨planOk, plsP⟩ (fun d => fe F38.f l1 d)
theorem spec : SpecOk Tryd.prog (fun _ => none) 22 (specF ⟨i, o, f⟩) := specF_ok (by kernel_rfl) meets
end Go.Proofs.YtnmgbheaabdhlaaDoor.F22

/- Chapter 3: a message's bytes. -/
namespace Go.Proofs.YtnmgbheaabdhlaaDoor.PE
open Go Go.Proofs Go.Proofs.YtnmgbheaabdhlaaDoor.Sx Go.Proofs.YtnmgbheaabdhlaaDoor.PA Go.Proofs.YtnmgbheaabdhlaaDoor.PB Go.Proofs.YtnmgbheaabdhlaaDoor.PC Go.Proofs.YtnmgbheaabdhlaaDoor.PD
set_option linter.unusedSimpArgs false
set_option linter.unusedVariables false
/-- Is such a message none? -/
def bad (n t : Int) : Bool := decide (t < 1) || decide (5 < t) || !fit n t
/-- The bytes ahead of a body. -/
def ahead (n t : Int) : List Int := List.replicate 16 255 ++ [n / 256, n % 256, t]
def lay (t : Int) (m : List Int) : List Int × Int :=
  if bad (19 + (m.length : Int)) t = true then ([], 1) else if 4096 < 19 + (m.length : Int) then ([], 3) else (ahead (19 + (m.length : Int)) t ++ m, 0)
theorem badP {t n : Int} {m : List Int} (ht : 0 ≤ t ∧ t ≤ 255) (hn : 19 ≤ n) : F21.l1 ((t, m), n) () = some (bad n t, ()) := by
  unfold F21.l1 F21.r1 F21.r1P bad
  by_cases h1 : t < 1
  · have : t = 0 := by omega
    subst this
    simp
  by_cases h2 : 5 < t
  · have c1 : ¬ t ≤ 5 := by omega
    have c2 : 1 ≤ t := by omega
    simp [h1, h2, c1, c2]
  have hc : t = 1 ∨ t = 2 ∨ t = 3 ∨ t = 4 ∨ t = 5 := by omega
  unfold fit
  rcases hc with rfl | rfl | rfl | rfl | rfl
  · by_cases h : 29 ≤ n
    · have : ¬ n < 29 := by omega
      simp [h, this, show Nat.beq 1 0 = false from rfl, show Nat.beq 1 1 = true from rfl]
    · have : n < 29 := by omega
      simp [h, this, show Nat.beq 1 0 = false from rfl, show Nat.beq 1 1 = true from rfl]
  · by_cases h : 23 ≤ n
    · have : ¬ n < 23 := by omega
      simp [h, this, show Nat.beq 2 0 = false from rfl, show Nat.beq 2 1 = false from rfl, show Nat.beq 2 2 = true from rfl]
    · have : n < 23 := by omega
      simp [h, this, show Nat.beq 2 0 = false from rfl, show Nat.beq 2 1 = false from rfl, show Nat.beq 2 2 = true from rfl]
  · by_cases h : 21 ≤ n
    · have : ¬ n < 21 := by omega
      simp [h, this, show Nat.beq 3 0 = false from rfl, show Nat.beq 3 1 = false from rfl, show Nat.beq 3 2 = false from rfl, show Nat.beq 3 3 = true from rfl]
    · have : n < 21 := by omega
      simp [h, this, show Nat.beq 3 0 = false from rfl, show Nat.beq 3 1 = false from rfl, show Nat.beq 3 2 = false from rfl, show Nat.beq 3 3 = true from rfl]
  · by_cases h : n = 19
    · subst h; simp [show Nat.beq 4 0 = false from rfl, show Nat.beq 4 1 = false from rfl, show Nat.beq 4 2 = false from rfl, show Nat.beq 4 3 = false from rfl, show Nat.beq 4 4 = true from rfl]
    · have h3 : ¬ n < 19 := by omega
      have h4 : n > 19 := by omega
      simp [h, h3, h4, show Nat.beq 4 0 = false from rfl, show Nat.beq 4 1 = false from rfl, show Nat.beq 4 2 = false from rfl, show Nat.beq 4 3 = false from rfl, show Nat.beq 4 4 = true from rfl]
  · by_cases h : n = 23
    · subst h; simp [show Nat.beq 5 0 = false from rfl, show Nat.beq 5 1 = false from rfl, show Nat.beq 5 2 = false from rfl, show Nat.beq 5 3 = false from rfl, show Nat.beq 5 4 = false from rfl, show Nat.beq 5 5 = true from rfl]
    · by_cases h3 : n < 23
      · simp [h, h3, show Nat.beq 5 0 = false from rfl, show Nat.beq 5 1 = false from rfl, show Nat.beq 5 2 = false from rfl, show Nat.beq 5 3 = false from rfl, show Nat.beq 5 4 = false from rfl, show Nat.beq 5 5 = true from rfl]
      · have h4 : n > 23 := by omega
        simp [h, h3, h4, show Nat.beq 5 0 = false from rfl, show Nat.beq 5 1 = false from rfl, show Nat.beq 5 2 = false from rfl, show Nat.beq 5 3 = false from rfl, show Nat.beq 5 4 = false from rfl, show Nat.beq 5 5 = true from rfl]
theorem wrongP {t n : Int} (ht : 1 ≤ t ∧ t ≤ 5) (hn : 19 ≤ n) : F38.f (t, n) = some (!fit n t, ()) := by
  unfold F38.f F38.fP fit
  have hc : t = 1 ∨ t = 2 ∨ t = 3 ∨ t = 4 ∨ t = 5 := by omega
  rcases hc with rfl | rfl | rfl | rfl | rfl
  · by_cases h : 29 ≤ n
    · have : ¬ n < 29 := by omega
      simp [h, this]
    · have : n < 29 := by omega
      simp [h, this]
  · by_cases h : 23 ≤ n
    · have : ¬ n < 23 := by omega
      simp [h, this]
    · have : n < 23 := by omega
      simp [h, this]
  · by_cases h : 21 ≤ n
    · have : ¬ n < 21 := by omega
      simp [h, this]
    · have : n < 21 := by omega
      simp [h, this]
  · by_cases h : n = 19
    · subst h; simp
    · have h3 : ¬ n < 19 := by omega
      have h4 : n > 19 := by omega
      simp [h, h3, h4]
  · by_cases h : n = 23
    · subst h; simp
    · by_cases h3 : n < 23
      · simp [h, h3]
      · have h4 : n > 23 := by omega
        simp [h, h3, h4]
theorem rep16 : F21.l2 () () = some (List.replicate 16 255, ()) := by
  have h : F39.f ([255], 16) = some (List.replicate 16 255, ()) := by
    have hl : F39.l1 () ([255, 0, 0, 0, 0, 0, 0, 0, 0, 0, 0, 0, 0, 0, 0, 0], 1) = some (List.replicate 16 255, ()) := iterO_of ⟨5, by kernel_rfl⟩
    have e : F39.f ([255], 16) = (F39.l1 () ([255, 0, 0, 0, 0, 0, 0, 0, 0, 0, 0, 0, 0, 0, 0, 0], 1)).bind fun r0 =>
        bif decide (0 + List.length r0.fst ≤ List.length r0.fst) && true then some (List.take (List.length r0.fst) (List.drop 0 r0.fst), PUnit.unit) else none := by
      show F39.fP F39.l1 ([255], 16) = _
      generalize F39.l1 = g
      kernel_rfl
    rw [e, hl]
    rfl
  unfold F21.l2 F21.r2 F21.r2P
  simp only [h, Option.bind_some, le_all, cond_true, Bool.and_true, take_all]
theorem twoW {w : List Int} {n : Int} (hn : 0 ≤ n ∧ n ≤ 65535) (hw : w.length ≤ 1000) : F42.l1 ([n], 1) ((w, [], 0, true), 0) = some ((), w ++ [n / 256, n % 256], [], 0, true) := by
  refine iterO_of ⟨2, ?_⟩
  have r0 : F42.r1 ([n], 1) ((w, [], 0, true), 0) = some (.inl ((w ++ [n / 256, n % 256], [], 0, true), 1)) := by
    unfold F42.r1 F42.r1P
    have e1 : IntKind.u8.wrap (Int.fdiv n 256) = n / 256 := by rw [Int.fdiv_eq_ediv_of_nonneg _ (by omega), IntKind.wrap_u8]; omega
    have e2 : IntKind.u8.wrap n = n % 256 := by rw [IntKind.wrap_u8]
    have c1 : decide (w.length + 2 ≤ 1073741824) = true := decide_eq_true (by omega)
    have c2 : decide (0 + (w.length + 2) ≤ (w ++ [n / 256, n % 256]).length) = true := decide_eq_true (by simp)
    have e3 : (w ++ [n / 256, n % 256]).take (w.length + 2) = w ++ [n / 256, n % 256] := List.take_of_length_le (by simp)
    have e0 : [n].getD (0 + (0 : Int).toNat) 0 = n := rfl
    have d1 : decide ((0 : Int) < 1) = true := rfl
    have d2 : decide ((0 : Int) ≤ 0 ∧ (0 : Int) < ((([n] : List Int).length : Nat) : Int) ∧ 0 < ([n] : List Int).length) = true := rfl
    have d3 : decide (0 + (0 : Int).toNat < ([n] : List Int).length) = true := rfl
    simp only [d1, d2, d3, e0, e1, e2, c1, c2, e3, le_all, cond_true, cond_false, Bool.not_true, Bool.and_true, beq_self_eq_true, List.take_length, List.drop_zero]
    rfl
  rw [iterN_step, r0, scR_inl, iterN_step]
  rfl
theorem writeP {t : Int} {m : List Int} {n : Int} (hn : 0 ≤ n ∧ n ≤ 65535) (hm : m.length ≤ 5000) : F21.l3 ((t, m), n) (List.replicate 16 255) = some ((ahead n t ++ m, 0), ()) := by
  unfold F21.l3 F21.r3 F21.r3P
  have e16 : List.take (List.replicate 16 (255 : Int)).length (List.replicate 16 (255 : Int)) = List.replicate 16 255 := List.take_length
  have c1 : decide ((List.replicate 16 (255 : Int)).length = 0) = false := rfl
  have c2 : decide ((List.replicate 16 (255 : Int)).length ≤ 1073741824) = true := rfl
  have tw := twoW (w := List.replicate 16 255) hn (by simp)
  have en : IntKind.u16.wrap n = n := u16w hn
  generalize hw : List.replicate 16 (255 : Int) ++ [n / 256, n % 256] = w at tw
  have hwl : w.length = 18 := by rw [← hw]; simp
  have c3 : decide (w.length + 1 / OfNat.ofNat 1 ≤ 1073741824) = true := decide_eq_true (by rw [hwl]; decide)
  have c4 : decide (w.length + 1 / OfNat.ofNat 1 + m.length ≤ 1073741824) = true := decide_eq_true (by rw [hwl]; show 18 + 1 + m.length ≤ _; omega)
  have c5 : decide (0 + (w.length + 1 / OfNat.ofNat 1) ≤ (w ++ [t]).length) = true := decide_eq_true (by rw [List.length_append, hwl]; show 0 + (18 + 1) ≤ 18 + 1; omega)
  have e3 : (w ++ [t]).take (w.length + 1 / OfNat.ofNat 1) = w ++ [t] := List.take_of_length_le (by rw [List.length_append, hwl]; show 18 + 1 ≤ 18 + 1; omega)
  have c6 : decide (0 + (w.length + 1 / OfNat.ofNat 1 + m.length) ≤ (w ++ [t] ++ m).length) = true := decide_eq_true (by rw [List.length_append, List.length_append, hwl]; show 0 + (18 + 1 + m.length) ≤ 18 + 1 + m.length; omega)
  have e4 : (w ++ [t] ++ m).take (w.length + 1 / OfNat.ofNat 1 + m.length) = w ++ [t] ++ m := List.take_of_length_le (by rw [List.length_append, List.length_append, hwl]; show 18 + 1 + m.length ≤ 18 + 1 + m.length; omega)
  have ha : ahead n t ++ m = w ++ [t] ++ m := by rw [← hw]; simp [ahead]
  have done : F43.f (w ++ [t] ++ m, [], 0, true) = some ((w ++ [t] ++ m, 0), w ++ [t] ++ m, [], 0, true) := by
    unfold F43.f F43.fP
    have cl := clone (l := w ++ [t] ++ m) (by rw [List.length_append, List.length_append, hwl]; simp; omega)
    simp only [Bool.not_true, cond_false, bne_self_eq_false, le_all, cond_true, Bool.and_true, List.take_length, cl, Option.bind_some, take_all]
    rfl
  have n0 : ∀ (α : Type), List.take ([] : List α).length (List.drop 0 ([] : List α)) = [] := fun _ => rfl
  have l0 : ∀ (α : Type), decide (0 + ([] : List α).length ≤ ([] : List α).length) = true := fun _ => rfl
  simp only [le_all, cond_true, cond_false, e16, c1, c2, Bool.and_true, List.nil_append, take_all, en, tw, Option.bind_some, Bool.not_true, beq_self_eq_true, c3, c4, c5, c6, e3, e4, List.take_length, List.drop_zero, n0, l0, done, ha]
theorem bytesP {t : Int} {m : List Int} (ht : 0 ≤ t ∧ t ≤ 255) (hm : m.length ≤ 5000) : F21.f (t, m) = some (lay t m, ()) := by
  unfold F21.f F21.fP lay
  have w : IntKind.i64.wrap (19 + (m.length : Int)) = 19 + (m.length : Int) := wrap64_id (by omega)
  simp only [le_all, cond_true, Bool.and_true, List.take_length, w, badP (m := m) ht (show 19 ≤ 19 + (m.length : Int) by omega), Option.bind_some]
  cases hb : bad (19 + (m.length : Int)) t with
  | true => simp only [cond_true, if_true]
  | false =>
    simp only [cond_false, Bool.false_eq_true, if_false]
    by_cases hl : 4096 < 19 + (m.length : Int)
    · rw [if_pos hl, decide_eq_true (show 19 + (m.length : Int) > 4096 from hl)]
      rfl
    · rw [if_neg hl, decide_eq_false (show ¬ 19 + (m.length : Int) > 4096 from hl)]
      simp only [cond_false, rep16, Option.bind_some, le_all, cond_true, take_all, writeP (t := t) (m := m) (n := 19 + (m.length : Int)) (by omega) hm]
theorem ones22 : F22.l1 () ([], 0) = some (List.replicate 16 255, ()) := iterO_of ⟨17, by kernel_rfl⟩
theorem refP {t : Int} {m : List Int} (ht : 0 ≤ t ∧ t ≤ 255) (hm : m.length ≤ 5000) : F22.f (t, m) = some (lay t m, ()) := by
  unfold F22.f F22.fP lay
  have w : IntKind.i64.wrap (19 + (m.length : Int)) = 19 + (m.length : Int) := wrap64_id (by omega)
  by_cases h1 : t < 1
  · have hb : bad (19 + (m.length : Int)) t = true := by unfold bad; rw [decide_eq_true h1]; rfl
    rw [if_pos hb]
    simp only [decide_eq_true h1, cond_true]
  by_cases h2 : 5 < t
  · have hb : bad (19 + (m.length : Int)) t = true := by unfold bad; rw [decide_eq_true h2]; simp
    rw [if_pos hb]
    simp only [decide_eq_false h1, decide_eq_true (show t > 5 from h2), cond_true, cond_false]
  have hbad : bad (19 + (m.length : Int)) t = !fit (19 + (m.length : Int)) t := by unfold bad; rw [decide_eq_false h1, decide_eq_false h2]; rfl
  simp only [decide_eq_false h1, decide_eq_false (show ¬ t > 5 from h2), cond_false, w, wrongP (t := t) (n := 19 + (m.length : Int)) (by omega) (by omega), Option.bind_some, hbad]
  cases hf : fit (19 + (m.length : Int)) t with
  | false => simp only [Bool.not_false, cond_true, if_true]
  | true =>
    simp only [Bool.not_true, cond_false, Bool.false_eq_true, if_false]
    by_cases hl : 4096 < 19 + (m.length : Int)
    · rw [if_pos hl, decide_eq_true (show 19 + (m.length : Int) > 4096 from hl)]
      rfl
    · rw [if_neg hl, decide_eq_false (show ¬ 19 + (m.length : Int) > 4096 from hl)]
      have e1 : IntKind.u8.wrap (IntKind.i64.wrap ((19 + (m.length : Int)).tdiv 256)) = (19 + (m.length : Int)) / 256 := by
        rw [Int.tdiv_eq_ediv_of_nonneg (by omega), wrap64_id (by omega), IntKind.wrap_u8]; omega
      have e2 : IntKind.u8.wrap ((19 + (m.length : Int)).tmod 256) = (19 + (m.length : Int)) % 256 := by
        rw [Int.tmod_eq_emod_of_nonneg (by omega), IntKind.wrap_u8]; omega
      have c3 : decide ((List.replicate 16 (255 : Int)).length + 3 / OfNat.ofNat 1 ≤ 1073741824) = true := rfl
      have c4 : decide ((List.replicate 16 (255 : Int)).length + 3 / OfNat.ofNat 1 + m.length ≤ 1073741824) = true := decide_eq_true (by show 16 + 3 + m.length ≤ _; omega)
      have c5 : decide (0 + ((List.replicate 16 (255 : Int)).length + 3 / OfNat.ofNat 1) ≤ (List.replicate 16 (255 : Int) ++ [(19 + (m.length : Int)) / 256, (19 + (m.length : Int)) % 256, t]).length) = true := rfl
      have e3 : (List.replicate 16 (255 : Int) ++ [(19 + (m.length : Int)) / 256, (19 + (m.length : Int)) % 256, t]).take ((List.replicate 16 (255 : Int)).length + 3 / OfNat.ofNat 1) = List.replicate 16 (255 : Int) ++ [(19 + (m.length : Int)) / 256, (19 + (m.length : Int)) % 256, t] := rfl
      have c6 : decide (0 + ((List.replicate 16 (255 : Int)).length + 3 / OfNat.ofNat 1 + m.length) ≤ (List.replicate 16 (255 : Int) ++ [(19 + (m.length : Int)) / 256, (19 + (m.length : Int)) % 256, t] ++ m).length) = true := decide_eq_true (by rw [List.length_append]; show 0 + (16 + 3 + m.length) ≤ 19 + m.length; omega)
      have e4 : (List.replicate 16 (255 : Int) ++ [(19 + (m.length : Int)) / 256, (19 + (m.length : Int)) % 256, t] ++ m).take ((List.replicate 16 (255 : Int)).length + 3 / OfNat.ofNat 1 + m.length) = List.replicate 16 (255 : Int) ++ [(19 + (m.length : Int)) / 256, (19 + (m.length : Int)) % 256, t] ++ m := List.take_of_length_le (by rw [List.length_append]; show 19 + m.length ≤ 16 + 3 + m.length; omega)
      simp only [cond_false, ones22, Option.bind_some, c3, c4, le_all, cond_true, Bool.and_true, take_all, List.take_length, e1, e2, c5, e3, c6, e4, List.drop_zero]
      rfl
end Go.Proofs.YtnmgbheaabdhlaaDoor.PE

/- What comes of function 19 of this program, consulate.consulateref03.Read, as the engine gives it. -/
namespace Go.Proofs.YtnmgbheaabdhlaaDoor.F19
open Go Go.Proofs Go.Proofs.YtnmgbheaabdhlaaDoor Go.RowKit Go.Proofs.YtnmgbheaabdhlaaDoor.Sx
set_option linter.unusedVariables false
set_option maxRecDepth 100000
def tab (x38 : F38.FT) : List (FuncId × Sx.Spec) := [(38, specF ⟨F38.i, F38.o, x38⟩)]
def pls (x38 : F38.FT) : List (FuncId × Plan) := []
@[reducible] def k1 : Sh := .sl false 5 (.sc (.int .u8) .nil) (.sc (.int .i64) .nil)
@[reducible] def i1 : Sh := .po true 47 (.sl true 58 (.sc (.int .u8) (.sl false 5 (.sc (.int .u8) .nil) .nil)) (.sc (.int .i64) (.sc (.int .i64) (.sl true 5 (.sc (.int .u8) .nil) (.sc (.int .i64) .nil))))) (.po true 47 (.sl true 58 (.sc (.int .u8) (.sl false 5 (.sc (.int .u8) .nil) .nil)) (.sc (.int .i64) (.sc (.int .i64) (.sl true 5 (.sc (.int .u8) .nil) (.sc (.int .i64) .nil))))) (.sc (.int .i64) .nil))
@[reducible] def o1 : Sh := .sc (.int .i64) (.po true 47 (.sl true 58 (.sc (.int .u8) (.sl false 5 (.sc (.int .u8) .nil) .nil)) (.sc (.int .i64) (.sc (.int .i64) (.sl true 5 (.sc (.int .u8) .nil) (.sc (.int .i64) .nil))))) (.po true 47 (.sl true 58 (.sc (.int .u8) (.sl false 5 (.sc (.int .u8) .nil) .nil)) (.sc (.int .i64) (.sc (.int .i64) (.sl true 5 (.sc (.int .u8) .nil) (.sc (.int .i64) .nil))))) .nil))
abbrev G1 := (List (Int) × Int) → ((Option ((List (Int × List (Int))) × Int × Int × List (Int) × Int)) × (Option ((List (Int × List (Int))) × Int × Int × List (Int) × Int)) × Int) → Option ((Int × (Option ((List (Int × List (Int))) × Int × Int × List (Int) × Int)) × (Option ((List (Int × List (Int))) × Int × Int × List (Int) × Int))) × Unit)
def u1 (F : G1) : Un := ⟨119, [0, 4], k1, [2, 3, 5], i1, [2, 3], o1, [0, 4], [(.exit 2, [true, true]), (.ret, [true, false])], F⟩
@[reducible] def k2 : Sh := .sl false 5 (.sc (.int .u8) .nil) (.sc (.int .i64) .nil)
@[reducible] def i2 : Sh := .nil
@[reducible] def o2 : Sh := .sc (.int .i64) .nil
abbrev G2 := (List (Int) × Int) → Unit → Option (Int × Unit)
def u2 (F : G2) : Un := ⟨119, [0, 4], k2, [], i2, [6], o2, [0, 2, 3, 4], [(.normal, [true])], F⟩
@[reducible] def k3 : Sh := .sl false 5 (.sc (.int .u8) .nil) (.sc (.int .i64) .nil)
@[reducible] def i3 : Sh := .nil
@[reducible] def o3 : Sh := .sc (.int .u8) .nil
abbrev G3 := (List (Int) × Int) → Unit → Option (Int × Unit)
def u3 (F : G3) : Un := ⟨119, [0, 4], k3, [], i3, [7], o3, [0, 2, 3, 4, 6], [(.normal, [true])], F⟩
@[reducible] def k4 : Sh := .sc (.int .i64) .nil
@[reducible] def i4 : Sh := .nil
@[reducible] def o4 : Sh := .sc .bool .nil
abbrev G4 := Int → Unit → Option (Bool × Unit)
def u4 (F : G4) : Un := ⟨119, [6], k4, [], i4, [8], o4, [0, 2, 3, 4, 6, 7], [(.normal, [true])], F⟩
@[reducible] def k5 : Sh := .sc (.int .u8) (.sc .bool .nil)
@[reducible] def i5 : Sh := .nil
@[reducible] def o5 : Sh := .sc .bool .nil
abbrev G5 := (Int × Bool) → Unit → Option (Bool × Unit)
def u5 (F : G5) : Un := ⟨119, [7, 8], k5, [], i5, [62], o5, [0, 2, 3, 4, 6, 7, 8], [(.normal, [true])], F⟩
@[reducible] def k6 : Sh := .sc (.int .i64) (.sc (.int .u8) (.sc .bool .nil))
@[reducible] def i6 : Sh := .nil
@[reducible] def o6 : Sh := .sc .bool .nil
abbrev G6 := (Int × Int × Bool) → Unit → Option (Bool × Unit)
def u6 (F : G6) : Un := ⟨119, [6, 7, 8], k6, [], i6, [74], o6, [0, 2, 3, 4, 6, 7], [(.normal, [true])], F⟩
@[reducible] def k7 : Sh := .sl false 5 (.sc (.int .u8) .nil) (.sc (.int .i64) (.sc (.int .i64) .nil))
@[reducible] def i7 : Sh := .nil
@[reducible] def o7 : Sh := .sc .bool .nil
abbrev G7 := (List (Int) × Int × Int) → Unit → Option (Bool × Unit)
def u7 (F : G7) : Un := ⟨119, [0, 4, 6], k7, [], i7, [95], o7, [0, 2, 3, 4, 6, 7], [(.normal, [true])], F⟩
@[reducible] def k8 : Sh := .sc (.int .i64) .nil
@[reducible] def i8 : Sh := .sc (.int .i64) .nil
@[reducible] def o8 : Sh := .sc (.int .i64) .nil
abbrev G8 := Int → Int → Option (Int × Unit)
def u8 (F : G8) : Un := ⟨119, [6], k8, [4], i8, [4], o8, [0, 2, 3], [(.normal, [true])], F⟩
@[reducible] def k9 : Sh := .sl false 5 (.sc (.int .u8) .nil) .nil
@[reducible] def i9 : Sh := .po true 47 (.sl true 58 (.sc (.int .u8) (.sl false 5 (.sc (.int .u8) .nil) .nil)) (.sc (.int .i64) (.sc (.int .i64) (.sl true 5 (.sc (.int .u8) .nil) (.sc (.int .i64) .nil))))) (.po true 47 (.sl true 58 (.sc (.int .u8) (.sl false 5 (.sc (.int .u8) .nil) .nil)) (.sc (.int .i64) (.sc (.int .i64) (.sl true 5 (.sc (.int .u8) .nil) (.sc (.int .i64) .nil))))) (.sc (.int .i64) .nil))
@[reducible] def o9 : Sh := .sc (.int .i64) (.po true 47 (.sl true 58 (.sc (.int .u8) (.sl false 5 (.sc (.int .u8) .nil) .nil)) (.sc (.int .i64) (.sc (.int .i64) (.sl true 5 (.sc (.int .u8) .nil) (.sc (.int .i64) .nil))))) (.po true 47 (.sl true 58 (.sc (.int .u8) (.sl false 5 (.sc (.int .u8) .nil) .nil)) (.sc (.int .i64) (.sc (.int .i64) (.sl true 5 (.sc (.int .u8) .nil) (.sc (.int .i64) .nil))))) (.sc (.int .i64) .nil)))
abbrev G9 := List (Int) → ((Option ((List (Int × List (Int))) × Int × Int × List (Int) × Int)) × (Option ((List (Int × List (Int))) × Int × Int × List (Int) × Int)) × Int) → Option ((Int × (Option ((List (Int × List (Int))) × Int × Int × List (Int) × Int)) × (Option ((List (Int × List (Int))) × Int × Int × List (Int) × Int)) × Int) × Unit)
def u9 (F : G9) : Un := ⟨119, [0], k9, [2, 3, 4], i9, [2, 3, 4], o9, [0], [(.normal, [true, true, true]), (.ret, [true, false, false]), (.exit 0, [true, true, true])], F⟩
@[reducible] def k10 : Sh := .sl false 5 (.sc (.int .u8) .nil) .nil
@[reducible] def i10 : Sh := .po true 47 (.sl true 58 (.sc (.int .u8) (.sl false 5 (.sc (.int .u8) .nil) .nil)) (.sc (.int .i64) (.sc (.int .i64) (.sl true 5 (.sc (.int .u8) .nil) (.sc (.int .i64) .nil))))) (.po true 47 (.sl true 58 (.sc (.int .u8) (.sl false 5 (.sc (.int .u8) .nil) .nil)) (.sc (.int .i64) (.sc (.int .i64) (.sl true 5 (.sc (.int .u8) .nil) (.sc (.int .i64) .nil))))) (.sc (.int .i64) .nil))
@[reducible] def o10 : Sh := .sc (.int .i64) (.po true 47 (.sl true 58 (.sc (.int .u8) (.sl false 5 (.sc (.int .u8) .nil) .nil)) (.sc (.int .i64) (.sc (.int .i64) (.sl true 5 (.sc (.int .u8) .nil) (.sc (.int .i64) .nil))))) (.po true 47 (.sl true 58 (.sc (.int .u8) (.sl false 5 (.sc (.int .u8) .nil) .nil)) (.sc (.int .i64) (.sc (.int .i64) (.sl true 5 (.sc (.int .u8) .nil) (.sc (.int .i64) .nil))))) (.sc (.int .i64) .nil)))
abbrev G10 := List (Int) → ((Option ((List (Int × List (Int))) × Int × Int × List (Int) × Int)) × (Option ((List (Int × List (Int))) × Int × Int × List (Int) × Int)) × Int) → Option ((Int × (Option ((List (Int × List (Int))) × Int × Int × List (Int) × Int)) × (Option ((List (Int × List (Int))) × Int × Int × List (Int) × Int)) × Int) × Unit)
def u10 (F : G10) : Un := ⟨119, [0], k10, [2, 3, 4], i10, [2, 3, 4], o10, [0], [(.exit 0, [true, true, true]), (.ret, [true, false, false])], F⟩
@[reducible] def i : Sh := .sl false 5 (.sc (.int .u8) .nil) .nil
@[reducible] def o : Sh := .ag none (.sl true 58 (.sc (.int .u8) (.sl false 5 (.sc (.int .u8) .nil) .nil)) (.sc (.int .i64) (.sc (.int .i64) (.sl true 5 (.sc (.int .u8) .nil) (.sc (.int .i64) .nil))))) .nil
abbrev FT := List (Int) → Option ((((List (Int × List (Int))) × Int × Int × List (Int) × Int)) × Unit)
theorem tabS : AllS Tryd.prog (tab F38.f) := ⟨F38.spec, trivial⟩
theorem plsP : AllP Tryd.prog (pls F38.f) := trivial
theorem mixed : Tryd.prog.follows .mixedOrders = true := by kernel_rfl
def r1P (x38 : F38.FT) : (List (Int) × Int) → ((Option ((List (Int × List (Int))) × Int × Int × List (Int) × Int)) × (Option ((List (Int × List (Int))) × Int × Int × List (Int) × Int)) × Int) → Option (((Option ((List (Int × List (Int))) × Int × Int × List (Int) × Int)) × (Option ((List (Int × List (Int))) × Int × Int × List (Int) × Int)) × Int) ⊕ ((Int × (Option ((List (Int × List (Int))) × Int × Int × List (Int) × Int)) × (Option ((List (Int × List (Int))) × Int × Int × List (Int) × Int))) × Unit)) := fun (b, at0) (t2, s, i) => bif t2.isSome then
 bif s.isSome then
 bif decide (i < (16 : Int)) then
 bif decide ((0 : Int) ≤ IntKind.i64.wrap (at0 + i) ∧ IntKind.i64.wrap (at0 + i) < (↑b.length : Int) ∧ (0 : Nat) < b.length) then
 bif decide ((0 : Nat) + (IntKind.i64.wrap (at0 + i)).toNat < b.length) then
 bif b.getD ((0 : Nat) + (IntKind.i64.wrap (at0 + i)).toNat) (0 : Int) != (255 : Int) then
 bif decide ((0 : Nat) + (s.getD ([], (0 : Int), (0 : Int), [], (0 : Int))).fst.length ≤ (s.getD ([], (0 : Int), (0 : Int), [], (0 : Int))).fst.length) && true then
 bif decide ((0 : Nat) + (s.getD ([], (0 : Int), (0 : Int), [], (0 : Int))).snd.snd.snd.fst.length ≤ (s.getD ([], (0 : Int), (0 : Int), [], (0 : Int))).snd.snd.snd.fst.length) && true then
 some (Sum.inr (((1 : Int), some (List.take (s.getD ([], (0 : Int), (0 : Int), [], (0 : Int))).fst.length (List.drop (0 : Nat) (s.getD ([], (0 : Int), (0 : Int), [], (0 : Int))).fst), (1 : Int), (1 : Int), List.take (s.getD ([], (0 : Int), (0 : Int), [], (0 : Int))).snd.snd.snd.fst.length (List.drop (0 : Nat) (s.getD ([], (0 : Int), (0 : Int), [], (0 : Int))).snd.snd.snd.fst), (s.getD ([], (0 : Int), (0 : Int), [], (0 : Int))).snd.snd.snd.snd), none), PUnit.unit)) else none else none else some (Sum.inl (some (t2.getD ([], (0 : Int), (0 : Int), [], (0 : Int))), some (s.getD ([], (0 : Int), (0 : Int), [], (0 : Int))), IntKind.i64.wrap (i + (1 : Int)))) else none else none else some (Sum.inr (((0 : Int), some (t2.getD ([], (0 : Int), (0 : Int), [], (0 : Int))), some (s.getD ([], (0 : Int), (0 : Int), [], (0 : Int)))), PUnit.unit)) else bif decide (i < (16 : Int)) then
 bif decide ((0 : Int) ≤ IntKind.i64.wrap (at0 + i) ∧ IntKind.i64.wrap (at0 + i) < (↑b.length : Int) ∧ (0 : Nat) < b.length) then
 bif decide ((0 : Nat) + (IntKind.i64.wrap (at0 + i)).toNat < b.length) then
 bif b.getD ((0 : Nat) + (IntKind.i64.wrap (at0 + i)).toNat) (0 : Int) != (255 : Int) then
 none else some (Sum.inl (some (t2.getD ([], (0 : Int), (0 : Int), [], (0 : Int))), none, IntKind.i64.wrap (i + (1 : Int)))) else none else none else some (Sum.inr (((0 : Int), some (t2.getD ([], (0 : Int), (0 : Int), [], (0 : Int))), none), PUnit.unit)) else bif s.isSome then
 bif decide (i < (16 : Int)) then
 bif decide ((0 : Int) ≤ IntKind.i64.wrap (at0 + i) ∧ IntKind.i64.wrap (at0 + i) < (↑b.length : Int) ∧ (0 : Nat) < b.length) then
 bif decide ((0 : Nat) + (IntKind.i64.wrap (at0 + i)).toNat < b.length) then
 bif b.getD ((0 : Nat) + (IntKind.i64.wrap (at0 + i)).toNat) (0 : Int) != (255 : Int) then
 none else some (Sum.inl (none, some (s.getD ([], (0 : Int), (0 : Int), [], (0 : Int))), IntKind.i64.wrap (i + (1 : Int)))) else none else none else some (Sum.inr (((0 : Int), none, some (s.getD ([], (0 : Int), (0 : Int), [], (0 : Int)))), PUnit.unit)) else bif decide (i < (16 : Int)) then
 bif decide ((0 : Int) ≤ IntKind.i64.wrap (at0 + i) ∧ IntKind.i64.wrap (at0 + i) < (↑b.length : Int) ∧ (0 : Nat) < b.length) then
 bif decide ((0 : Nat) + (IntKind.i64.wrap (at0 + i)).toNat < b.length) then
 bif b.getD ((0 : Nat) + (IntKind.i64.wrap (at0 + i)).toNat) (0 : Int) != (255 : Int) then
 none else some (Sum.inl (none, none, IntKind.i64.wrap (i + (1 : Int)))) else none else none else some (Sum.inr (((0 : Int), none, none), PUnit.unit))
theorem r1e (x38 : F38.FT) (kd : List (Int) × Int) (d : (Option ((List (Int × List (Int))) × Int × Int × List (Int) × Int)) × (Option ((List (Int × List (Int))) × Int × Int × List (Int) × Int)) × Int) : roundF (tabC Tryd.prog (tab x38) (pls x38) 100 12) 100 .none (u1 fun _ _ => none) (codeAt [1, 1, 1, 0, 0, 0, 1, 0, 0, 1, 0, 0] (bodyOf Tryd.prog 19)) kd d = r1P x38 kd d := by kernel_rfl
noncomputable def r1 : (List (Int) × Int) → ((Option ((List (Int × List (Int))) × Int × Int × List (Int) × Int)) × (Option ((List (Int × List (Int))) × Int × Int × List (Int) × Int)) × Int) → Option (((Option ((List (Int × List (Int))) × Int × Int × List (Int) × Int)) × (Option ((List (Int × List (Int))) × Int × Int × List (Int) × Int)) × Int) ⊕ ((Int × (Option ((List (Int × List (Int))) × Int × Int × List (Int) × Int)) × (Option ((List (Int × List (Int))) × Int × Int × List (Int) × Int))) × Unit)) := r1P F38.f
noncomputable def l1 : G1 := fun kd d => iterO (r1 kd) d
theorem ok1 : UnOk Tryd.prog (u1 l1) (codeAt [1, 1, 1, 0, 0, 0, 1, 0, 0, 1, 0] (bodyOf Tryd.prog 19)) :=
  loopT (p := .none) (c := codeAt [1, 1, 1, 0, 0, 0, 1, 0, 0, 1, 0, 0] (bodyOf Tryd.prog 19)) (fuel := 100) (depth := 12) mixed tabS plsP (by kernel_rfl) trivial (by kernel_rfl) (fun kd d => r1e F38.f kd d) rfl
def r2P (x38 : F38.FT) : G2 := fun (b, at0) () => bif decide ((0 : Int) ≤ IntKind.i64.wrap (at0 + (16 : Int)) ∧ IntKind.i64.wrap (at0 + (16 : Int)) < (↑b.length : Int) ∧ (0 : Nat) < b.length) then
 bif decide ((0 : Nat) + (IntKind.i64.wrap (at0 + (16 : Int))).toNat < b.length) then
 bif decide ((0 : Int) ≤ IntKind.i64.wrap (at0 + (17 : Int)) ∧ IntKind.i64.wrap (at0 + (17 : Int)) < (↑b.length : Int) ∧ (0 : Nat) < b.length) then
 bif decide ((0 : Nat) + (IntKind.i64.wrap (at0 + (17 : Int))).toNat < b.length) then
 some (IntKind.i64.wrap (IntKind.i64.wrap ((256 : Int) * IntKind.i64.wrap (b.getD ((0 : Nat) + (IntKind.i64.wrap (at0 + (16 : Int))).toNat) (0 : Int))) + IntKind.i64.wrap (b.getD ((0 : Nat) + (IntKind.i64.wrap (at0 + (17 : Int))).toNat) (0 : Int))), PUnit.unit) else none else none else none else none
theorem r2e (x38 : F38.FT) (kd : List (Int) × Int) (d : Unit) : unitF (tabC Tryd.prog (tab x38) (pls x38) 100 12) 100 .none (u2 fun _ _ => none) (codeAt [1, 1, 1, 0, 0, 0, 1, 0, 1, 0] (bodyOf Tryd.prog 19)) kd d = r2P x38 kd d := by kernel_rfl
noncomputable def r2 : G2 := r2P F38.f
noncomputable def l2 : G2 := r2
theorem ok2 : UnOk Tryd.prog (u2 l2) (codeAt [1, 1, 1, 0, 0, 0, 1, 0, 1, 0] (bodyOf Tryd.prog 19)) :=
  blockT (p := .none) (fuel := 100) (depth := 12) mixed tabS plsP trivial (fun kd d => r2e F38.f kd d)
def r3P (x38 : F38.FT) : G3 := fun (b, at0) () => bif decide ((0 : Int) ≤ IntKind.i64.wrap (at0 + (18 : Int)) ∧ IntKind.i64.wrap (at0 + (18 : Int)) < (↑b.length : Int) ∧ (0 : Nat) < b.length) then
 bif decide ((0 : Nat) + (IntKind.i64.wrap (at0 + (18 : Int))).toNat < b.length) then
 some (b.getD ((0 : Nat) + (IntKind.i64.wrap (at0 + (18 : Int))).toNat) (0 : Int), PUnit.unit) else none else none
theorem r3e (x38 : F38.FT) (kd : List (Int) × Int) (d : Unit) : unitF (tabC Tryd.prog (tab x38) (pls x38) 100 12) 100 .none (u3 fun _ _ => none) (codeAt [1, 1, 1, 0, 0, 0, 1, 0, 1, 1, 0] (bodyOf Tryd.prog 19)) kd d = r3P x38 kd d := by kernel_rfl
noncomputable def r3 : G3 := r3P F38.f
noncomputable def l3 : G3 := r3
theorem ok3 : UnOk Tryd.prog (u3 l3) (codeAt [1, 1, 1, 0, 0, 0, 1, 0, 1, 1, 0] (bodyOf Tryd.prog 19)) :=
  blockT (p := .none) (fuel := 100) (depth := 12) mixed tabS plsP trivial (fun kd d => r3e F38.f kd d)
def r4P (x38 : F38.FT) : G4 := fun n () => bif decide (n < (19 : Int)) then
 some (true, PUnit.unit) else some (decide (n > (4096 : Int)), PUnit.unit)
theorem r4e (x38 : F38.FT) (kd : Int) (d : Unit) : unitF (tabC Tryd.prog (tab x38) (pls x38) 100 12) 100 .none (u4 fun _ _ => none) (codeAt [1, 1, 1, 0, 0, 0, 1, 0, 1, 1, 1, 0] (bodyOf Tryd.prog 19)) kd d = r4P x38 kd d := by kernel_rfl
noncomputable def r4 : G4 := r4P F38.f
noncomputable def l4 : G4 := r4
theorem ok4 : UnOk Tryd.prog (u4 l4) (codeAt [1, 1, 1, 0, 0, 0, 1, 0, 1, 1, 1, 0] (bodyOf Tryd.prog 19)) :=
  blockT (p := .none) (fuel := 100) (depth := 12) mixed tabS plsP trivial (fun kd d => r4e F38.f kd d)
def r5P (x38 : F38.FT) : G5 := fun (t, short) () => bif !short then
 bif decide (t < (1 : Int)) then
 some (true, PUnit.unit) else some (decide (t > (5 : Int)), PUnit.unit) else some (false, PUnit.unit)
theorem r5e (x38 : F38.FT) (kd : Int × Bool) (d : Unit) : unitF (tabC Tryd.prog (tab x38) (pls x38) 100 12) 100 .none (u5 fun _ _ => none) (codeAt [1, 1, 1, 0, 0, 0, 1, 0, 1, 1, 1, 1, 0, 0] (bodyOf Tryd.prog 19)) kd d = r5P x38 kd d := by kernel_rfl
noncomputable def r5 : G5 := r5P F38.f
noncomputable def l5 : G5 := r5
theorem ok5 : UnOk Tryd.prog (u5 l5) (codeAt [1, 1, 1, 0, 0, 0, 1, 0, 1, 1, 1, 1, 0, 0] (bodyOf Tryd.prog 19)) :=
  blockT (p := .none) (fuel := 100) (depth := 12) mixed tabS plsP trivial (fun kd d => r5e F38.f kd d)
def r6P (x38 : F38.FT) : G6 := fun (n, t, short) () => bif short then
 some (true, PUnit.unit) else (x38 (t, n)).bind fun r0 => some (r0.fst, PUnit.unit)
theorem r6e (x38 : F38.FT) (kd : Int × Int × Bool) (d : Unit) : unitF (tabC Tryd.prog (tab x38) (pls x38) 100 12) 100 .none (u6 fun _ _ => none) (codeAt [1, 1, 1, 0, 0, 0, 1, 0, 1, 1, 1, 1, 1, 0, 0] (bodyOf Tryd.prog 19)) kd d = r6P x38 kd d := by kernel_rfl
noncomputable def r6 : G6 := r6P F38.f
noncomputable def l6 : G6 := r6
theorem ok6 : UnOk Tryd.prog (u6 l6) (codeAt [1, 1, 1, 0, 0, 0, 1, 0, 1, 1, 1, 1, 1, 0, 0] (bodyOf Tryd.prog 19)) :=
  blockT (p := .none) (fuel := 100) (depth := 12) mixed tabS plsP trivial (fun kd d => r6e F38.f kd d)
def r7P (x38 : F38.FT) : G7 := fun (b, at0, n) () => some (decide (IntKind.i64.wrap (at0 + n) > (↑b.length : Int)), PUnit.unit)
theorem r7e (x38 : F38.FT) (kd : List (Int) × Int × Int) (d : Unit) : unitF (tabC Tryd.prog (tab x38) (pls x38) 100 12) 100 .none (u7 fun _ _ => none) (codeAt [1, 1, 1, 0, 0, 0, 1, 0, 1, 1, 1, 1, 1, 1, 0, 0] (bodyOf Tryd.prog 19)) kd d = r7P x38 kd d := by kernel_rfl
noncomputable def r7 : G7 := r7P F38.f
noncomputable def l7 : G7 := r7
theorem ok7 : UnOk Tryd.prog (u7 l7) (codeAt [1, 1, 1, 0, 0, 0, 1, 0, 1, 1, 1, 1, 1, 1, 0, 0] (bodyOf Tryd.prog 19)) :=
  blockT (p := .none) (fuel := 100) (depth := 12) mixed tabS plsP trivial (fun kd d => r7e F38.f kd d)
def r8P (x38 : F38.FT) : G8 := fun n at0 => some (IntKind.i64.wrap (at0 + n), PUnit.unit)
theorem r8e (x38 : F38.FT) (kd : Int) (d : Int) : unitF (tabC Tryd.prog (tab x38) (pls x38) 100 12) 100 .none (u8 fun _ _ => none) (codeAt [1, 1, 1, 0, 0, 0, 1, 0, 1, 1, 1, 1, 1, 1, 1, 1] (bodyOf Tryd.prog 19)) kd d = r8P x38 kd d := by kernel_rfl
noncomputable def r8 : G8 := r8P F38.f
noncomputable def l8 : G8 := r8
theorem ok8 : UnOk Tryd.prog (u8 l8) (codeAt [1, 1, 1, 0, 0, 0, 1, 0, 1, 1, 1, 1, 1, 1, 1, 1] (bodyOf Tryd.prog 19)) :=
  blockT (p := .none) (fuel := 100) (depth := 12) mixed tabS plsP trivial (fun kd d => r8e F38.f kd d)
def r9P (x38 : F38.FT) (l2 : G2) (l3 : G3) (l4 : G4) (l5 : G5) (l6 : G6) (l7 : G7) (l8 : G8) : G9 := fun b (t2, s, at0) => bif t2.isSome then
 bif s.isSome then
 bif decide ((0 : Nat) + b.length ≤ b.length) && true then
 (l2 (List.take b.length b, at0) PUnit.unit).bind fun r0 => bif decide ((0 : Nat) + b.length ≤ b.length) && true then
 (l3 (List.take b.length b, at0) PUnit.unit).bind fun r1 => (l4 r0.fst PUnit.unit).bind fun r2 => (l5 (r1.fst, r2.fst) PUnit.unit).bind fun r3 => bif r3.fst then
 bif decide ((0 : Nat) + (s.getD ([], (0 : Int), (0 : Int), [], (0 : Int))).fst.length ≤ (s.getD ([], (0 : Int), (0 : Int), [], (0 : Int))).fst.length) && true then
 some (((1 : Int), some (List.take (s.getD ([], (0 : Int), (0 : Int), [], (0 : Int))).fst.length (List.drop (0 : Nat) (s.getD ([], (0 : Int), (0 : Int), [], (0 : Int))).fst), (1 : Int), (3 : Int), [r1.fst], (s.getD ([], (0 : Int), (0 : Int), [], (0 : Int))).snd.snd.snd.snd), none, (0 : Int)), PUnit.unit) else none else (l6 (r0.fst, r1.fst, r2.fst) PUnit.unit).bind fun r4 => bif r4.fst then
 bif decide ((0 : Int) ≤ IntKind.i64.wrap (at0 + (16 : Int)) ∧ IntKind.i64.wrap (at0 + (16 : Int)) < (↑b.length : Int) ∧ (0 : Nat) < b.length) then
 bif decide ((0 : Nat) + (IntKind.i64.wrap (at0 + (16 : Int))).toNat < b.length) then
 bif decide ((0 : Int) ≤ IntKind.i64.wrap (at0 + (17 : Int)) ∧ IntKind.i64.wrap (at0 + (17 : Int)) < (↑b.length : Int) ∧ (0 : Nat) < b.length) then
 bif decide ((0 : Nat) + (IntKind.i64.wrap (at0 + (17 : Int))).toNat < b.length) then
 bif decide ((0 : Nat) + (s.getD ([], (0 : Int), (0 : Int), [], (0 : Int))).fst.length ≤ (s.getD ([], (0 : Int), (0 : Int), [], (0 : Int))).fst.length) && true then
 some (((1 : Int), some (List.take (s.getD ([], (0 : Int), (0 : Int), [], (0 : Int))).fst.length (List.drop (0 : Nat) (s.getD ([], (0 : Int), (0 : Int), [], (0 : Int))).fst), (1 : Int), (2 : Int), [b.getD ((0 : Nat) + (IntKind.i64.wrap (at0 + (16 : Int))).toNat) (0 : Int), b.getD ((0 : Nat) + (IntKind.i64.wrap (at0 + (17 : Int))).toNat) (0 : Int)], (s.getD ([], (0 : Int), (0 : Int), [], (0 : Int))).snd.snd.snd.snd), none, (0 : Int)), PUnit.unit) else none else none else none else none else none else bif decide ((0 : Nat) + b.length ≤ b.length) && true then
 (l7 (List.take b.length b, at0, r0.fst) PUnit.unit).bind fun r5 => bif r5.fst then
 some (((2 : Int), some (t2.getD ([], (0 : Int), (0 : Int), [], (0 : Int))), some (s.getD ([], (0 : Int), (0 : Int), [], (0 : Int))), at0), PUnit.unit) else bif decide ((0 : Int) ≤ IntKind.i64.wrap (at0 + (19 : Int)) ∧ IntKind.i64.wrap (at0 + (19 : Int)) ≤ (some (IntKind.i64.wrap (at0 + r0.fst))).getD (↑b.length : Int) ∧ (some (IntKind.i64.wrap (at0 + r0.fst))).getD (↑b.length : Int) ≤ (↑b.length : Int) ∧ (0 : Nat) + b.length ≤ b.length) then
 bif decide ((0 : Nat) + (IntKind.i64.wrap (at0 + (19 : Int))).toNat + ((some (IntKind.i64.wrap (at0 + r0.fst))).getD (↑b.length : Int) - IntKind.i64.wrap (at0 + (19 : Int))).toNat ≤ b.length) then
 bif decide ((s.getD ([], (0 : Int), (0 : Int), [], (0 : Int))).fst.length + (2 : Nat) / OfNat.ofNat (2 : Nat) ≤ (1073741824 : Nat)) then
 bif decide ((0 : Nat) + (s.getD ([], (0 : Int), (0 : Int), [], (0 : Int))).fst.length ≤ (s.getD ([], (0 : Int), (0 : Int), [], (0 : Int))).fst.length) then
 bif decide ((0 : Nat) + ((some (IntKind.i64.wrap (at0 + r0.fst))).getD (↑b.length : Int) - IntKind.i64.wrap (at0 + (19 : Int))).toNat ≤ (List.take ((some (IntKind.i64.wrap (at0 + r0.fst))).getD (↑b.length : Int) - IntKind.i64.wrap (at0 + (19 : Int))).toNat (List.drop ((0 : Nat) + (IntKind.i64.wrap (at0 + (19 : Int))).toNat) b)).length) && true then
 (l8 r0.fst at0).bind fun r6 => bif decide ((0 : Nat) + ((s.getD ([], (0 : Int), (0 : Int), [], (0 : Int))).fst.length + (2 : Nat) / OfNat.ofNat (2 : Nat)) ≤ (List.take (s.getD ([], (0 : Int), (0 : Int), [], (0 : Int))).fst.length (List.drop (0 : Nat) (s.getD ([], (0 : Int), (0 : Int), [], (0 : Int))).fst) ++ [(r1.fst, List.take ((some (IntKind.i64.wrap (at0 + r0.fst))).getD (↑b.length : Int) - IntKind.i64.wrap (at0 + (19 : Int))).toNat (List.drop (0 : Nat) (List.take ((some (IntKind.i64.wrap (at0 + r0.fst))).getD (↑b.length : Int) - IntKind.i64.wrap (at0 + (19 : Int))).toNat (List.drop ((0 : Nat) + (IntKind.i64.wrap (at0 + (19 : Int))).toNat) b))))]).length) && true then
 bif decide ((0 : Nat) + (s.getD ([], (0 : Int), (0 : Int), [], (0 : Int))).snd.snd.snd.fst.length ≤ (s.getD ([], (0 : Int), (0 : Int), [], (0 : Int))).snd.snd.snd.fst.length) && true then
 some (((0 : Int), some (t2.getD ([], (0 : Int), (0 : Int), [], (0 : Int))), some (List.take ((s.getD ([], (0 : Int), (0 : Int), [], (0 : Int))).fst.length + (2 : Nat) / OfNat.ofNat (2 : Nat)) (List.drop (0 : Nat) (List.take (s.getD ([], (0 : Int), (0 : Int), [], (0 : Int))).fst.length (List.drop (0 : Nat) (s.getD ([], (0 : Int), (0 : Int), [], (0 : Int))).fst) ++ [(r1.fst, List.take ((some (IntKind.i64.wrap (at0 + r0.fst))).getD (↑b.length : Int) - IntKind.i64.wrap (at0 + (19 : Int))).toNat (List.drop (0 : Nat) (List.take ((some (IntKind.i64.wrap (at0 + r0.fst))).getD (↑b.length : Int) - IntKind.i64.wrap (at0 + (19 : Int))).toNat (List.drop ((0 : Nat) + (IntKind.i64.wrap (at0 + (19 : Int))).toNat) b))))])), (s.getD ([], (0 : Int), (0 : Int), [], (0 : Int))).snd.fst, (s.getD ([], (0 : Int), (0 : Int), [], (0 : Int))).snd.snd.fst, List.take (s.getD ([], (0 : Int), (0 : Int), [], (0 : Int))).snd.snd.snd.fst.length (List.drop (0 : Nat) (s.getD ([], (0 : Int), (0 : Int), [], (0 : Int))).snd.snd.snd.fst), (s.getD ([], (0 : Int), (0 : Int), [], (0 : Int))).snd.snd.snd.snd), r6.fst), PUnit.unit) else none else none else none else none else none else none else none else none else none else none else bif decide ((0 : Nat) + b.length ≤ b.length) && true then
 (l2 (List.take b.length b, at0) PUnit.unit).bind fun r0 => bif decide ((0 : Nat) + b.length ≤ b.length) && true then
 (l3 (List.take b.length b, at0) PUnit.unit).bind fun r1 => (l4 r0.fst PUnit.unit).bind fun r2 => (l5 (r1.fst, r2.fst) PUnit.unit).bind fun r3 => bif r3.fst then
 none else (l6 (r0.fst, r1.fst, r2.fst) PUnit.unit).bind fun r4 => bif r4.fst then
 none else bif decide ((0 : Nat) + b.length ≤ b.length) && true then
 (l7 (List.take b.length b, at0, r0.fst) PUnit.unit).bind fun r5 => bif r5.fst then
 some (((2 : Int), some (t2.getD ([], (0 : Int), (0 : Int), [], (0 : Int))), none, at0), PUnit.unit) else none else none else none else none else bif s.isSome then
 bif decide ((0 : Nat) + b.length ≤ b.length) && true then
 (l2 (List.take b.length b, at0) PUnit.unit).bind fun r0 => bif decide ((0 : Nat) + b.length ≤ b.length) && true then
 (l3 (List.take b.length b, at0) PUnit.unit).bind fun r1 => (l4 r0.fst PUnit.unit).bind fun r2 => (l5 (r1.fst, r2.fst) PUnit.unit).bind fun r3 => bif r3.fst then
 none else (l6 (r0.fst, r1.fst, r2.fst) PUnit.unit).bind fun r4 => bif r4.fst then
 bif decide ((0 : Int) ≤ IntKind.i64.wrap (at0 + (16 : Int)) ∧ IntKind.i64.wrap (at0 + (16 : Int)) < (↑b.length : Int) ∧ (0 : Nat) < b.length) then
 bif decide ((0 : Nat) + (IntKind.i64.wrap (at0 + (16 : Int))).toNat < b.length) then
 bif decide ((0 : Int) ≤ IntKind.i64.wrap (at0 + (17 : Int)) ∧ IntKind.i64.wrap (at0 + (17 : Int)) < (↑b.length : Int) ∧ (0 : Nat) < b.length) then
 bif decide ((0 : Nat) + (IntKind.i64.wrap (at0 + (17 : Int))).toNat < b.length) then
 none else none else none else none else none else bif decide ((0 : Nat) + b.length ≤ b.length) && true then
 (l7 (List.take b.length b, at0, r0.fst) PUnit.unit).bind fun r5 => bif r5.fst then
 some (((2 : Int), none, some (s.getD ([], (0 : Int), (0 : Int), [], (0 : Int))), at0), PUnit.unit) else bif decide ((0 : Int) ≤ IntKind.i64.wrap (at0 + (19 : Int)) ∧ IntKind.i64.wrap (at0 + (19 : Int)) ≤ (some (IntKind.i64.wrap (at0 + r0.fst))).getD (↑b.length : Int) ∧ (some (IntKind.i64.wrap (at0 + r0.fst))).getD (↑b.length : Int) ≤ (↑b.length : Int) ∧ (0 : Nat) + b.length ≤ b.length) then
 bif decide ((0 : Nat) + (IntKind.i64.wrap (at0 + (19 : Int))).toNat + ((some (IntKind.i64.wrap (at0 + r0.fst))).getD (↑b.length : Int) - IntKind.i64.wrap (at0 + (19 : Int))).toNat ≤ b.length) then
 bif decide ((s.getD ([], (0 : Int), (0 : Int), [], (0 : Int))).fst.length + (2 : Nat) / OfNat.ofNat (2 : Nat) ≤ (1073741824 : Nat)) then
 bif decide ((0 : Nat) + (s.getD ([], (0 : Int), (0 : Int), [], (0 : Int))).fst.length ≤ (s.getD ([], (0 : Int), (0 : Int), [], (0 : Int))).fst.length) then
 bif decide ((0 : Nat) + ((some (IntKind.i64.wrap (at0 + r0.fst))).getD (↑b.length : Int) - IntKind.i64.wrap (at0 + (19 : Int))).toNat ≤ (List.take ((some (IntKind.i64.wrap (at0 + r0.fst))).getD (↑b.length : Int) - IntKind.i64.wrap (at0 + (19 : Int))).toNat (List.drop ((0 : Nat) + (IntKind.i64.wrap (at0 + (19 : Int))).toNat) b)).length) && true then
 (l8 r0.fst at0).bind fun r6 => bif decide ((0 : Nat) + ((s.getD ([], (0 : Int), (0 : Int), [], (0 : Int))).fst.length + (2 : Nat) / OfNat.ofNat (2 : Nat)) ≤ (List.take (s.getD ([], (0 : Int), (0 : Int), [], (0 : Int))).fst.length (List.drop (0 : Nat) (s.getD ([], (0 : Int), (0 : Int), [], (0 : Int))).fst) ++ [(r1.fst, List.take ((some (IntKind.i64.wrap (at0 + r0.fst))).getD (↑b.length : Int) - IntKind.i64.wrap (at0 + (19 : Int))).toNat (List.drop (0 : Nat) (List.take ((some (IntKind.i64.wrap (at0 + r0.fst))).getD (↑b.length : Int) - IntKind.i64.wrap (at0 + (19 : Int))).toNat (List.drop ((0 : Nat) + (IntKind.i64.wrap (at0 + (19 : Int))).toNat) b))))]).length) && true then
 bif decide ((0 : Nat) + (s.getD ([], (0 : Int), (0 : Int), [], (0 : Int))).snd.snd.snd.fst.length ≤ (s.getD ([], (0 : Int), (0 : Int), [], (0 : Int))).snd.snd.snd.fst.length) && true then
 some (((0 : Int), none, some (List.take ((s.getD ([], (0 : Int), (0 : Int), [], (0 : Int))).fst.length + (2 : Nat) / OfNat.ofNat (2 : Nat)) (List.drop (0 : Nat) (List.take (s.getD ([], (0 : Int), (0 : Int), [], (0 : Int))).fst.length (List.drop (0 : Nat) (s.getD ([], (0 : Int), (0 : Int), [], (0 : Int))).fst) ++ [(r1.fst, List.take ((some (IntKind.i64.wrap (at0 + r0.fst))).getD (↑b.length : Int) - IntKind.i64.wrap (at0 + (19 : Int))).toNat (List.drop (0 : Nat) (List.take ((some (IntKind.i64.wrap (at0 + r0.fst))).getD (↑b.length : Int) - IntKind.i64.wrap (at0 + (19 : Int))).toNat (List.drop ((0 : Nat) + (IntKind.i64.wrap (at0 + (19 : Int))).toNat) b))))])), (s.getD ([], (0 : Int), (0 : Int), [], (0 : Int))).snd.fst, (s.getD ([], (0 : Int), (0 : Int), [], (0 : Int))).snd.snd.fst, List.take (s.getD ([], (0 : Int), (0 : Int), [], (0 : Int))).snd.snd.snd.fst.length (List.drop (0 : Nat) (s.getD ([], (0 : Int), (0 : Int), [], (0 : Int))).snd.snd.snd.fst), (s.getD ([], (0 : Int), (0 : Int), [], (0 : Int))).snd.snd.snd.snd), r6.fst), PUnit.unit) else none else none else none else none else none else none else none else none else none else none else bif decide ((0 : Nat) + b.length ≤ b.length) && true then
 (l2 (List.take b.length b, at0) PUnit.unit).bind fun r0 => bif decide ((0 : Nat) + b.length ≤ b.length) && true then
 (l3 (List.take b.length b, at0) PUnit.unit).bind fun r1 => (l4 r0.fst PUnit.unit).bind fun r2 => (l5 (r1.fst, r2.fst) PUnit.unit).bind fun r3 => bif r3.fst then
 none else (l6 (r0.fst, r1.fst, r2.fst) PUnit.unit).bind fun r4 => bif r4.fst then
 none else bif decide ((0 : Nat) + b.length ≤ b.length) && true then
 (l7 (List.take b.length b, at0, r0.fst) PUnit.unit).bind fun r5 => bif r5.fst then
 some (((2 : Int), none, none, at0), PUnit.unit) else none else none else none else none
theorem r9e (x38 : F38.FT) (l2 : G2) (l3 : G3) (l4 : G4) (l5 : G5) (l6 : G6) (l7 : G7) (l8 : G8) (kd : List (Int)) (d : (Option ((List (Int × List (Int))) × Int × Int × List (Int) × Int)) × (Option ((List (Int × List (Int))) × Int × Int × List (Int) × Int)) × Int) : unitF (tabC Tryd.prog (tab x38) (pls x38) 100 12) 100 (.node (.unit (u2 l2)) (.node (.unit (u3 l3)) (.node (.unit (u4 l4)) (.node (.node (.unit (u5 l5)) .none) (.node (.node (.unit (u6 l6)) .none) (.node (.node (.unit (u7 l7)) .none) (.node .none (.unit (u8 l8))))))))) (u9 fun _ _ => none) (codeAt [1, 1, 1, 0, 0, 0, 1, 0, 1] (bodyOf Tryd.prog 19)) kd d = r9P x38 l2 l3 l4 l5 l6 l7 l8 kd d := by kernel_rfl
noncomputable def r9 : G9 := r9P F38.f l2 l3 l4 l5 l6 l7 l8
noncomputable def l9 : G9 := r9
theorem ok9 : UnOk Tryd.prog (u9 l9) (codeAt [1, 1, 1, 0, 0, 0, 1, 0, 1] (bodyOf Tryd.prog 19)) :=
  blockT (p := (.node (.unit (u2 l2)) (.node (.unit (u3 l3)) (.node (.unit (u4 l4)) (.node (.node (.unit (u5 l5)) .none) (.node (.node (.unit (u6 l6)) .none) (.node (.node (.unit (u7 l7)) .none) (.node .none (.unit (u8 l8)))))))))) (fuel := 100) (depth := 12) mixed tabS plsP (planOk_of (.node (.unit (u2 l2)) (.node (.unit (u3 l3)) (.node (.unit (u4 l4)) (.node (.node (.unit (u5 l5)) .none) (.node (.node (.unit (u6 l6)) .none) (.node (.node (.unit (u7 l7)) .none) (.node .none (.unit (u8 l8))))))))) _ [([0], u2 l2), ([1, 0], u3 l3), ([1, 1, 0], u4 l4), ([1, 1, 1, 0, 0], u5 l5), ([1, 1, 1, 1, 0, 0], u6 l6), ([1, 1, 1, 1, 1, 0, 0], u7 l7), ([1, 1, 1, 1, 1, 1, 1], u8 l8)] rfl ⟨ok2, ok3, ok4, ok5, ok6, ok7, ok8, trivial⟩) (fun kd d => r9e F38.f l2 l3 l4 l5 l6 l7 l8 kd d)
def r10P (x38 : F38.FT) (l1 : G1) (l9 : G9) : List (Int) → ((Option ((List (Int × List (Int))) × Int × Int × List (Int) × Int)) × (Option ((List (Int × List (Int))) × Int × Int × List (Int) × Int)) × Int) → Option (((Option ((List (Int × List (Int))) × Int × Int × List (Int) × Int)) × (Option ((List (Int × List (Int))) × Int × Int × List (Int) × Int)) × Int) ⊕ ((Int × (Option ((List (Int × List (Int))) × Int × Int × List (Int) × Int)) × (Option ((List (Int × List (Int))) × Int × Int × List (Int) × Int)) × Int) × Unit)) := fun b (t2, s, at0) => bif t2.isSome then
 bif s.isSome then
 bif decide (IntKind.i64.wrap (at0 + (19 : Int)) ≤ (↑b.length : Int)) then
 bif decide ((0 : Nat) + b.length ≤ b.length) && true then
 (l1 (List.take b.length b, at0) (some (t2.getD ([], (0 : Int), (0 : Int), [], (0 : Int))), some (s.getD ([], (0 : Int), (0 : Int), [], (0 : Int))), (0 : Int))).bind fun r0 => bif r0.fst.snd.fst.isSome then
 bif Option.isSome r0.fst.snd.snd then
 bif decide (r0.fst.fst = (0 : Int)) then
 bif decide ((0 : Nat) + b.length ≤ b.length) && true then
 (l9 (List.take b.length b) (some (r0.fst.snd.fst.getD ([], (0 : Int), (0 : Int), [], (0 : Int))), some (Option.getD r0.fst.snd.snd ([], (0 : Int), (0 : Int), [], (0 : Int))), at0)).bind fun r1 => bif r1.fst.snd.fst.isSome then
 bif r1.fst.snd.snd.fst.isSome then
 bif decide (r1.fst.fst = (0 : Int)) then
 some (Sum.inl (some (r1.fst.snd.fst.getD ([], (0 : Int), (0 : Int), [], (0 : Int))), some (r1.fst.snd.snd.fst.getD ([], (0 : Int), (0 : Int), [], (0 : Int))), r1.fst.snd.snd.snd)) else bif decide (r1.fst.fst = (1 : Int)) then
 some (Sum.inr (((1 : Int), some (r1.fst.snd.fst.getD ([], (0 : Int), (0 : Int), [], (0 : Int))), none, (0 : Int)), PUnit.unit)) else bif decide (r1.fst.fst = (2 : Int)) then
 some (Sum.inr (((0 : Int), some (r1.fst.snd.fst.getD ([], (0 : Int), (0 : Int), [], (0 : Int))), some (r1.fst.snd.snd.fst.getD ([], (0 : Int), (0 : Int), [], (0 : Int))), r1.fst.snd.snd.snd), PUnit.unit)) else none else bif decide (r1.fst.fst = (0 : Int)) then
 some (Sum.inl (some (r1.fst.snd.fst.getD ([], (0 : Int), (0 : Int), [], (0 : Int))), none, r1.fst.snd.snd.snd)) else bif decide (r1.fst.fst = (1 : Int)) then
 some (Sum.inr (((1 : Int), some (r1.fst.snd.fst.getD ([], (0 : Int), (0 : Int), [], (0 : Int))), none, (0 : Int)), PUnit.unit)) else bif decide (r1.fst.fst = (2 : Int)) then
 some (Sum.inr (((0 : Int), some (r1.fst.snd.fst.getD ([], (0 : Int), (0 : Int), [], (0 : Int))), none, r1.fst.snd.snd.snd), PUnit.unit)) else none else bif r1.fst.snd.snd.fst.isSome then
 bif decide (r1.fst.fst = (0 : Int)) then
 some (Sum.inl (none, some (r1.fst.snd.snd.fst.getD ([], (0 : Int), (0 : Int), [], (0 : Int))), r1.fst.snd.snd.snd)) else bif decide (r1.fst.fst = (1 : Int)) then
 some (Sum.inr (((1 : Int), none, none, (0 : Int)), PUnit.unit)) else bif decide (r1.fst.fst = (2 : Int)) then
 some (Sum.inr (((0 : Int), none, some (r1.fst.snd.snd.fst.getD ([], (0 : Int), (0 : Int), [], (0 : Int))), r1.fst.snd.snd.snd), PUnit.unit)) else none else bif decide (r1.fst.fst = (0 : Int)) then
 some (Sum.inl (none, none, r1.fst.snd.snd.snd)) else bif decide (r1.fst.fst = (1 : Int)) then
 some (Sum.inr (((1 : Int), none, none, (0 : Int)), PUnit.unit)) else bif decide (r1.fst.fst = (2 : Int)) then
 some (Sum.inr (((0 : Int), none, none, r1.fst.snd.snd.snd), PUnit.unit)) else none else none else bif decide (r0.fst.fst = (1 : Int)) then
 some (Sum.inr (((1 : Int), some (r0.fst.snd.fst.getD ([], (0 : Int), (0 : Int), [], (0 : Int))), none, (0 : Int)), PUnit.unit)) else none else bif decide (r0.fst.fst = (0 : Int)) then
 bif decide ((0 : Nat) + b.length ≤ b.length) && true then
 (l9 (List.take b.length b) (some (r0.fst.snd.fst.getD ([], (0 : Int), (0 : Int), [], (0 : Int))), none, at0)).bind fun r1 => bif r1.fst.snd.fst.isSome then
 bif r1.fst.snd.snd.fst.isSome then
 bif decide (r1.fst.fst = (0 : Int)) then
 some (Sum.inl (some (r1.fst.snd.fst.getD ([], (0 : Int), (0 : Int), [], (0 : Int))), some (r1.fst.snd.snd.fst.getD ([], (0 : Int), (0 : Int), [], (0 : Int))), r1.fst.snd.snd.snd)) else bif decide (r1.fst.fst = (1 : Int)) then
 some (Sum.inr (((1 : Int), some (r1.fst.snd.fst.getD ([], (0 : Int), (0 : Int), [], (0 : Int))), none, (0 : Int)), PUnit.unit)) else bif decide (r1.fst.fst = (2 : Int)) then
 some (Sum.inr (((0 : Int), some (r1.fst.snd.fst.getD ([], (0 : Int), (0 : Int), [], (0 : Int))), some (r1.fst.snd.snd.fst.getD ([], (0 : Int), (0 : Int), [], (0 : Int))), r1.fst.snd.snd.snd), PUnit.unit)) else none else bif decide (r1.fst.fst = (0 : Int)) then
 some (Sum.inl (some (r1.fst.snd.fst.getD ([], (0 : Int), (0 : Int), [], (0 : Int))), none, r1.fst.snd.snd.snd)) else bif decide (r1.fst.fst = (1 : Int)) then
 some (Sum.inr (((1 : Int), some (r1.fst.snd.fst.getD ([], (0 : Int), (0 : Int), [], (0 : Int))), none, (0 : Int)), PUnit.unit)) else bif decide (r1.fst.fst = (2 : Int)) then
 some (Sum.inr (((0 : Int), some (r1.fst.snd.fst.getD ([], (0 : Int), (0 : Int), [], (0 : Int))), none, r1.fst.snd.snd.snd), PUnit.unit)) else none else bif r1.fst.snd.snd.fst.isSome then
 bif decide (r1.fst.fst = (0 : Int)) then
 some (Sum.inl (none, some (r1.fst.snd.snd.fst.getD ([], (0 : Int), (0 : Int), [], (0 : Int))), r1.fst.snd.snd.snd)) else bif decide (r1.fst.fst = (1 : Int)) then
 some (Sum.inr (((1 : Int), none, none, (0 : Int)), PUnit.unit)) else bif decide (r1.fst.fst = (2 : Int)) then
 some (Sum.inr (((0 : Int), none, some (r1.fst.snd.snd.fst.getD ([], (0 : Int), (0 : Int), [], (0 : Int))), r1.fst.snd.snd.snd), PUnit.unit)) else none else bif decide (r1.fst.fst = (0 : Int)) then
 some (Sum.inl (none, none, r1.fst.snd.snd.snd)) else bif decide (r1.fst.fst = (1 : Int)) then
 some (Sum.inr (((1 : Int), none, none, (0 : Int)), PUnit.unit)) else bif decide (r1.fst.fst = (2 : Int)) then
 some (Sum.inr (((0 : Int), none, none, r1.fst.snd.snd.snd), PUnit.unit)) else none else none else bif decide (r0.fst.fst = (1 : Int)) then
 some (Sum.inr (((1 : Int), some (r0.fst.snd.fst.getD ([], (0 : Int), (0 : Int), [], (0 : Int))), none, (0 : Int)), PUnit.unit)) else none else bif Option.isSome r0.fst.snd.snd then
 bif decide (r0.fst.fst = (0 : Int)) then
 bif decide ((0 : Nat) + b.length ≤ b.length) && true then
 (l9 (List.take b.length b) (none, some (Option.getD r0.fst.snd.snd ([], (0 : Int), (0 : Int), [], (0 : Int))), at0)).bind fun r1 => bif r1.fst.snd.fst.isSome then
 bif r1.fst.snd.snd.fst.isSome then
 bif decide (r1.fst.fst = (0 : Int)) then
 some (Sum.inl (some (r1.fst.snd.fst.getD ([], (0 : Int), (0 : Int), [], (0 : Int))), some (r1.fst.snd.snd.fst.getD ([], (0 : Int), (0 : Int), [], (0 : Int))), r1.fst.snd.snd.snd)) else bif decide (r1.fst.fst = (1 : Int)) then
 some (Sum.inr (((1 : Int), some (r1.fst.snd.fst.getD ([], (0 : Int), (0 : Int), [], (0 : Int))), none, (0 : Int)), PUnit.unit)) else bif decide (r1.fst.fst = (2 : Int)) then
 some (Sum.inr (((0 : Int), some (r1.fst.snd.fst.getD ([], (0 : Int), (0 : Int), [], (0 : Int))), some (r1.fst.snd.snd.fst.getD ([], (0 : Int), (0 : Int), [], (0 : Int))), r1.fst.snd.snd.snd), PUnit.unit)) else none else bif decide (r1.fst.fst = (0 : Int)) then
 some (Sum.inl (some (r1.fst.snd.fst.getD ([], (0 : Int), (0 : Int), [], (0 : Int))), none, r1.fst.snd.snd.snd)) else bif decide (r1.fst.fst = (1 : Int)) then
 some (Sum.inr (((1 : Int), some (r1.fst.snd.fst.getD ([], (0 : Int), (0 : Int), [], (0 : Int))), none, (0 : Int)), PUnit.unit)) else bif decide (r1.fst.fst = (2 : Int)) then
 some (Sum.inr (((0 : Int), some (r1.fst.snd.fst.getD ([], (0 : Int), (0 : Int), [], (0 : Int))), none, r1.fst.snd.snd.snd), PUnit.unit)) else none else bif r1.fst.snd.snd.fst.isSome then
 bif decide (r1.fst.fst = (0 : Int)) then
 some (Sum.inl (none, some (r1.fst.snd.snd.fst.getD ([], (0 : Int), (0 : Int), [], (0 : Int))), r1.fst.snd.snd.snd)) else bif decide (r1.fst.fst = (1 : Int)) then
 some (Sum.inr (((1 : Int), none, none, (0 : Int)), PUnit.unit)) else bif decide (r1.fst.fst = (2 : Int)) then
 some (Sum.inr (((0 : Int), none, some (r1.fst.snd.snd.fst.getD ([], (0 : Int), (0 : Int), [], (0 : Int))), r1.fst.snd.snd.snd), PUnit.unit)) else none else bif decide (r1.fst.fst = (0 : Int)) then
 some (Sum.inl (none, none, r1.fst.snd.snd.snd)) else bif decide (r1.fst.fst = (1 : Int)) then
 some (Sum.inr (((1 : Int), none, none, (0 : Int)), PUnit.unit)) else bif decide (r1.fst.fst = (2 : Int)) then
 some (Sum.inr (((0 : Int), none, none, r1.fst.snd.snd.snd), PUnit.unit)) else none else none else bif decide (r0.fst.fst = (1 : Int)) then
 some (Sum.inr (((1 : Int), none, none, (0 : Int)), PUnit.unit)) else none else bif decide (r0.fst.fst = (0 : Int)) then
 bif decide ((0 : Nat) + b.length ≤ b.length) && true then
 (l9 (List.take b.length b) (none, none, at0)).bind fun r1 => bif r1.fst.snd.fst.isSome then
 bif r1.fst.snd.snd.fst.isSome then
 bif decide (r1.fst.fst = (0 : Int)) then
 some (Sum.inl (some (r1.fst.snd.fst.getD ([], (0 : Int), (0 : Int), [], (0 : Int))), some (r1.fst.snd.snd.fst.getD ([], (0 : Int), (0 : Int), [], (0 : Int))), r1.fst.snd.snd.snd)) else bif decide (r1.fst.fst = (1 : Int)) then
 some (Sum.inr (((1 : Int), some (r1.fst.snd.fst.getD ([], (0 : Int), (0 : Int), [], (0 : Int))), none, (0 : Int)), PUnit.unit)) else bif decide (r1.fst.fst = (2 : Int)) then
 some (Sum.inr (((0 : Int), some (r1.fst.snd.fst.getD ([], (0 : Int), (0 : Int), [], (0 : Int))), some (r1.fst.snd.snd.fst.getD ([], (0 : Int), (0 : Int), [], (0 : Int))), r1.fst.snd.snd.snd), PUnit.unit)) else none else bif decide (r1.fst.fst = (0 : Int)) then
 some (Sum.inl (some (r1.fst.snd.fst.getD ([], (0 : Int), (0 : Int), [], (0 : Int))), none, r1.fst.snd.snd.snd)) else bif decide (r1.fst.fst = (1 : Int)) then
 some (Sum.inr (((1 : Int), some (r1.fst.snd.fst.getD ([], (0 : Int), (0 : Int), [], (0 : Int))), none, (0 : Int)), PUnit.unit)) else bif decide (r1.fst.fst = (2 : Int)) then
 some (Sum.inr (((0 : Int), some (r1.fst.snd.fst.getD ([], (0 : Int), (0 : Int), [], (0 : Int))), none, r1.fst.snd.snd.snd), PUnit.unit)) else none else bif r1.fst.snd.snd.fst.isSome then
 bif decide (r1.fst.fst = (0 : Int)) then
 some (Sum.inl (none, some (r1.fst.snd.snd.fst.getD ([], (0 : Int), (0 : Int), [], (0 : Int))), r1.fst.snd.snd.snd)) else bif decide (r1.fst.fst = (1 : Int)) then
 some (Sum.inr (((1 : Int), none, none, (0 : Int)), PUnit.unit)) else bif decide (r1.fst.fst = (2 : Int)) then
 some (Sum.inr (((0 : Int), none, some (r1.fst.snd.snd.fst.getD ([], (0 : Int), (0 : Int), [], (0 : Int))), r1.fst.snd.snd.snd), PUnit.unit)) else none else bif decide (r1.fst.fst = (0 : Int)) then
 some (Sum.inl (none, none, r1.fst.snd.snd.snd)) else bif decide (r1.fst.fst = (1 : Int)) then
 some (Sum.inr (((1 : Int), none, none, (0 : Int)), PUnit.unit)) else bif decide (r1.fst.fst = (2 : Int)) then
 some (Sum.inr (((0 : Int), none, none, r1.fst.snd.snd.snd), PUnit.unit)) else none else none else bif decide (r0.fst.fst = (1 : Int)) then
 some (Sum.inr (((1 : Int), none, none, (0 : Int)), PUnit.unit)) else none else none else some (Sum.inr (((0 : Int), some (t2.getD ([], (0 : Int), (0 : Int), [], (0 : Int))), some (s.getD ([], (0 : Int), (0 : Int), [], (0 : Int))), at0), PUnit.unit)) else bif decide (IntKind.i64.wrap (at0 + (19 : Int)) ≤ (↑b.length : Int)) then
 bif decide ((0 : Nat) + b.length ≤ b.length) && true then
 (l1 (List.take b.length b, at0) (some (t2.getD ([], (0 : Int), (0 : Int), [], (0 : Int))), none, (0 : Int))).bind fun r0 => bif r0.fst.snd.fst.isSome then
 bif Option.isSome r0.fst.snd.snd then
 bif decide (r0.fst.fst = (0 : Int)) then
 bif decide ((0 : Nat) + b.length ≤ b.length) && true then
 (l9 (List.take b.length b) (some (r0.fst.snd.fst.getD ([], (0 : Int), (0 : Int), [], (0 : Int))), some (Option.getD r0.fst.snd.snd ([], (0 : Int), (0 : Int), [], (0 : Int))), at0)).bind fun r1 => bif r1.fst.snd.fst.isSome then
 bif r1.fst.snd.snd.fst.isSome then
 bif decide (r1.fst.fst = (0 : Int)) then
 some (Sum.inl (some (r1.fst.snd.fst.getD ([], (0 : Int), (0 : Int), [], (0 : Int))), some (r1.fst.snd.snd.fst.getD ([], (0 : Int), (0 : Int), [], (0 : Int))), r1.fst.snd.snd.snd)) else bif decide (r1.fst.fst = (1 : Int)) then
 some (Sum.inr (((1 : Int), some (r1.fst.snd.fst.getD ([], (0 : Int), (0 : Int), [], (0 : Int))), none, (0 : Int)), PUnit.unit)) else bif decide (r1.fst.fst = (2 : Int)) then
 some (Sum.inr (((0 : Int), some (r1.fst.snd.fst.getD ([], (0 : Int), (0 : Int), [], (0 : Int))), some (r1.fst.snd.snd.fst.getD ([], (0 : Int), (0 : Int), [], (0 : Int))), r1.fst.snd.snd.snd), PUnit.unit)) else none else bif decide (r1.fst.fst = (0 : Int)) then
 some (Sum.inl (some (r1.fst.snd.fst.getD ([], (0 : Int), (0 : Int), [], (0 : Int))), none, r1.fst.snd.snd.snd)) else bif decide (r1.fst.fst = (1 : Int)) then
 some (Sum.inr (((1 : Int), some (r1.fst.snd.fst.getD ([], (0 : Int), (0 : Int), [], (0 : Int))), none, (0 : Int)), PUnit.unit)) else bif decide (r1.fst.fst = (2 : Int)) then
 some (Sum.inr (((0 : Int), some (r1.fst.snd.fst.getD ([], (0 : Int), (0 : Int), [], (0 : Int))), none, r1.fst.snd.snd.snd), PUnit.unit)) else none else bif r1.fst.snd.snd.fst.isSome then
 bif decide (r1.fst.fst = (0 : Int)) then
 some (Sum.inl (none, some (r1.fst.snd.snd.fst.getD ([], (0 : Int), (0 : Int), [], (0 : Int))), r1.fst.snd.snd.snd)) else bif decide (r1.fst.fst = (1 : Int)) then
 some (Sum.inr (((1 : Int), none, none, (0 : Int)), PUnit.unit)) else bif decide (r1.fst.fst = (2 : Int)) then
 some (Sum.inr (((0 : Int), none, some (r1.fst.snd.snd.fst.getD ([], (0 : Int), (0 : Int), [], (0 : Int))), r1.fst.snd.snd.snd), PUnit.unit)) else none else bif decide (r1.fst.fst = (0 : Int)) then
 some (Sum.inl (none, none, r1.fst.snd.snd.snd)) else bif decide (r1.fst.fst = (1 : Int)) then
 some (Sum.inr (((1 : Int), none, none, (0 : Int)), PUnit.unit)) else bif decide (r1.fst.fst = (2 : Int)) then
 some (Sum.inr (((0 : Int), none, none, r1.fst.snd.snd.snd), PUnit.unit)) else none else none else bif decide (r0.fst.fst = (1 : Int)) then
 some (Sum.inr (((1 : Int), some (r0.fst.snd.fst.getD ([], (0 : Int), (0 : Int), [], (0 : Int))), none, (0 : Int)), PUnit.unit)) else none else bif decide (r0.fst.fst = (0 : Int)) then
 bif decide ((0 : Nat) + b.length ≤ b.length) && true then
 (l9 (List.take b.length b) (some (r0.fst.snd.fst.getD ([], (0 : Int), (0 : Int), [], (0 : Int))), none, at0)).bind fun r1 => bif r1.fst.snd.fst.isSome then
 bif r1.fst.snd.snd.fst.isSome then
 bif decide (r1.fst.fst = (0 : Int)) then
 some (Sum.inl (some (r1.fst.snd.fst.getD ([], (0 : Int), (0 : Int), [], (0 : Int))), some (r1.fst.snd.snd.fst.getD ([], (0 : Int), (0 : Int), [], (0 : Int))), r1.fst.snd.snd.snd)) else bif decide (r1.fst.fst = (1 : Int)) then
 some (Sum.inr (((1 : Int), some (r1.fst.snd.fst.getD ([], (0 : Int), (0 : Int), [], (0 : Int))), none, (0 : Int)), PUnit.unit)) else bif decide (r1.fst.fst = (2 : Int)) then
 some (Sum.inr (((0 : Int), some (r1.fst.snd.fst.getD ([], (0 : Int), (0 : Int), [], (0 : Int))), some (r1.fst.snd.snd.fst.getD ([], (0 : Int), (0 : Int), [], (0 : Int))), r1.fst.snd.snd.snd), PUnit.unit)) else none else bif decide (r1.fst.fst = (0 : Int)) then
 some (Sum.inl (some (r1.fst.snd.fst.getD ([], (0 : Int), (0 : Int), [], (0 : Int))), none, r1.fst.snd.snd.snd)) else bif decide (r1.fst.fst = (1 : Int)) then
 some (Sum.inr (((1 : Int), some (r1.fst.snd.fst.getD ([], (0 : Int), (0 : Int), [], (0 : Int))), none, (0 : Int)), PUnit.unit)) else bif decide (r1.fst.fst = (2 : Int)) then
 some (Sum.inr (((0 : Int), some (r1.fst.snd.fst.getD ([], (0 : Int), (0 : Int), [], (0 : Int))), none, r1.fst.snd.snd.snd), PUnit.unit)) else none else bif r1.fst.snd.snd.fst.isSome then
 bif decide (r1.fst.fst = (0 : Int)) then
 some (Sum.inl (none, some (r1.fst.snd.snd.fst.getD ([], (0 : Int), (0 : Int), [], (0 : Int))), r1.fst.snd.snd.snd)) else bif decide (r1.fst.fst = (1 : Int)) then
 some (Sum.inr (((1 : Int), none, none, (0 : Int)), PUnit.unit)) else bif decide (r1.fst.fst = (2 : Int)) then
 some (Sum.inr (((0 : Int), none, some (r1.fst.snd.snd.fst.getD ([], (0 : Int), (0 : Int), [], (0 : Int))), r1.fst.snd.snd.snd), PUnit.unit)) else none else bif decide (r1.fst.fst = (0 : Int)) then
 some (Sum.inl (none, none, r1.fst.snd.snd.snd)) else bif decide (r1.fst.fst = (1 : Int)) then
 some (Sum.inr (((1 : Int), none, none, (0 : Int)), PUnit.unit)) else bif decide (r1.fst.fst = (2 : Int)) then
 some (Sum.inr (((0 : Int), none, none, r1.fst.snd.snd.snd), PUnit.unit)) else none else none else bif decide (r0.fst.fst = (1 : Int)) then
 some (Sum.inr (((1 : Int), some (r0.fst.snd.fst.getD ([], (0 : Int), (0 : Int), [], (0 : Int))), none, (0 : Int)), PUnit.unit)) else none else bif Option.isSome r0.fst.snd.snd then
 bif decide (r0.fst.fst = (0 : Int)) then
 bif decide ((0 : Nat) + b.length ≤ b.length) && true then
 (l9 (List.take b.length b) (none, some (Option.getD r0.fst.snd.snd ([], (0 : Int), (0 : Int), [], (0 : Int))), at0)).bind fun r1 => bif r1.fst.snd.fst.isSome then
 bif r1.fst.snd.snd.fst.isSome then
 bif decide (r1.fst.fst = (0 : Int)) then
 some (Sum.inl (some (r1.fst.snd.fst.getD ([], (0 : Int), (0 : Int), [], (0 : Int))), some (r1.fst.snd.snd.fst.getD ([], (0 : Int), (0 : Int), [], (0 : Int))), r1.fst.snd.snd.snd)) else bif decide (r1.fst.fst = (1 : Int)) then
 some (Sum.inr (((1 : Int), some (r1.fst.snd.fst.getD ([], (0 : Int), (0 : Int), [], (0 : Int))), none, (0 : Int)), PUnit.unit)) else bif decide (r1.fst.fst = (2 : Int)) then
 some (Sum.inr (((0 : Int), some (r1.fst.snd.fst.getD ([], (0 : Int), (0 : Int), [], (0 : Int))), some (r1.fst.snd.snd.fst.getD ([], (0 : Int), (0 : Int), [], (0 : Int))), r1.fst.snd.snd.snd), PUnit.unit)) else none else bif decide (r1.fst.fst = (0 : Int)) then
 some (Sum.inl (some (r1.fst.snd.fst.getD ([], (0 : Int), (0 : Int), [], (0 : Int))), none, r1.fst.snd.snd.snd)) else bif decide (r1.fst.fst = (1 : Int)) then
 some (Sum.inr (((1 : Int), some (r1.fst.snd.fst.getD ([], (0 : Int), (0 : Int), [], (0 : Int))), none, (0 : Int)), PUnit.unit)) else bif decide (r1.fst.fst = (2 : Int)) then
 some (Sum.inr (((0 : Int), some (r1.fst.snd.fst.getD ([], (0 : Int), (0 : Int), [], (0 : Int))), none, r1.fst.snd.snd.snd), PUnit.unit)) else none else bif r1.fst.snd.snd.fst.isSome then
 bif decide (r1.fst.fst = (0 : Int)) then
 some (Sum.inl (none, some (r1.fst.snd.snd.fst.getD ([], (0 : Int), (0 : Int), [], (0 : Int))), r1.fst.snd.snd.snd)) else bif decide (r1.fst.fst = (1 : Int)) then
 some (Sum.inr (((1 : Int), none, none, (0 : Int)), PUnit.unit)) else bif decide (r1.fst.fst = (2 : Int)) then
 some (Sum.inr (((0 : Int), none, some (r1.fst.snd.snd.fst.getD ([], (0 : Int), (0 : Int), [], (0 : Int))), r1.fst.snd.snd.snd), PUnit.unit)) else none else bif decide (r1.fst.fst = (0 : Int)) then
 some (Sum.inl (none, none, r1.fst.snd.snd.snd)) else bif decide (r1.fst.fst = (1 : Int)) then
 some (Sum.inr (((1 : Int), none, none, (0 : Int)), PUnit.unit)) else bif decide (r1.fst.fst = (2 : Int)) then
 some (Sum.inr (((0 : Int), none, none, r1.fst.snd.snd.snd), PUnit.unit)) else none else none else bif decide (r0.fst.fst = (1 : Int)) then
 some (Sum.inr (((1 : Int), none, none, (0 : Int)), PUnit.unit)) else none else bif decide (r0.fst.fst = (0 : Int)) then
 bif decide ((0 : Nat) + b.length ≤ b.length) && true then
 (l9 (List.take b.length b) (none, none, at0)).bind fun r1 => bif r1.fst.snd.fst.isSome then
 bif r1.fst.snd.snd.fst.isSome then
 bif decide (r1.fst.fst = (0 : Int)) then
 some (Sum.inl (some (r1.fst.snd.fst.getD ([], (0 : Int), (0 : Int), [], (0 : Int))), some (r1.fst.snd.snd.fst.getD ([], (0 : Int), (0 : Int), [], (0 : Int))), r1.fst.snd.snd.snd)) else bif decide (r1.fst.fst = (1 : Int)) then
 some (Sum.inr (((1 : Int), some (r1.fst.snd.fst.getD ([], (0 : Int), (0 : Int), [], (0 : Int))), none, (0 : Int)), PUnit.unit)) else bif decide (r1.fst.fst = (2 : Int)) then
 some (Sum.inr (((0 : Int), some (r1.fst.snd.fst.getD ([], (0 : Int), (0 : Int), [], (0 : Int))), some (r1.fst.snd.snd.fst.getD ([], (0 : Int), (0 : Int), [], (0 : Int))), r1.fst.snd.snd.snd), PUnit.unit)) else none else bif decide (r1.fst.fst = (0 : Int)) then
 some (Sum.inl (some (r1.fst.snd.fst.getD ([], (0 : Int), (0 : Int), [], (0 : Int))), none, r1.fst.snd.snd.snd)) else bif decide (r1.fst.fst = (1 : Int)) then
 some (Sum.inr (((1 : Int), some (r1.fst.snd.fst.getD ([], (0 : Int), (0 : Int), [], (0 : Int))), none, (0 : Int)), PUnit.unit)) else bif decide (r1.fst.fst = (2 : Int)) then
 some (Sum.inr (((0 : Int), some (r1.fst.snd.fst.getD ([], (0 : Int), (0 : Int), [], (0 : Int))), none, r1.fst.snd.snd.snd), PUnit.unit)) else none else bif r1.fst.snd.snd.fst.isSome then
 bif decide (r1.fst.fst = (0 : Int)) then
 some (Sum.inl (none, some (r1.fst.snd.snd.fst.getD ([], (0 : Int), (0 : Int), [], (0 : Int))), r1.fst.snd.snd.snd)) else bif decide (r1.fst.fst = (1 : Int)) then
 some (Sum.inr (((1 : Int), none, none, (0 : Int)), PUnit.unit)) else bif decide (r1.fst.fst = (2 : Int)) then
 some (Sum.inr (((0 : Int), none, some (r1.fst.snd.snd.fst.getD ([], (0 : Int), (0 : Int), [], (0 : Int))), r1.fst.snd.snd.snd), PUnit.unit)) else none else bif decide (r1.fst.fst = (0 : Int)) then
 some (Sum.inl (none, none, r1.fst.snd.snd.snd)) else bif decide (r1.fst.fst = (1 : Int)) then
 some (Sum.inr (((1 : Int), none, none, (0 : Int)), PUnit.unit)) else bif decide (r1.fst.fst = (2 : Int)) then
 some (Sum.inr (((0 : Int), none, none, r1.fst.snd.snd.snd), PUnit.unit)) else none else none else bif decide (r0.fst.fst = (1 : Int)) then
 some (Sum.inr (((1 : Int), none, none, (0 : Int)), PUnit.unit)) else none else none else some (Sum.inr (((0 : Int), some (t2.getD ([], (0 : Int), (0 : Int), [], (0 : Int))), none, at0), PUnit.unit)) else bif s.isSome then
 bif decide (IntKind.i64.wrap (at0 + (19 : Int)) ≤ (↑b.length : Int)) then
 bif decide ((0 : Nat) + b.length ≤ b.length) && true then
 (l1 (List.take b.length b, at0) (none, some (s.getD ([], (0 : Int), (0 : Int), [], (0 : Int))), (0 : Int))).bind fun r0 => bif r0.fst.snd.fst.isSome then
 bif Option.isSome r0.fst.snd.snd then
 bif decide (r0.fst.fst = (0 : Int)) then
 bif decide ((0 : Nat) + b.length ≤ b.length) && true then
 (l9 (List.take b.length b) (some (r0.fst.snd.fst.getD ([], (0 : Int), (0 : Int), [], (0 : Int))), some (Option.getD r0.fst.snd.snd ([], (0 : Int), (0 : Int), [], (0 : Int))), at0)).bind fun r1 => bif r1.fst.snd.fst.isSome then
 bif r1.fst.snd.snd.fst.isSome then
 bif decide (r1.fst.fst = (0 : Int)) then
 some (Sum.inl (some (r1.fst.snd.fst.getD ([], (0 : Int), (0 : Int), [], (0 : Int))), some (r1.fst.snd.snd.fst.getD ([], (0 : Int), (0 : Int), [], (0 : Int))), r1.fst.snd.snd.snd)) else bif decide (r1.fst.fst = (1 : Int)) then
 some (Sum.inr (((1 : Int), some (r1.fst.snd.fst.getD ([], (0 : Int), (0 : Int), [], (0 : Int))), none, (0 : Int)), PUnit.unit)) else bif decide (r1.fst.fst = (2 : Int)) then
 some (Sum.inr (((0 : Int), some (r1.fst.snd.fst.getD ([], (0 : Int), (0 : Int), [], (0 : Int))), some (r1.fst.snd.snd.fst.getD ([], (0 : Int), (0 : Int), [], (0 : Int))), r1.fst.snd.snd.snd), PUnit.unit)) else none else bif decide (r1.fst.fst = (0 : Int)) then
 some (Sum.inl (some (r1.fst.snd.fst.getD ([], (0 : Int), (0 : Int), [], (0 : Int))), none, r1.fst.snd.snd.snd)) else bif decide (r1.fst.fst = (1 : Int)) then
 some (Sum.inr (((1 : Int), some (r1.fst.snd.fst.getD ([], (0 : Int), (0 : Int), [], (0 : Int))), none, (0 : Int)), PUnit.unit)) else bif decide (r1.fst.fst = (2 : Int)) then
 some (Sum.inr (((0 : Int), some (r1.fst.snd.fst.getD ([], (0 : Int), (0 : Int), [], (0 : Int))), none, r1.fst.snd.snd.snd), PUnit.unit)) else none else bif r1.fst.snd.snd.fst.isSome then
 bif decide (r1.fst.fst = (0 : Int)) then
 some (Sum.inl (none, some (r1.fst.snd.snd.fst.getD ([], (0 : Int), (0 : Int), [], (0 : Int))), r1.fst.snd.snd.snd)) else bif decide (r1.fst.fst = (1 : Int)) then
 some (Sum.inr (((1 : Int), none, none, (0 : Int)), PUnit.unit)) else bif decide (r1.fst.fst = (2 : Int)) then
 some (Sum.inr (((0 : Int), none, some (r1.fst.snd.snd.fst.getD ([], (0 : Int), (0 : Int), [], (0 : Int))), r1.fst.snd.snd.snd), PUnit.unit)) else none else bif decide (r1.fst.fst = (0 : Int)) then
 some (Sum.inl (none, none, r1.fst.snd.snd.snd)) else bif decide (r1.fst.fst = (1 : Int)) then
 some (Sum.inr (((1 : Int), none, none, (0 : Int)), PUnit.unit)) else bif decide (r1.fst.fst = (2 : Int)) then
 some (Sum.inr (((0 : Int), none, none, r1.fst.snd.snd.snd), PUnit.unit)) else none else none else bif decide (r0.fst.fst = (1 : Int)) then
 some (Sum.inr (((1 : Int), some (r0.fst.snd.fst.getD ([], (0 : Int), (0 : Int), [], (0 : Int))), none, (0 : Int)), PUnit.unit)) else none else bif decide (r0.fst.fst = (0 : Int)) then
 bif decide ((0 : Nat) + b.length ≤ b.length) && true then
 (l9 (List.take b.length b) (some (r0.fst.snd.fst.getD ([], (0 : Int), (0 : Int), [], (0 : Int))), none, at0)).bind fun r1 => bif r1.fst.snd.fst.isSome then
 bif r1.fst.snd.snd.fst.isSome then
 bif decide (r1.fst.fst = (0 : Int)) then
 some (Sum.inl (some (r1.fst.snd.fst.getD ([], (0 : Int), (0 : Int), [], (0 : Int))), some (r1.fst.snd.snd.fst.getD ([], (0 : Int), (0 : Int), [], (0 : Int))), r1.fst.snd.snd.snd)) else bif decide (r1.fst.fst = (1 : Int)) then
 some (Sum.inr (((1 : Int), some (r1.fst.snd.fst.getD ([], (0 : Int), (0 : Int), [], (0 : Int))), none, (0 : Int)), PUnit.unit)) else bif decide (r1.fst.fst = (2 : Int)) then
 some (Sum.inr (((0 : Int), some (r1.fst.snd.fst.getD ([], (0 : Int), (0 : Int), [], (0 : Int))), some (r1.fst.snd.snd.fst.getD ([], (0 : Int), (0 : Int), [], (0 : Int))), r1.fst.snd.snd.snd), PUnit.unit)) else none else bif decide (r1.fst.fst = (0 : Int)) then
 some (Sum.inl (some (r1.fst.snd.fst.getD ([], (0 : Int), (0 : Int), [], (0 : Int))), none, r1.fst.snd.snd.snd)) else bif decide (r1.fst.fst = (1 : Int)) then
 some (Sum.inr (((1 : Int), some (r1.fst.snd.fst.getD ([], (0 : Int), (0 : Int), [], (0 : Int))), none, (0 : Int)), PUnit.unit)) else bif decide (r1.fst.fst = (2 : Int)) then
 some (Sum.inr (((0 : Int), some (r1.fst.snd.fst.getD ([], (0 : Int), (0 : Int), [], (0 : Int))), none, r1.fst.snd.snd.snd), PUnit.unit)) else none else bif r1.fst.snd.snd.fst.isSome then
 bif decide (r1.fst.fst = (0 : Int)) then
 some (Sum.inl (none, some (r1.fst.snd.snd.fst.getD ([], (0 : Int), (0 : Int), [], (0 : Int))), r1.fst.snd.snd.snd)) else bif decide (r1.fst.fst = (1 : Int)) then
 some (Sum.inr (((1 : Int), none, none, (0 : Int)), PUnit.unit)) else bif decide (r1.fst.fst = (2 : Int)) then
 some (Sum.inr (((0 : Int), none, some (r1.fst.snd.snd.fst.getD ([], (0 : Int), (0 : Int), [], (0 : Int))), r1.fst.snd.snd.snd), PUnit.unit)) else none else bif decide (r1.fst.fst = (0 : Int)) then
 some (Sum.inl (none, none, r1.fst.snd.snd.snd)) else bif decide (r1.fst.fst = (1 : Int)) then
 some (Sum.inr (((1 : Int), none, none, (0 : Int)), PUnit.unit)) else bif decide (r1.fst.fst = (2 : Int)) then
 some (Sum.inr (((0 : Int), none, none, r1.fst.snd.snd.snd), PUnit.unit)) else none else none else bif decide (r0.fst.fst = (1 : Int)) then
 some (Sum.inr (((1 : Int), some (r0.fst.snd.fst.getD ([], (0 : Int), (0 : Int), [], (0 : Int))), none, (0 : Int)), PUnit.unit)) else none else bif Option.isSome r0.fst.snd.snd then
 bif decide (r0.fst.fst = (0 : Int)) then
 bif decide ((0 : Nat) + b.length ≤ b.length) && true then
 (l9 (List.take b.length b) (none, some (Option.getD r0.fst.snd.snd ([], (0 : Int), (0 : Int), [], (0 : Int))), at0)).bind fun r1 => bif r1.fst.snd.fst.isSome then
 bif r1.fst.snd.snd.fst.isSome then
 bif decide (r1.fst.fst = (0 : Int)) then
 some (Sum.inl (some (r1.fst.snd.fst.getD ([], (0 : Int), (0 : Int), [], (0 : Int))), some (r1.fst.snd.snd.fst.getD ([], (0 : Int), (0 : Int), [], (0 : Int))), r1.fst.snd.snd.snd)) else bif decide (r1.fst.fst = (1 : Int)) then
 some (Sum.inr (((1 : Int), some (r1.fst.snd.fst.getD ([], (0 : Int), (0 : Int), [], (0 : Int))), none, (0 : Int)), PUnit.unit)) else bif decide (r1.fst.fst = (2 : Int)) then
 some (Sum.inr (((0 : Int), some (r1.fst.snd.fst.getD ([], (0 : Int), (0 : Int), [], (0 : Int))), some (r1.fst.snd.snd.fst.getD ([], (0 : Int), (0 : Int), [], (0 : Int))), r1.fst.snd.snd.snd), PUnit.unit)) else none else bif decide (r1.fst.fst = (0 : Int)) then
 some (Sum.inl (some (r1.fst.snd.fst.getD ([], (0 : Int), (0 : Int), [], (0 : Int))), none, r1.fst.snd.snd.snd)) else bif decide (r1.fst.fst = (1 : Int)) then
 some (Sum.inr (((1 : Int), some (r1.fst.snd.fst.getD ([], (0 : Int), (0 : Int), [], (0 : Int))), none, (0 : Int)), PUnit.unit)) else bif decide (r1.fst.fst = (2 : Int)) then
 some (Sum.inr (((0 : Int), some (r1.fst.snd.fst.getD ([], (0 : Int), (0 : Int), [], (0 : Int))), none, r1.fst.snd.snd.snd), PUnit.unit)) else none else bif r1.fst.snd.snd.fst.isSome then
 bif decide (r1.fst.fst = (0 : Int)) then
 some (Sum.inl (none, some (r1.fst.snd.snd.fst.getD ([], (0 : Int), (0 : Int), [], (0 : Int))), r1.fst.snd.snd.snd)) else bif decide (r1.fst.fst = (1 : Int)) then
 some (Sum.inr (((1 : Int), none, none, (0 : Int)), PUnit.unit)) else bif decide (r1.fst.fst = (2 : Int)) then
 some (Sum.inr (((0 : Int), none, some (r1.fst.snd.snd.fst.getD ([], (0 : Int), (0 : Int), [], (0 : Int))), r1.fst.snd.snd.snd), PUnit.unit)) else none else bif decide (r1.fst.fst = (0 : Int)) then
 some (Sum.inl (none, none, r1.fst.snd.snd.snd)) else bif decide (r1.fst.fst = (1 : Int)) then
 some (Sum.inr (((1 : Int), none, none, (0 : Int)), PUnit.unit)) else bif decide (r1.fst.fst = (2 : Int)) then
 some (Sum.inr (((0 : Int), none, none, r1.fst.snd.snd.snd), PUnit.unit)) else none else none else bif decide (r0.fst.fst = (1 : Int)) then
 some (Sum.inr (((1 : Int), none, none, (0 : Int)), PUnit.unit)) else none else bif decide (r0.fst.fst = (0 : Int)) then
 bif decide ((0 : Nat) + b.length ≤ b.length) && true then
 (l9 (List.take b.length b) (none, none, at0)).bind fun r1 => bif r1.fst.snd.fst.isSome then
 bif r1.fst.snd.snd.fst.isSome then
 bif decide (r1.fst.fst = (0 : Int)) then
 some (Sum.inl (some (r1.fst.snd.fst.getD ([], (0 : Int), (0 : Int), [], (0 : Int))), some (r1.fst.snd.snd.fst.getD ([], (0 : Int), (0 : Int), [], (0 : Int))), r1.fst.snd.snd.snd)) else bif decide (r1.fst.fst = (1 : Int)) then
 some (Sum.inr (((1 : Int), some (r1.fst.snd.fst.getD ([], (0 : Int), (0 : Int), [], (0 : Int))), none, (0 : Int)), PUnit.unit)) else bif decide (r1.fst.fst = (2 : Int)) then
 some (Sum.inr (((0 : Int), some (r1.fst.snd.fst.getD ([], (0 : Int), (0 : Int), [], (0 : Int))), some (r1.fst.snd.snd.fst.getD ([], (0 : Int), (0 : Int), [], (0 : Int))), r1.fst.snd.snd.snd), PUnit.unit)) else none else bif decide (r1.fst.fst = (0 : Int)) then
 some (Sum.inl (some (r1.fst.snd.fst.getD ([], (0 : Int), (0 : Int), [], (0 : Int))), none, r1.fst.snd.snd.snd)) else bif decide (r1.fst.fst = (1 : Int)) then
 some (Sum.inr (((1 : Int), some (r1.fst.snd.fst.getD ([], (0 : Int), (0 : Int), [], (0 : Int))), none, (0 : Int)), PUnit.unit)) else bif decide (r1.fst.fst = (2 : Int)) then
 some (Sum.inr (((0 : Int), some (r1.fst.snd.fst.getD ([], (0 : Int), (0 : Int), [], (0 : Int))), none, r1.fst.snd.snd.snd), PUnit.unit)) else none else bif r1.fst.snd.snd.fst.isSome then
 bif decide (r1.fst.fst = (0 : Int)) then
 some (Sum.inl (none, some (r1.fst.snd.snd.fst.getD ([], (0 : Int), (0 : Int), [], (0 : Int))), r1.fst.snd.snd.snd)) else bif decide (r1.fst.fst = (1 : Int)) then
 some (Sum.inr (((1 : Int), none, none, (0 : Int)), PUnit.unit)) else bif decide (r1.fst.fst = (2 : Int)) then
 some (Sum.inr (((0 : Int), none, some (r1.fst.snd.snd.fst.getD ([], (0 : Int), (0 : Int), [], (0 : Int))), r1.fst.snd.snd.snd), PUnit.unit)) else none else bif decide (r1.fst.fst = (0 : Int)) then
 some (Sum.inl (none, none, r1.fst.snd.snd.snd)) else bif decide (r1.fst.fst = (1 : Int)) then
 some (Sum.inr (((1 : Int), none, none, (0 : Int)), PUnit.unit)) else bif decide (r1.fst.fst = (2 : Int)) then
 some (Sum.inr (((0 : Int), none, none, r1.fst.snd.snd.snd), PUnit.unit)) else none else none else bif decide (r0.fst.fst = (1 : Int)) then
 some (Sum.inr (((1 : Int), none, none, (0 : Int)), PUnit.unit)) else none else none else some (Sum.inr (((0 : Int), none, some (s.getD ([], (0 : Int), (0 : Int), [], (0 : Int))), at0), PUnit.unit)) else bif decide (IntKind.i64.wrap (at0 + (19 : Int)) ≤ (↑b.length : Int)) then
 bif decide ((0 : Nat) + b.length ≤ b.length) && true then
 (l1 (List.take b.length b, at0) (none, none, (0 : Int))).bind fun r0 => bif r0.fst.snd.fst.isSome then
 bif Option.isSome r0.fst.snd.snd then
 bif decide (r0.fst.fst = (0 : Int)) then
 bif decide ((0 : Nat) + b.length ≤ b.length) && true then
 (l9 (List.take b.length b) (some (r0.fst.snd.fst.getD ([], (0 : Int), (0 : Int), [], (0 : Int))), some (Option.getD r0.fst.snd.snd ([], (0 : Int), (0 : Int), [], (0 : Int))), at0)).bind fun r1 => bif r1.fst.snd.fst.isSome then
 bif r1.fst.snd.snd.fst.isSome then
 bif decide (r1.fst.fst = (0 : Int)) then
 some (Sum.inl (some (r1.fst.snd.fst.getD ([], (0 : Int), (0 : Int), [], (0 : Int))), some (r1.fst.snd.snd.fst.getD ([], (0 : Int), (0 : Int), [], (0 : Int))), r1.fst.snd.snd.snd)) else bif decide (r1.fst.fst = (1 : Int)) then
 some (Sum.inr (((1 : Int), some (r1.fst.snd.fst.getD ([], (0 : Int), (0 : Int), [], (0 : Int))), none, (0 : Int)), PUnit.unit)) else bif decide (r1.fst.fst = (2 : Int)) then
 some (Sum.inr (((0 : Int), some (r1.fst.snd.fst.getD ([], (0 : Int), (0 : Int), [], (0 : Int))), some (r1.fst.snd.snd.fst.getD ([], (0 : Int), (0 : Int), [], (0 : Int))), r1.fst.snd.snd.snd), PUnit.unit)) else none else bif decide (r1.fst.fst = (0 : Int)) then
 some (Sum.inl (some (r1.fst.snd.fst.getD ([], (0 : Int), (0 : Int), [], (0 : Int))), none, r1.fst.snd.snd.snd)) else bif decide (r1.fst.fst = (1 : Int)) then
 some (Sum.inr (((1 : Int), some (r1.fst.snd.fst.getD ([], (0 : Int), (0 : Int), [], (0 : Int))), none, (0 : Int)), PUnit.unit)) else bif decide (r1.fst.fst = (2 : Int)) then
 some (Sum.inr (((0 : Int), some (r1.fst.snd.fst.getD ([], (0 : Int), (0 : Int), [], (0 : Int))), none, r1.fst.snd.snd.snd), PUnit.unit)) else none else bif r1.fst.snd.snd.fst.isSome then
 bif decide (r1.fst.fst = (0 : Int)) then
 some (Sum.inl (none, some (r1.fst.snd.snd.fst.getD ([], (0 : Int), (0 : Int), [], (0 : Int))), r1.fst.snd.snd.snd)) else bif decide (r1.fst.fst = (1 : Int)) then
 some (Sum.inr (((1 : Int), none, none, (0 : Int)), PUnit.unit)) else bif decide (r1.fst.fst = (2 : Int)) then
 some (Sum.inr (((0 : Int), none, some (r1.fst.snd.snd.fst.getD ([], (0 : Int), (0 : Int), [], (0 : Int))), r1.fst.snd.snd.snd), PUnit.unit)) else none else bif decide (r1.fst.fst = (0 : Int)) then
 some (Sum.inl (none, none, r1.fst.snd.snd.snd)) else bif decide (r1.fst.fst = (1 : Int)) then
 some (Sum.inr (((1 : Int), none, none, (0 : Int)), PUnit.unit)) else bif decide (r1.fst.fst = (2 : Int)) then
 some (Sum.inr (((0 : Int), none, none, r1.fst.snd.snd.snd), PUnit.unit)) else none else none else bif decide (r0.fst.fst = (1 : Int)) then
 some (Sum.inr (((1 : Int), some (r0.fst.snd.fst.getD ([], (0 : Int), (0 : Int), [], (0 : Int))), none, (0 : Int)), PUnit.unit)) else none else bif decide (r0.fst.fst = (0 : Int)) then
 bif decide ((0 : Nat) + b.length ≤ b.length) && true then
 (l9 (List.take b.length b) (some (r0.fst.snd.fst.getD ([], (0 : Int), (0 : Int), [], (0 : Int))), none, at0)).bind fun r1 => bif r1.fst.snd.fst.isSome then
 bif r1.fst.snd.snd.fst.isSome then
 bif decide (r1.fst.fst = (0 : Int)) then
 some (Sum.inl (some (r1.fst.snd.fst.getD ([], (0 : Int), (0 : Int), [], (0 : Int))), some (r1.fst.snd.snd.fst.getD ([], (0 : Int), (0 : Int), [], (0 : Int))), r1.fst.snd.snd.snd)) else bif decide (r1.fst.fst = (1 : Int)) then
 some (Sum.inr (((1 : Int), some (r1.fst.snd.fst.getD ([], (0 : Int), (0 : Int), [], (0 : Int))), none, (0 : Int)), PUnit.unit)) else bif decide (r1.fst.fst = (2 : Int)) then
 some (Sum.inr (((0 : Int), some (r1.fst.snd.fst.getD ([], (0 : Int), (0 : Int), [], (0 : Int))), some (r1.fst.snd.snd.fst.getD ([], (0 : Int), (0 : Int), [], (0 : Int))), r1.fst.snd.snd.snd), PUnit.unit)) else none else bif decide (r1.fst.fst = (0 : Int)) then
 some (Sum.inl (some (r1.fst.snd.fst.getD ([], (0 : Int), (0 : Int), [], (0 : Int))), none, r1.fst.snd.snd.snd)) else bif decide (r1.fst.fst = (1 : Int)) then
 some (Sum.inr (((1 : Int), some (r1.fst.snd.fst.getD ([], (0 : Int), (0 : Int), [], (0 : Int))), none, (0 : Int)), PUnit.unit)) else bif decide (r1.fst.fst = (2 : Int)) then
 some (Sum.inr (((0 : Int), some (r1.fst.snd.fst.getD ([], (0 : Int), (0 : Int), [], (0 : Int))), none, r1.fst.snd.snd.snd), PUnit.unit)) else none else bif r1.fst.snd.snd.fst.isSome then
 bif decide (r1.fst.fst = (0 : Int)) then
 some (Sum.inl (none, some (r1.fst.snd.snd.fst.getD ([], (0 : Int), (0 : Int), [], (0 : Int))), r1.fst.snd.snd.snd)) else bif decide (r1.fst.fst = (1 : Int)) then
 some (Sum.inr (((1 : Int), none, none, (0 : Int)), PUnit.unit)) else bif decide (r1.fst.fst = (2 : Int)) then
 some (Sum.inr (((0 : Int), none, some (r1.fst.snd.snd.fst.getD ([], (0 : Int), (0 : Int), [], (0 : Int))), r1.fst.snd.snd.snd), PUnit.unit)) else none else bif decide (r1.fst.fst = (0 : Int)) then
 some (Sum.inl (none, none, r1.fst.snd.snd.snd)) else bif decide (r1.fst.fst = (1 : Int)) then
 some (Sum.inr (((1 : Int), none, none, (0 : Int)), PUnit.unit)) else bif decide (r1.fst.fst = (2 : Int)) then
 some (Sum.inr (((0 : Int), none, none, r1.fst.snd.snd.snd), PUnit.unit)) else none else none else bif decide (r0.fst.fst = (1 : Int)) then
 some (Sum.inr (((1 : Int), some (r0.fst.snd.fst.getD ([], (0 : Int), (0 : Int), [], (0 : Int))), none, (0 : Int)), PUnit.unit)) else none else bif Option.isSome r0.fst.snd.snd then
 bif decide (r0.fst.fst = (0 : Int)) then
 bif decide ((0 : Nat) + b.length ≤ b.length) && true then
 (l9 (List.take b.length b) (none, some (Option.getD r0.fst.snd.snd ([], (0 : Int), (0 : Int), [], (0 : Int))), at0)).bind fun r1 => bif r1.fst.snd.fst.isSome then
 bif r1.fst.snd.snd.fst.isSome then
 bif decide (r1.fst.fst = (0 : Int)) then
 some (Sum.inl (some (r1.fst.snd.fst.getD ([], (0 : Int), (0 : Int), [], (0 : Int))), some (r1.fst.snd.snd.fst.getD ([], (0 : Int), (0 : Int), [], (0 : Int))), r1.fst.snd.snd.snd)) else bif decide (r1.fst.fst = (1 : Int)) then
 some (Sum.inr (((1 : Int), some (r1.fst.snd.fst.getD ([], (0 : Int), (0 : Int), [], (0 : Int))), none, (0 : Int)), PUnit.unit)) else bif decide (r1.fst.fst = (2 : Int)) then
 some (Sum.inr (((0 : Int), some (r1.fst.snd.fst.getD ([], (0 : Int), (0 : Int), [], (0 : Int))), some (r1.fst.snd.snd.fst.getD ([], (0 : Int), (0 : Int), [], (0 : Int))), r1.fst.snd.snd.snd), PUnit.unit)) else none else bif decide (r1.fst.fst = (0 : Int)) then
 some (Sum.inl (some (r1.fst.snd.fst.getD ([], (0 : Int), (0 : Int), [], (0 : Int))), none, r1.fst.snd.snd.snd)) else bif decide (r1.fst.fst = (1 : Int)) then
 some (Sum.inr (((1 : Int), some (r1.fst.snd.fst.getD ([], (0 : Int), (0 : Int), [], (0 : Int))), none, (0 : Int)), PUnit.unit)) else bif decide (r1.fst.fst = (2 : Int)) then
 some (Sum.inr (((0 : Int), some (r1.fst.snd.fst.getD ([], (0 : Int), (0 : Int), [], (0 : Int))), none, r1.fst.snd.snd.snd), PUnit.unit)) else none else bif r1.fst.snd.snd.fst.isSome then
 bif decide (r1.fst.fst = (0 : Int)) then
 some (Sum.inl (none, some (r1.fst.snd.snd.fst.getD ([], (0 : Int), (0 : Int), [], (0 : Int))), r1.fst.snd.snd.snd)) else bif decide (r1.fst.fst = (1 : Int)) then
 some (Sum.inr (((1 : Int), none, none, (0 : Int)), PUnit.unit)) else bif decide (r1.fst.fst = (2 : Int)) then
 some (Sum.inr (((0 : Int), none, some (r1.fst.snd.snd.fst.getD ([], (0 : Int), (0 : Int), [], (0 : Int))), r1.fst.snd.snd.snd), PUnit.unit)) else none else bif decide (r1.fst.fst = (0 : Int)) then
 some (Sum.inl (none, none, r1.fst.snd.snd.snd)) else bif decide (r1.fst.fst = (1 : Int)) then
 some (Sum.inr (((1 : Int), none, none, (0 : Int)), PUnit.unit)) else bif decide (r1.fst.fst = (2 : Int)) then
 some (Sum.inr (((0 : Int), none, none, r1.fst.snd.snd.snd), PUnit.unit)) else none else none else bif decide (r0.fst.fst = (1 : Int)) then
 some (Sum.inr (((1 : Int), none, none, (0 : Int)), PUnit.unit)) else none else bif decide (r0.fst.fst = (0 : Int)) then
 bif decide ((0 : Nat) + b.length ≤ b.length) && true then
 (l9 (List.take b.length b) (none, none, at0)).bind fun r1 => bif r1.fst.snd.fst.isSome then
 bif r1.fst.snd.snd.fst.isSome then
 bif decide (r1.fst.fst = (0 : Int)) then
 some (Sum.inl (some (r1.fst.snd.fst.getD ([], (0 : Int), (0 : Int), [], (0 : Int))), some (r1.fst.snd.snd.fst.getD ([], (0 : Int), (0 : Int), [], (0 : Int))), r1.fst.snd.snd.snd)) else bif decide (r1.fst.fst = (1 : Int)) then
 some (Sum.inr (((1 : Int), some (r1.fst.snd.fst.getD ([], (0 : Int), (0 : Int), [], (0 : Int))), none, (0 : Int)), PUnit.unit)) else bif decide (r1.fst.fst = (2 : Int)) then
 some (Sum.inr (((0 : Int), some (r1.fst.snd.fst.getD ([], (0 : Int), (0 : Int), [], (0 : Int))), some (r1.fst.snd.snd.fst.getD ([], (0 : Int), (0 : Int), [], (0 : Int))), r1.fst.snd.snd.snd), PUnit.unit)) else none else bif decide (r1.fst.fst = (0 : Int)) then
 some (Sum.inl (some (r1.fst.snd.fst.getD ([], (0 : Int), (0 : Int), [], (0 : Int))), none, r1.fst.snd.snd.snd)) else bif decide (r1.fst.fst = (1 : Int)) then
 some (Sum.inr (((1 : Int), some (r1.fst.snd.fst.getD ([], (0 : Int), (0 : Int), [], (0 : Int))), none, (0 : Int)), PUnit.unit)) else bif decide (r1.fst.fst = (2 : Int)) then
 some (Sum.inr (((0 : Int), some (r1.fst.snd.fst.getD ([], (0 : Int), (0 : Int), [], (0 : Int))), none, r1.fst.snd.snd.snd), PUnit.unit)) else none else bif r1.fst.snd.snd.fst.isSome then
 bif decide (r1.fst.fst = (0 : Int)) then
 some (Sum.inl (none, some (r1.fst.snd.snd.fst.getD ([], (0 : Int), (0 : Int), [], (0 : Int))), r1.fst.snd.snd.snd)) else bif decide (r1.fst.fst = (1 : Int)) then
 some (Sum.inr (((1 : Int), none, none, (0 : Int)), PUnit.unit)) else bif decide (r1.fst.fst = (2 : Int)) then
 some (Sum.inr (((0 : Int), none, some (r1.fst.snd.snd.fst.getD ([], (0 : Int), (0 : Int), [], (0 : Int))), r1.fst.snd.snd.snd), PUnit.unit)) else none else bif decide (r1.fst.fst = (0 : Int)) then
 some (Sum.inl (none, none, r1.fst.snd.snd.snd)) else bif decide (r1.fst.fst = (1 : Int)) then
 some (Sum.inr (((1 : Int), none, none, (0 : Int)), PUnit.unit)) else bif decide (r1.fst.fst = (2 : Int)) then
 some (Sum.inr (((0 : Int), none, none, r1.fst.snd.snd.snd), PUnit.unit)) else none else none else bif decide (r0.fst.fst = (1 : Int)) then
 some (Sum.inr (((1 : Int), none, none, (0 : Int)), PUnit.unit)) else none else none else some (Sum.inr (((0 : Int), none, none, at0), PUnit.unit))
theorem r10e (x38 : F38.FT) (l1 : G1) (l9 : G9) (kd : List (Int)) (d : (Option ((List (Int × List (Int))) × Int × Int × List (Int) × Int)) × (Option ((List (Int × List (Int))) × Int × Int × List (Int) × Int)) × Int) : roundF (tabC Tryd.prog (tab x38) (pls x38) 100 12) 100 (.node .none (.node (.node (.node .none (.node (.unit (u1 l1)) .none)) (.unit (u9 l9))) .none)) (u10 fun _ _ => none) (codeAt [1, 1, 1, 0, 0, 0] (bodyOf Tryd.prog 19)) kd d = r10P x38 l1 l9 kd d := by kernel_rfl
noncomputable def r10 : List (Int) → ((Option ((List (Int × List (Int))) × Int × Int × List (Int) × Int)) × (Option ((List (Int × List (Int))) × Int × Int × List (Int) × Int)) × Int) → Option (((Option ((List (Int × List (Int))) × Int × Int × List (Int) × Int)) × (Option ((List (Int × List (Int))) × Int × Int × List (Int) × Int)) × Int) ⊕ ((Int × (Option ((List (Int × List (Int))) × Int × Int × List (Int) × Int)) × (Option ((List (Int × List (Int))) × Int × Int × List (Int) × Int)) × Int) × Unit)) := r10P F38.f l1 l9
noncomputable def l10 : G10 := fun kd d => iterO (r10 kd) d
theorem ok10 : UnOk Tryd.prog (u10 l10) (codeAt [1, 1, 1, 0, 0] (bodyOf Tryd.prog 19)) :=
  loopT (p := (.node .none (.node (.node (.node .none (.node (.unit (u1 l1)) .none)) (.unit (u9 l9))) .none))) (c := codeAt [1, 1, 1, 0, 0, 0] (bodyOf Tryd.prog 19)) (fuel := 100) (depth := 12) mixed tabS plsP (by kernel_rfl) (planOk_of (.node .none (.node (.node (.node .none (.node (.unit (u1 l1)) .none)) (.unit (u9 l9))) .none)) _ [([1, 0, 0, 1, 0], u1 l1), ([1, 0, 1], u9 l9)] rfl ⟨ok1, ok9, trivial⟩) (by kernel_rfl) (fun kd d => r10e F38.f l1 l9 kd d) rfl
def fP (x38 : F38.FT) (l10 : G10) : FT := fun b => bif decide ((0 : Nat) + b.length ≤ b.length) && true then
 (l10 (List.take b.length b) (some ([], (0 : Int), (0 : Int), [], (0 : Int)), some ([], (0 : Int), (0 : Int), [], (0 : Int)), (0 : Int))).bind fun r0 => bif r0.fst.snd.fst.isSome then
 bif r0.fst.snd.snd.fst.isSome then
 bif decide (r0.fst.fst = (0 : Int)) then
 bif decide ((0 : Nat) + (r0.fst.snd.snd.fst.getD ([], (0 : Int), (0 : Int), [], (0 : Int))).fst.length ≤ (r0.fst.snd.snd.fst.getD ([], (0 : Int), (0 : Int), [], (0 : Int))).fst.length) && true then
 bif decide ((0 : Nat) + (r0.fst.snd.snd.fst.getD ([], (0 : Int), (0 : Int), [], (0 : Int))).snd.snd.snd.fst.length ≤ (r0.fst.snd.snd.fst.getD ([], (0 : Int), (0 : Int), [], (0 : Int))).snd.snd.snd.fst.length) && true then
 some ((List.take (r0.fst.snd.snd.fst.getD ([], (0 : Int), (0 : Int), [], (0 : Int))).fst.length (List.drop (0 : Nat) (r0.fst.snd.snd.fst.getD ([], (0 : Int), (0 : Int), [], (0 : Int))).fst), (r0.fst.snd.snd.fst.getD ([], (0 : Int), (0 : Int), [], (0 : Int))).snd.fst, (r0.fst.snd.snd.fst.getD ([], (0 : Int), (0 : Int), [], (0 : Int))).snd.snd.fst, List.take (r0.fst.snd.snd.fst.getD ([], (0 : Int), (0 : Int), [], (0 : Int))).snd.snd.snd.fst.length (List.drop (0 : Nat) (r0.fst.snd.snd.fst.getD ([], (0 : Int), (0 : Int), [], (0 : Int))).snd.snd.snd.fst), IntKind.i64.wrap ((↑b.length : Int) - r0.fst.snd.snd.snd)), PUnit.unit) else none else none else bif decide (r0.fst.fst = (1 : Int)) then
 bif decide ((0 : Nat) + (r0.fst.snd.fst.getD ([], (0 : Int), (0 : Int), [], (0 : Int))).fst.length ≤ (r0.fst.snd.fst.getD ([], (0 : Int), (0 : Int), [], (0 : Int))).fst.length) && true then
 bif decide ((0 : Nat) + (r0.fst.snd.fst.getD ([], (0 : Int), (0 : Int), [], (0 : Int))).snd.snd.snd.fst.length ≤ (r0.fst.snd.fst.getD ([], (0 : Int), (0 : Int), [], (0 : Int))).snd.snd.snd.fst.length) && true then
 some ((List.take (r0.fst.snd.fst.getD ([], (0 : Int), (0 : Int), [], (0 : Int))).fst.length (List.drop (0 : Nat) (r0.fst.snd.fst.getD ([], (0 : Int), (0 : Int), [], (0 : Int))).fst), (r0.fst.snd.fst.getD ([], (0 : Int), (0 : Int), [], (0 : Int))).snd.fst, (r0.fst.snd.fst.getD ([], (0 : Int), (0 : Int), [], (0 : Int))).snd.snd.fst, List.take (r0.fst.snd.fst.getD ([], (0 : Int), (0 : Int), [], (0 : Int))).snd.snd.snd.fst.length (List.drop (0 : Nat) (r0.fst.snd.fst.getD ([], (0 : Int), (0 : Int), [], (0 : Int))).snd.snd.snd.fst), (r0.fst.snd.fst.getD ([], (0 : Int), (0 : Int), [], (0 : Int))).snd.snd.snd.snd), PUnit.unit) else none else none else none else bif decide (r0.fst.fst = (0 : Int)) then
 none else bif decide (r0.fst.fst = (1 : Int)) then
 bif decide ((0 : Nat) + (r0.fst.snd.fst.getD ([], (0 : Int), (0 : Int), [], (0 : Int))).fst.length ≤ (r0.fst.snd.fst.getD ([], (0 : Int), (0 : Int), [], (0 : Int))).fst.length) && true then
 bif decide ((0 : Nat) + (r0.fst.snd.fst.getD ([], (0 : Int), (0 : Int), [], (0 : Int))).snd.snd.snd.fst.length ≤ (r0.fst.snd.fst.getD ([], (0 : Int), (0 : Int), [], (0 : Int))).snd.snd.snd.fst.length) && true then
 some ((List.take (r0.fst.snd.fst.getD ([], (0 : Int), (0 : Int), [], (0 : Int))).fst.length (List.drop (0 : Nat) (r0.fst.snd.fst.getD ([], (0 : Int), (0 : Int), [], (0 : Int))).fst), (r0.fst.snd.fst.getD ([], (0 : Int), (0 : Int), [], (0 : Int))).snd.fst, (r0.fst.snd.fst.getD ([], (0 : Int), (0 : Int), [], (0 : Int))).snd.snd.fst, List.take (r0.fst.snd.fst.getD ([], (0 : Int), (0 : Int), [], (0 : Int))).snd.snd.snd.fst.length (List.drop (0 : Nat) (r0.fst.snd.fst.getD ([], (0 : Int), (0 : Int), [], (0 : Int))).snd.snd.snd.fst), (r0.fst.snd.fst.getD ([], (0 : Int), (0 : Int), [], (0 : Int))).snd.snd.snd.snd), PUnit.unit) else none else none else none else bif r0.fst.snd.snd.fst.isSome then
 bif decide (r0.fst.fst = (0 : Int)) then
 none else bif decide (r0.fst.fst = (1 : Int)) then
 none else none else bif decide (r0.fst.fst = (0 : Int)) then
 none else bif decide (r0.fst.fst = (1 : Int)) then
 none else none else none
theorem fe (x38 : F38.FT) (l10 : G10) (d : List (Int)) : bodyF (tabC Tryd.prog (tab x38) ((19, (.node .none (.node .none (.node .none (.node (.node (.unit (u10 l10)) .none) .none))))) :: pls x38) 100 12) 100 19 i o d = fP x38 l10 d := by kernel_rfl
noncomputable def f : FT := fP F38.f l10
def plan (l10 : G10) : Plan := (.node .none (.node .none (.node .none (.node (.node (.unit (u10 l10)) .none) .none))))
theorem planOk : PlanOk Tryd.prog (plan l10) (bodyOf Tryd.prog 19) := (planOk_of (plan l10) _ [([1, 1, 1, 0, 0], u10 l10)] rfl ⟨ok10, trivial⟩)
theorem meets : MeetsF Tryd.prog 19 ⟨i, o, f⟩ :=
  funcT (fuel := 100) (depth := 12) (pl := (19, plan l10) :: pls F38.f) mixed tabS ⟨planOk, plsP⟩ (fun d => fe F38.f l10 d)
theorem spec : SpecOk Tryd.prog (fun _ => none) 19 (specF ⟨i, o, f⟩) := specF_ok (by kernel_rfl) meets
end Go.Proofs.YtnmgbheaabdhlaaDoor.F19

/- Chapter 3: the document's reading of a whole stream is the intake's. -/
namespace Go.Proofs.YtnmgbheaabdhlaaDoor.PH
open Go Go.Proofs Go.Proofs.YtnmgbheaabdhlaaDoor.Sx Go.Proofs.YtnmgbheaabdhlaaDoor.PA Go.Proofs.YtnmgbheaabdhlaaDoor.PB Go.Proofs.YtnmgbheaabdhlaaDoor.PC Go.Proofs.YtnmgbheaabdhlaaDoor.PD Go.Proofs.YtnmgbheaabdhlaaDoor.PG Go.Proofs.YtnmgbheaabdhlaaDoor.PE
set_option linter.unusedSimpArgs false
set_option linter.unusedVariables false
abbrev Sm := List Msg × Int × Int × List Int × Int
theorem gd {b : List Int} {a i : Nat} (k : Int) (hk : k = ((a + i : Nat) : Int)) : b.getD (0 + k.toNat) 0 = (b.drop a).getD i 0 := by
  subst hk
  rw [show 0 + ((a + i : Nat) : Int).toNat = a + i by omega, List.getD_eq_getElem?_getD, List.getD_eq_getElem?_getD, List.getElem?_drop]
section
variable {b : List Int} {a : Nat} {z : Sm} {out : List Msg}
theorem marks (h : 19 ≤ (b.drop a).length) (hl : b.length ≤ 1000000) :
    F19.l1 (b, (a : Int)) (some z, some (out, 0, 0, [], 0), 0) = if ((b.drop a).take 16).any (· != 255) = true then some ((1, some (out, 1, 1, [], 0), none), ()) else some ((0, some z, some (out, 0, 0, [], 0)), ()) := by
  have hle : (b.drop a).length = b.length - a := List.length_drop
  obtain ⟨r, e, hr⟩ := iterO_inv (f := F19.r1 (b, (a : Int))) (fun y => y.1 = some z ∧ y.2.1 = some (out, 0, 0, [], 0) ∧ 0 ≤ y.2.2 ∧ y.2.2 ≤ 16 ∧ ((b.drop a).take y.2.2.toNat).any (· != 255) = false) (fun y => 17 - y.2.2.toNat)
    (fun r => r = (if ((b.drop a).take 16).any (· != 255) = true then ((1, some (out, 1, 1, [], 0), none), ()) else ((0, some z, some (out, 0, 0, [], 0)), ()))) (by
    rintro ⟨y1, y2, y3⟩ ⟨g1, g2, g3, g4, g5⟩
    simp only at g1 g2 g3 g4 g5
    subst g1 g2
    obtain ⟨i, rfl⟩ := Int.eq_ofNat_of_zero_le g3
    have ei : (i : Int).toNat = i := by omega
    rw [ei] at g5
    by_cases hi : i < 16
    · have w1 : IntKind.i64.wrap ((a : Int) + i) = ((a + i : Nat) : Int) := by rw [wrap64_id (by omega)]; omega
      have c1 : decide ((i : Int) < 16) = true := decide_eq_true (by omega)
      have c2 : decide ((0 : Int) ≤ ((a + i : Nat) : Int) ∧ ((a + i : Nat) : Int) < (b.length : Int) ∧ 0 < b.length) = true := decide_eq_true (by omega)
      have c3 : decide (0 + ((a + i : Nat) : Int).toNat < b.length) = true := decide_eq_true (by omega)
      have e1 := gd (b := b) (a := a) (i := i) ((a + i : Nat) : Int) rfl
      have hi' : i < (b.drop a).length := by omega
      have eg : (b.drop a).getD i 0 = (b.drop a)[i] := by rw [List.getD_eq_getElem?_getD, List.getElem?_eq_getElem hi']; rfl
      by_cases hx : (b.drop a)[i] = 255
      · left
        have c4 : ((b.drop a).getD i 0 != 255) = false := by rw [eg, hx]; rfl
        refine ⟨(some z, some (out, 0, 0, [], 0), ((i + 1 : Nat) : Int)), ?_, ⟨rfl, rfl, by show (0 : Int) ≤ ((i + 1 : Nat) : Int); omega, by show ((i + 1 : Nat) : Int) ≤ 16; omega, ?_⟩, by simp only [Int.toNat_natCast]; omega⟩
        · unfold F19.r1 F19.r1P
          simp only [Option.isSome_some, Option.getD_some, c1, w1, c2, c3, e1, c4, cond_true, cond_false]
          rw [wrap64_id (by omega)]
          rfl
        · show ((b.drop a).take ((i + 1 : Nat) : Int).toNat).any (· != 255) = false
          rw [show ((i + 1 : Nat) : Int).toNat = i + 1 by omega, List.take_add_one, List.any_append, g5, List.getElem?_eq_getElem hi', hx]
          rfl
      · right
        have c4 : ((b.drop a).getD i 0 != 255) = true := by rw [eg]; simpa using hx
        have hany : ((b.drop a).take 16).any (· != 255) = true := by
          rw [List.any_eq_true]
          refine ⟨(b.drop a)[i], ?_, by simpa using hx⟩
          rw [List.mem_iff_getElem?]
          exact ⟨i, by rw [List.getElem?_take, if_pos hi, List.getElem?_eq_getElem hi']⟩
        refine ⟨((1, some (out, 1, 1, [], 0), none), ()), ?_, by rw [if_pos hany]⟩
        unfold F19.r1 F19.r1P
        simp only [Option.isSome_some, Option.getD_some, c1, w1, c2, c3, e1, c4, cond_true, cond_false, le_all, Bool.and_true, take_all]
    · right
      have : i = 16 := by omega
      subst this
      refine ⟨((0, some z, some (out, 0, 0, [], 0)), ()), ?_, by rw [g5]; rfl⟩
      unfold F19.r1 F19.r1P
      simp only [Option.isSome_some, Option.getD_some, show decide (((16 : Nat) : Int) < 16) = false from rfl, cond_true, cond_false]) (some z, some (out, 0, 0, [], 0), 0) ⟨rfl, rfl, by simp, by simp, by simp⟩
  have e : F19.l1 (b, (a : Int)) (some z, some (out, 0, 0, [], 0), 0) = some r := e
  rw [e, hr]
  split <;> rfl
/-- What a round of the reading gives. -/
def rdR (b : List Int) (a : Nat) (z : Sm) (out : List Msg) : (Int × Option Sm × Option Sm × Int) × Unit :=
  match hd (b.drop a) with
  | .wait => ((2, some z, some (out, 0, 0, [], 0), (a : Int)), ())
  | .fault s d => ((1, some (out, 1, s, d, 0), none, 0), ())
  | .msg n t => ((0, some z, some (out ++ [(t, body (b.drop a) n)], 0, 0, [], 0), ((a + n : Nat) : Int)), ())
theorem tail (hB : Bytes b) (h : 19 ≤ (b.drop a).length) (hl : b.length ≤ 1000000) (hm : ((b.drop a).take 16).any (· != 255) = false) (ho : out.length ≤ 1000000) :
    F19.l9 b (some z, some (out, 0, 0, [], 0), (a : Int)) = some (rdR b a z out) := by
  have hle : (b.drop a).length = b.length - a := List.length_drop
  have h16 := (hB.drop a).getD 16
  have h17 := (hB.drop a).getD 17
  have w16 : IntKind.i64.wrap ((a : Int) + 16) = ((a + 16 : Nat) : Int) := by rw [wrap64_id (by omega)]; omega
  have w17 : IntKind.i64.wrap ((a : Int) + 17) = ((a + 17 : Nat) : Int) := by rw [wrap64_id (by omega)]; omega
  have w18 : IntKind.i64.wrap ((a : Int) + 18) = ((a + 18 : Nat) : Int) := by rw [wrap64_id (by omega)]; omega
  have w19 : IntKind.i64.wrap ((a : Int) + 19) = ((a + 19 : Nat) : Int) := by rw [wrap64_id (by omega)]; omega
  have d16 : decide ((0 : Int) ≤ ((a + 16 : Nat) : Int) ∧ ((a + 16 : Nat) : Int) < (b.length : Int) ∧ 0 < b.length) = true := decide_eq_true (by omega)
  have d17 : decide ((0 : Int) ≤ ((a + 17 : Nat) : Int) ∧ ((a + 17 : Nat) : Int) < (b.length : Int) ∧ 0 < b.length) = true := decide_eq_true (by omega)
  have d18 : decide ((0 : Int) ≤ ((a + 18 : Nat) : Int) ∧ ((a + 18 : Nat) : Int) < (b.length : Int) ∧ 0 < b.length) = true := decide_eq_true (by omega)
  have f16 : decide (0 + ((a + 16 : Nat) : Int).toNat < b.length) = true := decide_eq_true (by omega)
  have f17 : decide (0 + ((a + 17 : Nat) : Int).toNat < b.length) = true := decide_eq_true (by omega)
  have f18 : decide (0 + ((a + 18 : Nat) : Int).toNat < b.length) = true := decide_eq_true (by omega)
  have e16 := gd (b := b) (a := a) (i := 16) ((a + 16 : Nat) : Int) rfl
  have e17 := gd (b := b) (a := a) (i := 17) ((a + 17 : Nat) : Int) rfl
  have e18 := gd (b := b) (a := a) (i := 18) ((a + 18 : Nat) : Int) rfl
  generalize hb' : b.drop a = b' at *
  have n2 : F19.l2 (b, (a : Int)) () = some (len b', ()) := by
    unfold F19.l2 F19.r2 F19.r2P
    simp only [w16, w17, d16, d17, f16, f17, e16, e17, cond_true]
    rw [wrap64_id (n := b'.getD 16 0) (by omega), wrap64_id (n := b'.getD 17 0) (by omega), wrap64_id (n := 256 * b'.getD 16 0) (by omega), wrap64_id (by omega)]
    rfl
  have n3 : F19.l3 (b, (a : Int)) () = some (b'.getD 18 0, ()) := by
    unfold F19.l3 F19.r3 F19.r3P
    simp only [w18, d18, f18, e18, cond_true]
  have hlen : 0 ≤ len b' ∧ len b' ≤ 65535 := by unfold len; omega
  have ed : rdR b a z out = (match hd b' with
      | .wait => ((2, some z, some (out, 0, 0, [], 0), (a : Int)), ())
      | .fault s d => ((1, some (out, 1, s, d, 0), none, 0), ())
      | .msg n t => ((0, some z, some (out ++ [(t, body b' n)], 0, 0, [], 0), ((a + n : Nat) : Int)), ())) := by unfold rdR; rw [hb']
  rw [ed]
  unfold hd
  rw [if_neg (show ¬ b'.length < 19 by omega), hm]
  simp only [Bool.false_eq_true, if_false]
  unfold F19.l9 F19.r9 F19.r9P
  simp only [Option.isSome_some, Option.getD_some, cond_true, cond_false, le_all, Bool.and_true, List.take_length, n2, n3, Option.bind_some]
  have n4 : F19.l4 (len b') () = some (decide (len b' < 19 ∨ 4096 < len b'), ()) := by
    unfold F19.l4 F19.r4 F19.r4P
    by_cases h1 : len b' < 19
    · rw [decide_eq_true h1, decide_eq_true (Or.inl h1)]; rfl
    · rw [decide_eq_false h1]
      simp only [cond_false]
      by_cases h2 : 4096 < len b'
      · rw [decide_eq_true (show len b' > 4096 from h2), decide_eq_true (Or.inr h2)]
      · rw [decide_eq_false (show ¬ len b' > 4096 from h2), decide_eq_false (show ¬ (len b' < 19 ∨ 4096 < len b') by omega)]
  simp only [n4, Option.bind_some]
  by_cases hs : len b' < 19 ∨ 4096 < len b'
  · rw [if_pos hs, decide_eq_true hs]
    have n5 : F19.l5 (b'.getD 18 0, true) () = some (false, ()) := rfl
    have n6 : F19.l6 (len b', b'.getD 18 0, true) () = some (true, ()) := rfl
    simp only [n5, n6, Option.bind_some, cond_false, cond_true, w16, w17, d16, d17, f16, f17, e16, e17, le_all, Bool.and_true, take_all]
  rw [if_neg hs, decide_eq_false hs]
  have n5 : F19.l5 (b'.getD 18 0, false) () = some (decide (b'.getD 18 0 < 1 ∨ 5 < b'.getD 18 0), ()) := by
    unfold F19.l5 F19.r5 F19.r5P
    simp only [Bool.not_false, cond_true]
    by_cases h1 : b'.getD 18 0 < 1
    · rw [decide_eq_true h1, decide_eq_true (Or.inl h1)]; rfl
    · rw [decide_eq_false h1]
      simp only [cond_false]
      by_cases h2 : 5 < b'.getD 18 0
      · rw [decide_eq_true (show b'.getD 18 0 > 5 from h2), decide_eq_true (Or.inr h2)]
      · rw [decide_eq_false (show ¬ b'.getD 18 0 > 5 from h2), decide_eq_false (show ¬ (b'.getD 18 0 < 1 ∨ 5 < b'.getD 18 0) by omega)]
  simp only [n5, Option.bind_some]
  by_cases ht : b'.getD 18 0 < 1 ∨ 5 < b'.getD 18 0
  · rw [if_pos ht, decide_eq_true ht]
    simp only [cond_true, le_all, Bool.and_true, take_all]
  rw [if_neg ht, decide_eq_false ht]
  have n6 : F19.l6 (len b', b'.getD 18 0, false) () = some (!fit (len b') (b'.getD 18 0), ()) := by
    unfold F19.l6 F19.r6 F19.r6P
    simp only [cond_false, wrongP (t := b'.getD 18 0) (n := len b') (by omega) (by omega), Option.bind_some]
  simp only [n6, Option.bind_some, cond_false]
  cases hf : fit (len b') (b'.getD 18 0) with
  | false =>
    simp only [Bool.not_false, cond_true, if_true, w16, w17, d16, d17, f16, f17, e16, e17, le_all, Bool.and_true, take_all]
  | true =>
  simp only [Bool.not_true, cond_false, Bool.true_eq_false, if_false]
  obtain ⟨n, hn⟩ := Int.eq_ofNat_of_zero_le hlen.1
  have wn : IntKind.i64.wrap ((a : Int) + (n : Int)) = ((a + n : Nat) : Int) := by rw [wrap64_id (by omega)]; omega
  have n7 : F19.l7 (b, (a : Int), (n : Int)) () = some (decide (b'.length < n), ()) := by
    unfold F19.l7 F19.r7 F19.r7P
    simp only [wn]
    by_cases h1 : b'.length < n
    · rw [decide_eq_true h1, decide_eq_true (by omega)]
    · rw [decide_eq_false h1, decide_eq_false (by omega)]
  have en : (len b').toNat = n := by omega
  rw [en, hn]
  simp only [n7, Option.bind_some]
  by_cases hw : b'.length < n
  · rw [if_pos hw, decide_eq_true hw]
    simp only [cond_true]
  rw [if_neg hw, decide_eq_false hw]
  have hn19 : 19 ≤ n := by omega
  have c1 : decide ((0 : Int) ≤ ((a + 19 : Nat) : Int) ∧ ((a + 19 : Nat) : Int) ≤ ((a + n : Nat) : Int) ∧ ((a + n : Nat) : Int) ≤ (b.length : Int) ∧ 0 + b.length ≤ b.length) = true := decide_eq_true (by omega)
  have e1 : (((a + n : Nat) : Int) - ((a + 19 : Nat) : Int)).toNat = n - 19 := by omega
  have e2 : 0 + ((a + 19 : Nat) : Int).toNat = a + 19 := by omega
  have c2 : decide (a + 19 + (n - 19) ≤ b.length) = true := decide_eq_true (by omega)
  have e3 : 2 / OfNat.ofNat 2 = 1 := rfl
  have c3 : decide (out.length + 1 ≤ 1073741824) = true := decide_eq_true (by omega)
  have ebody : (b.drop (a + 19)).take (n - 19) = body b' n := by unfold body; rw [← hb', List.drop_drop]
  have hbl : (body b' n).length = n - 19 := by unfold body; rw [List.length_take, List.length_drop]; omega
  have c4 : decide (0 + (n - 19) ≤ (body b' n).length) = true := decide_eq_true (by omega)
  have e4 : (body b' n).take (n - 19) = body b' n := List.take_of_length_le (by omega)
  have n8 : F19.l8 (n : Int) (a : Int) = some (((a + n : Nat) : Int), ()) := by
    unfold F19.l8 F19.r8 F19.r8P
    rw [wn]
  have c5 : decide (0 + (out.length + 1) ≤ (out ++ [(b'.getD 18 0, body b' n)]).length) = true := decide_eq_true (by simp)
  have e5 : (out ++ [(b'.getD 18 0, body b' n)]).take (out.length + 1) = out ++ [(b'.getD 18 0, body b' n)] := List.take_of_length_le (by simp)
  have l0 : ∀ (α : Type), decide (0 + ([] : List α).length ≤ ([] : List α).length) = true := fun _ => rfl
  have t0 : ∀ (α : Type), List.take ([] : List α).length ([] : List α) = [] := fun _ => rfl
  simp only [cond_false, cond_true, w19, wn, c1, e1, e2, c2, e3, c3, ebody, c4, e4, n8, c5, e5, l0, t0, le_all, Bool.and_true, take_all, List.take_length, List.drop_zero, Option.bind_some]
theorem short (h : (b.drop a).length < 19) (ha : a ≤ b.length) (hl : b.length ≤ 1000000) : F19.r10 b (some z, some (out, 0, 0, [], 0), (a : Int)) = some (.inr ((0, some z, some (out, 0, 0, [], 0), (a : Int)), ())) := by
  have hle : (b.drop a).length = b.length - a := List.length_drop
  have w19 : IntKind.i64.wrap ((a : Int) + 19) = ((a + 19 : Nat) : Int) := by rw [wrap64_id (by omega)]; omega
  have c1 : decide (((a + 19 : Nat) : Int) ≤ (b.length : Int)) = false := decide_eq_false (by omega)
  unfold F19.r10 F19.r10P
  simp only [Option.isSome_some, Option.getD_some, cond_true, cond_false, w19, c1]
/-- The loop's rounds. -/
def rdO (b : List Int) (a : Nat) (z : Sm) (out : List Msg) : (Option Sm × Option Sm × Int) ⊕ ((Int × Option Sm × Option Sm × Int) × Unit) :=
  match hd (b.drop a) with
  | .wait => .inr ((0, some z, some (out, 0, 0, [], 0), (a : Int)), ())
  | .fault s d => .inr ((1, some (out, 1, s, d, 0), none, 0), ())
  | .msg n t => .inl (some z, some (out ++ [(t, body (b.drop a) n)], 0, 0, [], 0), ((a + n : Nat) : Int))
theorem roundR (hB : Bytes b) (ha : a ≤ b.length) (hl : b.length ≤ 1000000) (ho : out.length ≤ 1000000) : F19.r10 b (some z, some (out, 0, 0, [], 0), (a : Int)) = some (rdO b a z out) := by
  have hle : (b.drop a).length = b.length - a := List.length_drop
  by_cases h : (b.drop a).length < 19
  · rw [short h ha hl]
    unfold rdO
    have : hd (b.drop a) = .wait := by unfold hd; rw [if_pos h]
    rw [this]
  have h19 : 19 ≤ (b.drop a).length := by omega
  have w19 : IntKind.i64.wrap ((a : Int) + 19) = ((a + 19 : Nat) : Int) := by rw [wrap64_id (by omega)]; omega
  have c1 : decide (((a + 19 : Nat) : Int) ≤ (b.length : Int)) = true := decide_eq_true (by omega)
  have mk := marks (b := b) (a := a) (z := z) (out := out) h19 hl
  unfold F19.r10 F19.r10P
  simp only [Option.isSome_some, Option.getD_some, cond_true, cond_false, w19, c1, le_all, Bool.and_true, List.take_length, mk]
  cases hm : ((b.drop a).take 16).any (· != 255) with
  | true =>
    have hdm : hd (b.drop a) = .fault 1 [] := by unfold hd; rw [if_neg h, hm]; rfl
    unfold rdO
    rw [hdm]
    simp only [if_true, Option.bind_some, Option.isSome_some, Option.isSome_none, Option.getD_some, cond_true, cond_false, show decide ((1 : Int) = 0) = false from rfl, show decide ((1 : Int) = 1) = true from rfl]
    rfl
  | false =>
    have tl := tail (z := z) (out := out) hB h19 hl hm ho
    simp only [Bool.false_eq_true, if_false, Option.bind_some, Option.isSome_some, Option.getD_some, cond_true, cond_false, show decide ((0 : Int) = 0) = true from rfl, tl]
    unfold rdR rdO
    cases hh : hd (b.drop a) with
    | wait =>
      simp only [Option.isSome_some, Option.isSome_none, Option.getD_some, cond_true, cond_false, show decide ((2 : Int) = 0) = false from rfl, show decide ((2 : Int) = 1) = false from rfl, show decide ((2 : Int) = 2) = true from rfl]
      rfl
    | fault s d =>
      simp only [Option.isSome_some, Option.isSome_none, Option.getD_some, cond_true, cond_false, show decide ((1 : Int) = 0) = false from rfl, show decide ((1 : Int) = 1) = true from rfl]
      rfl
    | msg n t =>
      simp only [Option.isSome_some, Option.isSome_none, Option.getD_some, cond_true, cond_false, show decide ((0 : Int) = 0) = true from rfl]
      rfl
theorem readN (hB : Bytes b) (hl : b.length ≤ 1000000) : ∀ (k : Nat) {a : Nat} {out : List Msg}, b.length - a ≤ k → a ≤ b.length → out.length ≤ a →
    ∃ n at' , iterN (F19.r10 b) n (some z, some (out, 0, 0, [], 0), (a : Int)) = some (if (parse (b.drop a)).2.2.1 = 0 then ((0, some z, some (out ++ (parse (b.drop a)).1, 0, 0, [], 0), ((b.length : Int) - ((parse (b.drop a)).2.1.length : Int))), ()) else ((1, some (out ++ (parse (b.drop a)).1, 1, (parse (b.drop a)).2.2.2.1, (parse (b.drop a)).2.2.2.2.1, 0), none, 0), ())) ∧ at' = (parse (b.drop a)).2.1.length := by
  intro k
  induction k with
  | zero =>
    intro a out hk ha ho
    have hle : (b.drop a).length = b.length - a := List.length_drop
    have hw : hd (b.drop a) = .wait := by unfold hd; rw [if_pos (by omega)]
    refine ⟨1, _, ?_, rfl⟩
    rw [iterN_step, roundR hB ha hl (by omega), rdO, hw, scR_inr, parse_wait hw, if_pos rfl, List.append_nil]
    show some ((0, some z, some (out, 0, 0, [], 0), (a : Int)), ()) = some ((0, some z, some (out, 0, 0, [], 0), (b.length : Int) - ((b.drop a).length : Int)), ())
    rw [show (b.length : Int) - ((b.drop a).length : Int) = a by omega]
  | succ k ih =>
    intro a out hk ha ho
    have hle : (b.drop a).length = b.length - a := List.length_drop
    cases hw : hd (b.drop a) with
    | wait =>
      refine ⟨1, _, ?_, rfl⟩
      rw [iterN_step, roundR hB ha hl (by omega), rdO, hw, scR_inr, parse_wait hw, if_pos rfl, List.append_nil]
      show some ((0, some z, some (out, 0, 0, [], 0), (a : Int)), ()) = some ((0, some z, some (out, 0, 0, [], 0), (b.length : Int) - ((b.drop a).length : Int)), ())
      rw [show (b.length : Int) - ((b.drop a).length : Int) = a by omega]
    | fault s d =>
      refine ⟨1, _, ?_, rfl⟩
      rw [iterN_step, roundR hB ha hl (by omega), rdO, hw, scR_inr, parse_fault hw, if_neg (show ¬ (1 : Int) = 0 by decide), List.append_nil]
    | msg n t =>
      have hm := hd_msg hw
      obtain ⟨m, at', h1, h2⟩ := ih (a := a + n) (out := out ++ [(t, body (b.drop a) n)]) (by omega) (by omega) (by simp; omega)
      refine ⟨m + 1, _, ?_, rfl⟩
      rw [iterN_step, roundR hB ha hl (by omega), rdO, hw, scR_inl, h1, parse_msg hw, List.drop_drop]
      simp only [List.append_assoc, List.singleton_append]
theorem readP (hB : Bytes b) (hl : b.length ≤ 1000000) : F19.f b = some (((parse b).1, (parse b).2.2.1, (parse b).2.2.2.1, (parse b).2.2.2.2.1, ((parse b).2.1.length : Int)), ()) := by
  obtain ⟨n, at', h1, _⟩ := readN (z := (([] : List Msg), (0 : Int), (0 : Int), ([] : List Int), (0 : Int))) hB hl b.length (a := 0) (out := []) (by omega) (by omega) (by simp)
  rw [List.drop_zero] at h1
  have h1 : F19.l10 b (some ([], 0, 0, [], 0), some ([], 0, 0, [], 0), 0) = _ := iterO_of ⟨n, h1⟩
  unfold F19.f F19.fP
  have l0 : ∀ (α : Type), decide (0 + ([] : List α).length ≤ ([] : List α).length) = true := fun _ => rfl
  have t0 : ∀ (α : Type), List.take ([] : List α).length (List.drop 0 ([] : List α)) = [] := fun _ => rfl
  rcases parse_st _ (Nat.le_refl b.length) with ⟨r, m, g1, _, g3⟩ | ⟨s, d, g1, _⟩
  · rw [g1, if_pos rfl, List.nil_append] at h1
    rw [g1]
    have hr : r.length ≤ b.length := by rw [g3, List.length_drop]; omega
    simp only [le_all, Bool.and_true, cond_true, List.take_length, h1, Option.bind_some, Option.isSome_some, Option.getD_some, show decide ((0 : Int) = 0) = true from rfl, l0, t0, take_all]
    rw [wrap64_id (by omega)]
    rw [show (b.length : Int) - ((b.length : Int) - (r.length : Int)) = r.length by omega]
    rfl
  · rw [g1, if_neg (show ¬ (1 : Int) = 0 by decide), List.nil_append] at h1
    rw [g1]
    simp only [le_all, Bool.and_true, cond_true, cond_false, List.take_length, h1, Option.bind_some, Option.isSome_some, Option.isSome_none, Option.getD_some, show decide ((1 : Int) = 0) = false from rfl, show decide ((1 : Int) = 1) = true from rfl, l0, t0, take_all]
    rfl
end
end Go.Proofs.YtnmgbheaabdhlaaDoor.PH

/- What comes of function 17 of this program, (*consulate.frame.Intake).Copy, as the engine gives it. -/
namespace Go.Proofs.YtnmgbheaabdhlaaDoor.F17
open Go Go.Proofs Go.Proofs.YtnmgbheaabdhlaaDoor Go.RowKit Go.Proofs.YtnmgbheaabdhlaaDoor.Sx
set_option linter.unusedVariables false
set_option maxRecDepth 100000
def tab (x36 : F36.FT) : List (FuncId × Sx.Spec) := [(36, specF ⟨F36.i, F36.o, x36⟩)]
def pls (x36 : F36.FT) : List (FuncId × Plan) := []
@[reducible] def i : Sh := .pt true 61 (.sl true 5 (.sc (.int .u8) .nil) (.sc (.int .u8) (.sc (.int .u8) (.sl true 5 (.sc (.int .u8) .nil) (.sc .bool .nil))))) .nil
@[reducible] def o : Sh := .po true 61 (.sl true 5 (.sc (.int .u8) .nil) (.sc (.int .u8) (.sc (.int .u8) (.sl true 5 (.sc (.int .u8) .nil) (.sc .bool .nil))))) .nil
abbrev FT := ((List (Int) × Int × Int × List (Int) × Bool)) → Option (((Option (List (Int) × Int × Int × List (Int) × Bool))) × ((List (Int) × Int × Int × List (Int) × Bool)))
theorem tabS : AllS Tryd.prog (tab F36.f) := ⟨F36.spec, trivial⟩
theorem plsP : AllP Tryd.prog (pls F36.f) := trivial
theorem mixed : Tryd.prog.follows .mixedOrders = true := by kernel_rfl
def fP (x36 : F36.FT) : FT := fun (i0_2, i1_2, i2_2, i3_2, i4_2) =>
    bif !i4_2 then some (none, i0_2, i1_2, i2_2, i3_2, i4_2)
    else
      bif decide (0 + i0_2.length ≤ i0_2.length) && true then
       (x36 (List.take i0_2.length i0_2)).bind fun r0 =>
       bif decide (0 + i3_2.length ≤ i3_2.length) && true then
       (x36 (List.take i3_2.length i3_2)).bind fun r1 =>
       bif decide (0 + List.length r0.fst ≤ List.length r0.fst) && true then
       bif decide (0 + List.length r1.fst ≤ List.length r1.fst) && true then
       bif decide (0 + i0_2.length ≤ i0_2.length) && true then
       bif decide (0 + i3_2.length ≤ i3_2.length) && true then
       some
       (some
       (List.take (List.length r0.fst) (List.drop 0 r0.fst), i1_2, i2_2,
       List.take (List.length r1.fst) (List.drop 0 r1.fst), i4_2),
       List.take i0_2.length i0_2, i1_2, i2_2, List.take i3_2.length i3_2, i4_2)
       else none
       else none
       else none
       else none
       else none
      else none
theorem fe (x36 : F36.FT) (d : (List (Int) × Int × Int × List (Int) × Bool)) : bodyF (tabC Tryd.prog (tab x36) ((17, .none) :: pls x36) 100 12) 100 17 i o d = fP x36 d := by kernel_rfl
noncomputable def f : FT := fP F36.f
def plan : Plan := .none
theorem planOk : PlanOk Tryd.prog (plan) (bodyOf Tryd.prog 17) := (planOk_of (plan) _ [] (by kernel_rfl) trivial)
theorem meets : MeetsF Tryd.prog 17 ⟨i, o, f⟩ :=
  funcT (fuel := 100) (depth := 12) (pl := (17, plan) :: pls F36.f) mixed tabS ⟨planOk, plsP⟩ (fun d => fe F36.f d)
theorem spec : SpecOk Tryd.prog (fun _ => none) 17 (specF ⟨i, o, f⟩) := specF_ok (by kernel_rfl) meets
end Go.Proofs.YtnmgbheaabdhlaaDoor.F17
