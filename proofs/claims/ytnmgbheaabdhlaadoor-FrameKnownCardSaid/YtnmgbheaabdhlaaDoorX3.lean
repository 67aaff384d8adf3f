/- What comes of function 21 of this program, (consulate.frame.Message).Bytes, as the engine gives it. -/
import Derived.Test.YtnmgbheaabdhlaaDoorChecked
import Derived.Test.YtnmgbheaabdhlaaDoorZO
import Derived.Test.YtnmgbheaabdhlaaDoorX2
import Derived.Test.YtnmgbheaabdhlaaDoorX1
namespace Go.Proofs.YtnmgbheaabdhlaaDoor.F21
open Go Go.Proofs Go.Proofs.YtnmgbheaabdhlaaDoor Go.RowKit Go.Proofs.YtnmgbheaabdhlaaDoor.Sx
set_option linter.unusedVariables false
set_option maxRecDepth 100000
def tab (x39 : F39.FT) (x43 : F43.FT) (l42_1 : F42.G1) : List (FuncId × Sx.Spec) := [(39, specF ⟨F39.i, F39.o, x39⟩), (43, specF ⟨F43.i, F43.o, x43⟩)]
def pls (x39 : F39.FT) (x43 : F43.FT) (l42_1 : F42.G1) : List (FuncId × Plan) := [(42, F42.plan l42_1)]
@[reducible] def k1 : Sh := .pt true 52 (.sc (.int .u8) (.sl true 5 (.sc (.int .u8) .nil) .nil)) (.sc (.int .i64) .nil)
@[reducible] def i1 : Sh := .nil
@[reducible] def o1 : Sh := .sc .bool .nil
abbrev G1 := ((Int × List (Int)) × Int) → Unit → Option (Bool × Unit)
def u1 (F : G1) : Un := ⟨63, [1, 4], k1, [], i1, [10], o1, [1, 4], [(.normal, [true])], F⟩
@[reducible] def k2 : Sh := .nil
@[reducible] def i2 : Sh := .nil
@[reducible] def o2 : Sh := .sl true 5 (.sc (.int .u8) .nil) .nil
abbrev G2 := Unit → Unit → Option (List (Int) × Unit)
def u2 (F : G2) : Un := ⟨63, [], k2, [], i2, [5], o2, [1, 4], [(.normal, [true])], F⟩
@[reducible] def k3 : Sh := .pt true 52 (.sc (.int .u8) (.sl true 5 (.sc (.int .u8) .nil) .nil)) (.sc (.int .i64) .nil)
@[reducible] def i3 : Sh := .sl true 5 (.sc (.int .u8) .nil) .nil
@[reducible] def o3 : Sh := .sl true 5 (.sc (.int .u8) .nil) (.sc (.int .i64) .nil)
abbrev G3 := ((Int × List (Int)) × Int) → List (Int) → Option ((List (Int) × Int) × Unit)
def u3 (F : G3) : Un := ⟨63, [1, 4], k3, [5], i3, [2, 3], o3, [], [(.normal, [true, true])], F⟩
@[reducible] def i : Sh := .ag none (.sc (.int .u8) (.sl false 5 (.sc (.int .u8) .nil) .nil)) .nil
@[reducible] def o : Sh := .sl true 5 (.sc (.int .u8) .nil) (.sc (.int .i64) .nil)
abbrev FT := ((Int × List (Int))) → Option ((List (Int) × Int) × Unit)
theorem tabS : AllS Tryd.prog (tab F39.f F43.f F42.l1) := ⟨F39.spec, F43.spec, trivial⟩
theorem plsP : AllP Tryd.prog (pls F39.f F43.f F42.l1) := ⟨F42.planOk, trivial⟩
theorem mixed : Tryd.prog.follows .mixedOrders = true := by kernel_rfl
def r1P (x39 : F39.FT) (x43 : F43.FT) (l42_1 : F42.G1) : G1 := fun ((m0, m1), n) () =>
    bif decide (m0 ≥ (1 : Int)) then
      bif !decide (m0 ≤ (5 : Int)) then some (true, PUnit.unit)
      else
       bif decide ((0 : Int) ≤ m0 ∧ m0 < (6 : Int)) then
       bif m0.toNat.beq (0 : Nat) then
       bif decide (n < (0 : Int)) then some (true, PUnit.unit)
       else
       bif decide ((0 : Int) ≤ m0 ∧ m0 < (6 : Int)) then
       bif m0.toNat.beq (0 : Nat) then
       bif decide (n > (0 : Int)) then
       bif decide ((0 : Int) ≤ m0 ∧ m0 < (6 : Int)) then
       bif m0.toNat.beq (0 : Nat) then some (true, PUnit.unit)
       else
       bif m0.toNat.beq (1 : Nat) then some (false, PUnit.unit)
       else
       bif m0.toNat.beq (2 : Nat) then some (false, PUnit.unit)
       else
       bif m0.toNat.beq (3 : Nat) then some (false, PUnit.unit)
       else
       bif m0.toNat.beq (4 : Nat) then some (true, PUnit.unit)
       else bif m0.toNat.beq (5 : Nat) then some (true, PUnit.unit) else none
       else none
       else some (false, PUnit.unit)
       else
       bif m0.toNat.beq (1 : Nat) then
       bif decide (n > (4096 : Int)) then
       bif decide ((0 : Int) ≤ m0 ∧ m0 < (6 : Int)) then
       bif m0.toNat.beq (0 : Nat) then some (true, PUnit.unit)
       else
       bif m0.toNat.beq (1 : Nat) then some (false, PUnit.unit)
       else
       bif m0.toNat.beq (2 : Nat) then some (false, PUnit.unit)
       else
       bif m0.toNat.beq (3 : Nat) then some (false, PUnit.unit)
       else
       bif m0.toNat.beq (4 : Nat) then some (true, PUnit.unit)
       else bif m0.toNat.beq (5 : Nat) then some (true, PUnit.unit) else none
       else none
       else some (false, PUnit.unit)
       else
       bif m0.toNat.beq (2 : Nat) then
       bif decide (n > (4096 : Int)) then
       bif decide ((0 : Int) ≤ m0 ∧ m0 < (6 : Int)) then
       bif m0.toNat.beq (0 : Nat) then some (true, PUnit.unit)
       else
       bif m0.toNat.beq (1 : Nat) then some (false, PUnit.unit)
       else
       bif m0.toNat.beq (2 : Nat) then some (false, PUnit.unit)
       else
       bif m0.toNat.beq (3 : Nat) then some (false, PUnit.unit)
       else
       bif m0.toNat.beq (4 : Nat) then some (true, PUnit.unit)
       else bif m0.toNat.beq (5 : Nat) then some (true, PUnit.unit) else none
       else none
       else some (false, PUnit.unit)
       else
       bif m0.toNat.beq (3 : Nat) then
       bif decide (n > (4096 : Int)) then
       bif decide ((0 : Int) ≤ m0 ∧ m0 < (6 : Int)) then
       bif m0.toNat.beq (0 : Nat) then some (true, PUnit.unit)
       else
       bif m0.toNat.beq (1 : Nat) then some (false, PUnit.unit)
       else
       bif m0.toNat.beq (2 : Nat) then some (false, PUnit.unit)
       else
       bif m0.toNat.beq (3 : Nat) then some (false, PUnit.unit)
       else
       bif m0.toNat.beq (4 : Nat) then some (true, PUnit.unit)
       else bif m0.toNat.beq (5 : Nat) then some (true, PUnit.unit) else none
       else none
       else some (false, PUnit.unit)
       else
       bif m0.toNat.beq (4 : Nat) then
       bif decide (n > (19 : Int)) then
       bif decide ((0 : Int) ≤ m0 ∧ m0 < (6 : Int)) then
       bif m0.toNat.beq (0 : Nat) then some (true, PUnit.unit)
       else
       bif m0.toNat.beq (1 : Nat) then some (false, PUnit.unit)
       else
       bif m0.toNat.beq (2 : Nat) then some (false, PUnit.unit)
       else
       bif m0.toNat.beq (3 : Nat) then some (false, PUnit.unit)
       else
       bif m0.toNat.beq (4 : Nat) then some (true, PUnit.unit)
       else bif m0.toNat.beq (5 : Nat) then some (true, PUnit.unit) else none
       else none
       else some (false, PUnit.unit)
       else
       bif m0.toNat.beq (5 : Nat) then
       bif decide (n > (23 : Int)) then
       bif decide ((0 : Int) ≤ m0 ∧ m0 < (6 : Int)) then
       bif m0.toNat.beq (0 : Nat) then some (true, PUnit.unit)
       else
       bif m0.toNat.beq (1 : Nat) then some (false, PUnit.unit)
       else
       bif m0.toNat.beq (2 : Nat) then some (false, PUnit.unit)
       else
       bif m0.toNat.beq (3 : Nat) then some (false, PUnit.unit)
       else
       bif m0.toNat.beq (4 : Nat) then some (true, PUnit.unit)
       else bif m0.toNat.beq (5 : Nat) then some (true, PUnit.unit) else none
       else none
       else some (false, PUnit.unit)
       else none
       else none
       else
       bif m0.toNat.beq (1 : Nat) then
       bif decide (n < (29 : Int)) then some (true, PUnit.unit)
       else
       bif decide ((0 : Int) ≤ m0 ∧ m0 < (6 : Int)) then
       bif m0.toNat.beq (0 : Nat) then
       bif decide (n > (0 : Int)) then
       bif decide ((0 : Int) ≤ m0 ∧ m0 < (6 : Int)) then
       bif m0.toNat.beq (0 : Nat) then some (true, PUnit.unit)
       else
       bif m0.toNat.beq (1 : Nat) then some (false, PUnit.unit)
       else
       bif m0.toNat.beq (2 : Nat) then some (false, PUnit.unit)
       else
       bif m0.toNat.beq (3 : Nat) then some (false, PUnit.unit)
       else
       bif m0.toNat.beq (4 : Nat) then some (true, PUnit.unit)
       else bif m0.toNat.beq (5 : Nat) then some (true, PUnit.unit) else none
       else none
       else some (false, PUnit.unit)
       else
       bif m0.toNat.beq (1 : Nat) then
       bif decide (n > (4096 : Int)) then
       bif decide ((0 : Int) ≤ m0 ∧ m0 < (6 : Int)) then
       bif m0.toNat.beq (0 : Nat) then some (true, PUnit.unit)
       else
       bif m0.toNat.beq (1 : Nat) then some (false, PUnit.unit)
       else
       bif m0.toNat.beq (2 : Nat) then some (false, PUnit.unit)
       else
       bif m0.toNat.beq (3 : Nat) then some (false, PUnit.unit)
       else
       bif m0.toNat.beq (4 : Nat) then some (true, PUnit.unit)
       else bif m0.toNat.beq (5 : Nat) then some (true, PUnit.unit) else none
       else none
       else some (false, PUnit.unit)
       else
       bif m0.toNat.beq (2 : Nat) then
       bif decide (n > (4096 : Int)) then
       bif decide ((0 : Int) ≤ m0 ∧ m0 < (6 : Int)) then
       bif m0.toNat.beq (0 : Nat) then some (true, PUnit.unit)
       else
       bif m0.toNat.beq (1 : Nat) then some (false, PUnit.unit)
       else
       bif m0.toNat.beq (2 : Nat) then some (false, PUnit.unit)
       else
       bif m0.toNat.beq (3 : Nat) then some (false, PUnit.unit)
       else
       bif m0.toNat.beq (4 : Nat) then some (true, PUnit.unit)
       else bif m0.toNat.beq (5 : Nat) then some (true, PUnit.unit) else none
       else none
       else some (false, PUnit.unit)
       else
       bif m0.toNat.beq (3 : Nat) then
       bif decide (n > (4096 : Int)) then
       bif decide ((0 : Int) ≤ m0 ∧ m0 < (6 : Int)) then
       bif m0.toNat.beq (0 : Nat) then some (true, PUnit.unit)
       else
       bif m0.toNat.beq (1 : Nat) then some (false, PUnit.unit)
       else
       bif m0.toNat.beq (2 : Nat) then some (false, PUnit.unit)
       else
       bif m0.toNat.beq (3 : Nat) then some (false, PUnit.unit)
       else
       bif m0.toNat.beq (4 : Nat) then some (true, PUnit.unit)
       else bif m0.toNat.beq (5 : Nat) then some (true, PUnit.unit) else none
       else none
       else some (false, PUnit.unit)
       else
       bif m0.toNat.beq (4 : Nat) then
       bif decide (n > (19 : Int)) then
       bif decide ((0 : Int) ≤ m0 ∧ m0 < (6 : Int)) then
       bif m0.toNat.beq (0 : Nat) then some (true, PUnit.unit)
       else
       bif m0.toNat.beq (1 : Nat) then some (false, PUnit.unit)
       else
       bif m0.toNat.beq (2 : Nat) then some (false, PUnit.unit)
       else
       bif m0.toNat.beq (3 : Nat) then some (false, PUnit.unit)
       else
       bif m0.toNat.beq (4 : Nat) then some (true, PUnit.unit)
       else bif m0.toNat.beq (5 : Nat) then some (true, PUnit.unit) else none
       else none
       else some (false, PUnit.unit)
       else
       bif m0.toNat.beq (5 : Nat) then
       bif decide (n > (23 : Int)) then
       bif decide ((0 : Int) ≤ m0 ∧ m0 < (6 : Int)) then
       bif m0.toNat.beq (0 : Nat) then some (true, PUnit.unit)
       else
       bif m0.toNat.beq (1 : Nat) then some (false, PUnit.unit)
       else
       bif m0.toNat.beq (2 : Nat) then some (false, PUnit.unit)
       else
       bif m0.toNat.beq (3 : Nat) then some (false, PUnit.unit)
       else
       bif m0.toNat.beq (4 : Nat) then some (true, PUnit.unit)
       else bif m0.toNat.beq (5 : Nat) then some (true, PUnit.unit) else none
       else none
       else some (false, PUnit.unit)
       else none
       else none
       else
       bif m0.toNat.beq (2 : Nat) then
       bif decide (n < (23 : Int)) then some (true, PUnit.unit)
       else
       bif decide ((0 : Int) ≤ m0 ∧ m0 < (6 : Int)) then
       bif m0.toNat.beq (0 : Nat) then
       bif decide (n > (0 : Int)) then
       bif decide ((0 : Int) ≤ m0 ∧ m0 < (6 : Int)) then
       bif m0.toNat.beq (0 : Nat) then some (true, PUnit.unit)
       else
       bif m0.toNat.beq (1 : Nat) then some (false, PUnit.unit)
       else
       bif m0.toNat.beq (2 : Nat) then some (false, PUnit.unit)
       else
       bif m0.toNat.beq (3 : Nat) then some (false, PUnit.unit)
       else
       bif m0.toNat.beq (4 : Nat) then some (true, PUnit.unit)
       else bif m0.toNat.beq (5 : Nat) then some (true, PUnit.unit) else none
       else none
       else some (false, PUnit.unit)
       else
       bif m0.toNat.beq (1 : Nat) then
       bif decide (n > (4096 : Int)) then
       bif decide ((0 : Int) ≤ m0 ∧ m0 < (6 : Int)) then
       bif m0.toNat.beq (0 : Nat) then some (true, PUnit.unit)
       else
       bif m0.toNat.beq (1 : Nat) then some (false, PUnit.unit)
       else
       bif m0.toNat.beq (2 : Nat) then some (false, PUnit.unit)
       else
       bif m0.toNat.beq (3 : Nat) then some (false, PUnit.unit)
       else
       bif m0.toNat.beq (4 : Nat) then some (true, PUnit.unit)
       else bif m0.toNat.beq (5 : Nat) then some (true, PUnit.unit) else none
       else none
       else some (false, PUnit.unit)
       else
       bif m0.toNat.beq (2 : Nat) then
       bif decide (n > (4096 : Int)) then
       bif decide ((0 : Int) ≤ m0 ∧ m0 < (6 : Int)) then
       bif m0.toNat.beq (0 : Nat) then some (true, PUnit.unit)
       else
       bif m0.toNat.beq (1 : Nat) then some (false, PUnit.unit)
       else
       bif m0.toNat.beq (2 : Nat) then some (false, PUnit.unit)
       else
       bif m0.toNat.beq (3 : Nat) then some (false, PUnit.unit)
       else
       bif m0.toNat.beq (4 : Nat) then some (true, PUnit.unit)
       else bif m0.toNat.beq (5 : Nat) then some (true, PUnit.unit) else none
       else none
       else some (false, PUnit.unit)
       else
       bif m0.toNat.beq (3 : Nat) then
       bif decide (n > (4096 : Int)) then
       bif decide ((0 : Int) ≤ m0 ∧ m0 < (6 : Int)) then
       bif m0.toNat.beq (0 : Nat) then some (true, PUnit.unit)
       else
       bif m0.toNat.beq (1 : Nat) then some (false, PUnit.unit)
       else
       bif m0.toNat.beq (2 : Nat) then some (false, PUnit.unit)
       else
       bif m0.toNat.beq (3 : Nat) then some (false, PUnit.unit)
       else
       bif m0.toNat.beq (4 : Nat) then some (true, PUnit.unit)
       else bif m0.toNat.beq (5 : Nat) then some (true, PUnit.unit) else none
       else none
       else some (false, PUnit.unit)
       else
       bif m0.toNat.beq (4 : Nat) then
       bif decide (n > (19 : Int)) then
       bif decide ((0 : Int) ≤ m0 ∧ m0 < (6 : Int)) then
       bif m0.toNat.beq (0 : Nat) then some (true, PUnit.unit)
       else
       bif m0.toNat.beq (1 : Nat) then some (false, PUnit.unit)
       else
       bif m0.toNat.beq (2 : Nat) then some (false, PUnit.unit)
       else
       bif m0.toNat.beq (3 : Nat) then some (false, PUnit.unit)
       else
       bif m0.toNat.beq (4 : Nat) then some (true, PUnit.unit)
       else bif m0.toNat.beq (5 : Nat) then some (true, PUnit.unit) else none
       else none
       else some (false, PUnit.unit)
       else
       bif m0.toNat.beq (5 : Nat) then
       bif decide (n > (23 : Int)) then
       bif decide ((0 : Int) ≤ m0 ∧ m0 < (6 : Int)) then
       bif m0.toNat.beq (0 : Nat) then some (true, PUnit.unit)
       else
       bif m0.toNat.beq (1 : Nat) then some (false, PUnit.unit)
       else
       bif m0.toNat.beq (2 : Nat) then some (false, PUnit.unit)
       else
       bif m0.toNat.beq (3 : Nat) then some (false, PUnit.unit)
       else
       bif m0.toNat.beq (4 : Nat) then some (true, PUnit.unit)
       else bif m0.toNat.beq (5 : Nat) then some (true, PUnit.unit) else none
       else none
       else some (false, PUnit.unit)
       else none
       else none
       else
       bif m0.toNat.beq (3 : Nat) then
       bif decide (n < (21 : Int)) then some (true, PUnit.unit)
       else
       bif decide ((0 : Int) ≤ m0 ∧ m0 < (6 : Int)) then
       bif m0.toNat.beq (0 : Nat) then
       bif decide (n > (0 : Int)) then
       bif decide ((0 : Int) ≤ m0 ∧ m0 < (6 : Int)) then
       bif m0.toNat.beq (0 : Nat) then some (true, PUnit.unit)
       else
       bif m0.toNat.beq (1 : Nat) then some (false, PUnit.unit)
       else
       bif m0.toNat.beq (2 : Nat) then some (false, PUnit.unit)
       else
       bif m0.toNat.beq (3 : Nat) then some (false, PUnit.unit)
       else
       bif m0.toNat.beq (4 : Nat) then some (true, PUnit.unit)
       else bif m0.toNat.beq (5 : Nat) then some (true, PUnit.unit) else none
       else none
       else some (false, PUnit.unit)
       else
       bif m0.toNat.beq (1 : Nat) then
       bif decide (n > (4096 : Int)) then
       bif decide ((0 : Int) ≤ m0 ∧ m0 < (6 : Int)) then
       bif m0.toNat.beq (0 : Nat) then some (true, PUnit.unit)
       else
       bif m0.toNat.beq (1 : Nat) then some (false, PUnit.unit)
       else
       bif m0.toNat.beq (2 : Nat) then some (false, PUnit.unit)
       else
       bif m0.toNat.beq (3 : Nat) then some (false, PUnit.unit)
       else
       bif m0.toNat.beq (4 : Nat) then some (true, PUnit.unit)
       else bif m0.toNat.beq (5 : Nat) then some (true, PUnit.unit) else none
       else none
       else some (false, PUnit.unit)
       else
       bif m0.toNat.beq (2 : Nat) then
       bif decide (n > (4096 : Int)) then
       bif decide ((0 : Int) ≤ m0 ∧ m0 < (6 : Int)) then
       bif m0.toNat.beq (0 : Nat) then some (true, PUnit.unit)
       else
       bif m0.toNat.beq (1 : Nat) then some (false, PUnit.unit)
       else
       bif m0.toNat.beq (2 : Nat) then some (false, PUnit.unit)
       else
       bif m0.toNat.beq (3 : Nat) then some (false, PUnit.unit)
       else
       bif m0.toNat.beq (4 : Nat) then some (true, PUnit.unit)
       else bif m0.toNat.beq (5 : Nat) then some (true, PUnit.unit) else none
       else none
       else some (false, PUnit.unit)
       else
       bif m0.toNat.beq (3 : Nat) then
       bif decide (n > (4096 : Int)) then
       bif decide ((0 : Int) ≤ m0 ∧ m0 < (6 : Int)) then
       bif m0.toNat.beq (0 : Nat) then some (true, PUnit.unit)
       else
       bif m0.toNat.beq (1 : Nat) then some (false, PUnit.unit)
       else
       bif m0.toNat.beq (2 : Nat) then some (false, PUnit.unit)
       else
       bif m0.toNat.beq (3 : Nat) then some (false, PUnit.unit)
       else
       bif m0.toNat.beq (4 : Nat) then some (true, PUnit.unit)
       else bif m0.toNat.beq (5 : Nat) then some (true, PUnit.unit) else none
       else none
       else some (false, PUnit.unit)
       else
       bif m0.toNat.beq (4 : Nat) then
       bif decide (n > (19 : Int)) then
       bif decide ((0 : Int) ≤ m0 ∧ m0 < (6 : Int)) then
       bif m0.toNat.beq (0 : Nat) then some (true, PUnit.unit)
       else
       bif m0.toNat.beq (1 : Nat) then some (false, PUnit.unit)
       else
       bif m0.toNat.beq (2 : Nat) then some (false, PUnit.unit)
       else
       bif m0.toNat.beq (3 : Nat) then some (false, PUnit.unit)
       else
       bif m0.toNat.beq (4 : Nat) then some (true, PUnit.unit)
       else bif m0.toNat.beq (5 : Nat) then some (true, PUnit.unit) else none
       else none
       else some (false, PUnit.unit)
       else
       bif m0.toNat.beq (5 : Nat) then
       bif decide (n > (23 : Int)) then
       bif decide ((0 : Int) ≤ m0 ∧ m0 < (6 : Int)) then
       bif m0.toNat.beq (0 : Nat) then some (true, PUnit.unit)
       else
       bif m0.toNat.beq (1 : Nat) then some (false, PUnit.unit)
       else
       bif m0.toNat.beq (2 : Nat) then some (false, PUnit.unit)
       else
       bif m0.toNat.beq (3 : Nat) then some (false, PUnit.unit)
       else
       bif m0.toNat.beq (4 : Nat) then some (true, PUnit.unit)
       else bif m0.toNat.beq (5 : Nat) then some (true, PUnit.unit) else none
       else none
       else some (false, PUnit.unit)
       else none
       else none
       else
       bif m0.toNat.beq (4 : Nat) then
       bif decide (n < (19 : Int)) then some (true, PUnit.unit)
       else
       bif decide ((0 : Int) ≤ m0 ∧ m0 < (6 : Int)) then
       bif m0.toNat.beq (0 : Nat) then
       bif decide (n > (0 : Int)) then
       bif decide ((0 : Int) ≤ m0 ∧ m0 < (6 : Int)) then
       bif m0.toNat.beq (0 : Nat) then some (true, PUnit.unit)
       else
       bif m0.toNat.beq (1 : Nat) then some (false, PUnit.unit)
       else
       bif m0.toNat.beq (2 : Nat) then some (false, PUnit.unit)
       else
       bif m0.toNat.beq (3 : Nat) then some (false, PUnit.unit)
       else
       bif m0.toNat.beq (4 : Nat) then some (true, PUnit.unit)
       else bif m0.toNat.beq (5 : Nat) then some (true, PUnit.unit) else none
       else none
       else some (false, PUnit.unit)
       else
       bif m0.toNat.beq (1 : Nat) then
       bif decide (n > (4096 : Int)) then
       bif decide ((0 : Int) ≤ m0 ∧ m0 < (6 : Int)) then
       bif m0.toNat.beq (0 : Nat) then some (true, PUnit.unit)
       else
       bif m0.toNat.beq (1 : Nat) then some (false, PUnit.unit)
       else
       bif m0.toNat.beq (2 : Nat) then some (false, PUnit.unit)
       else
       bif m0.toNat.beq (3 : Nat) then some (false, PUnit.unit)
       else
       bif m0.toNat.beq (4 : Nat) then some (true, PUnit.unit)
       else bif m0.toNat.beq (5 : Nat) then some (true, PUnit.unit) else none
       else none
       else some (false, PUnit.unit)
       else
       bif m0.toNat.beq (2 : Nat) then
       bif decide (n > (4096 : Int)) then
       bif decide ((0 : Int) ≤ m0 ∧ m0 < (6 : Int)) then
       bif m0.toNat.beq (0 : Nat) then some (true, PUnit.unit)
       else
       bif m0.toNat.beq (1 : Nat) then some (false, PUnit.unit)
       else
       bif m0.toNat.beq (2 : Nat) then some (false, PUnit.unit)
       else
       bif m0.toNat.beq (3 : Nat) then some (false, PUnit.unit)
       else
       bif m0.toNat.beq (4 : Nat) then some (true, PUnit.unit)
       else bif m0.toNat.beq (5 : Nat) then some (true, PUnit.unit) else none
       else none
       else some (false, PUnit.unit)
       else
       bif m0.toNat.beq (3 : Nat) then
       bif decide (n > (4096 : Int)) then
       bif decide ((0 : Int) ≤ m0 ∧ m0 < (6 : Int)) then
       bif m0.toNat.beq (0 : Nat) then some (true, PUnit.unit)
       else
       bif m0.toNat.beq (1 : Nat) then some (false, PUnit.unit)
       else
       bif m0.toNat.beq (2 : Nat) then some (false, PUnit.unit)
       else
       bif m0.toNat.beq (3 : Nat) then some (false, PUnit.unit)
       else
       bif m0.toNat.beq (4 : Nat) then some (true, PUnit.unit)
       else bif m0.toNat.beq (5 : Nat) then some (true, PUnit.unit) else none
       else none
       else some (false, PUnit.unit)
       else
       bif m0.toNat.beq (4 : Nat) then
       bif decide (n > (19 : Int)) then
       bif decide ((0 : Int) ≤ m0 ∧ m0 < (6 : Int)) then
       bif m0.toNat.beq (0 : Nat) then some (true, PUnit.unit)
       else
       bif m0.toNat.beq (1 : Nat) then some (false, PUnit.unit)
       else
       bif m0.toNat.beq (2 : Nat) then some (false, PUnit.unit)
       else
       bif m0.toNat.beq (3 : Nat) then some (false, PUnit.unit)
       else
       bif m0.toNat.beq (4 : Nat) then some (true, PUnit.unit)
       else bif m0.toNat.beq (5 : Nat) then some (true, PUnit.unit) else none
       else none
       else some (false, PUnit.unit)
       else
       bif m0.toNat.beq (5 : Nat) then
       bif decide (n > (23 : Int)) then
       bif decide ((0 : Int) ≤ m0 ∧ m0 < (6 : Int)) then
       bif m0.toNat.beq (0 : Nat) then some (true, PUnit.unit)
       else
       bif m0.toNat.beq (1 : Nat) then some (false, PUnit.unit)
       else
       bif m0.toNat.beq (2 : Nat) then some (false, PUnit.unit)
       else
       bif m0.toNat.beq (3 : Nat) then some (false, PUnit.unit)
       else
       bif m0.toNat.beq (4 : Nat) then some (true, PUnit.unit)
       else bif m0.toNat.beq (5 : Nat) then some (true, PUnit.unit) else none
       else none
       else some (false, PUnit.unit)
       else none
       else none
       else
       bif m0.toNat.beq (5 : Nat) then
       bif decide (n < (23 : Int)) then some (true, PUnit.unit)
       else
       bif decide ((0 : Int) ≤ m0 ∧ m0 < (6 : Int)) then
       bif m0.toNat.beq (0 : Nat) then
       bif decide (n > (0 : Int)) then
       bif decide ((0 : Int) ≤ m0 ∧ m0 < (6 : Int)) then
       bif m0.toNat.beq (0 : Nat) then some (true, PUnit.unit)
       else
       bif m0.toNat.beq (1 : Nat) then some (false, PUnit.unit)
       else
       bif m0.toNat.beq (2 : Nat) then some (false, PUnit.unit)
       else
       bif m0.toNat.beq (3 : Nat) then some (false, PUnit.unit)
       else
       bif m0.toNat.beq (4 : Nat) then some (true, PUnit.unit)
       else bif m0.toNat.beq (5 : Nat) then some (true, PUnit.unit) else none
       else none
       else some (false, PUnit.unit)
       else
       bif m0.toNat.beq (1 : Nat) then
       bif decide (n > (4096 : Int)) then
       bif decide ((0 : Int) ≤ m0 ∧ m0 < (6 : Int)) then
       bif m0.toNat.beq (0 : Nat) then some (true, PUnit.unit)
       else
       bif m0.toNat.beq (1 : Nat) then some (false, PUnit.unit)
       else
       bif m0.toNat.beq (2 : Nat) then some (false, PUnit.unit)
       else
       bif m0.toNat.beq (3 : Nat) then some (false, PUnit.unit)
       else
       bif m0.toNat.beq (4 : Nat) then some (true, PUnit.unit)
       else bif m0.toNat.beq (5 : Nat) then some (true, PUnit.unit) else none
       else none
       else some (false, PUnit.unit)
       else
       bif m0.toNat.beq (2 : Nat) then
       bif decide (n > (4096 : Int)) then
       bif decide ((0 : Int) ≤ m0 ∧ m0 < (6 : Int)) then
       bif m0.toNat.beq (0 : Nat) then some (true, PUnit.unit)
       else
       bif m0.toNat.beq (1 : Nat) then some (false, PUnit.unit)
       else
       bif m0.toNat.beq (2 : Nat) then some (false, PUnit.unit)
       else
       bif m0.toNat.beq (3 : Nat) then some (false, PUnit.unit)
       else
       bif m0.toNat.beq (4 : Nat) then some (true, PUnit.unit)
       else bif m0.toNat.beq (5 : Nat) then some (true, PUnit.unit) else none
       else none
       else some (false, PUnit.unit)
       else
       bif m0.toNat.beq (3 : Nat) then
       bif decide (n > (4096 : Int)) then
       bif decide ((0 : Int) ≤ m0 ∧ m0 < (6 : Int)) then
       bif m0.toNat.beq (0 : Nat) then some (true, PUnit.unit)
       else
       bif m0.toNat.beq (1 : Nat) then some (false, PUnit.unit)
       else
       bif m0.toNat.beq (2 : Nat) then some (false, PUnit.unit)
       else
       bif m0.toNat.beq (3 : Nat) then some (false, PUnit.unit)
       else
       bif m0.toNat.beq (4 : Nat) then some (true, PUnit.unit)
       else bif m0.toNat.beq (5 : Nat) then some (true, PUnit.unit) else none
       else none
       else some (false, PUnit.unit)
       else
       bif m0.toNat.beq (4 : Nat) then
       bif decide (n > (19 : Int)) then
       bif decide ((0 : Int) ≤ m0 ∧ m0 < (6 : Int)) then
       bif m0.toNat.beq (0 : Nat) then some (true, PUnit.unit)
       else
       bif m0.toNat.beq (1 : Nat) then some (false, PUnit.unit)
       else
       bif m0.toNat.beq (2 : Nat) then some (false, PUnit.unit)
       else
       bif m0.toNat.beq (3 : Nat) then some (false, PUnit.unit)
       else
       bif m0.toNat.beq (4 : Nat) then some (true, PUnit.unit)
       else bif m0.toNat.beq (5 : Nat) then some (true, PUnit.unit) else none
       else none
       else some (false, PUnit.unit)
       else
       bif m0.toNat.beq (5 : Nat) then
       bif decide (n > (23 : Int)) then
       bif decide ((0 : Int) ≤ m0 ∧ m0 < (6 : Int)) then
       bif m0.toNat.beq (0 : Nat) then some (true, PUnit.unit)
       else
       bif m0.toNat.beq (1 : Nat) then some (false, PUnit.unit)
       else
       bif m0.toNat.beq (2 : Nat) then some (false, PUnit.unit)
       else
       bif m0.toNat.beq (3 : Nat) then some (false, PUnit.unit)
       else
       bif m0.toNat.beq (4 : Nat) then some (true, PUnit.unit)
       else bif m0.toNat.beq (5 : Nat) then some (true, PUnit.unit) else none
       else none
       else some (false, PUnit.unit)
       else none
       else none
       else none
       else none
    else some (true, PUnit.unit)
theorem r1e (x39 : F39.FT) (x43 : F43.FT) (l42_1 : F42.G1) (kd : (Int × List (Int)) × Int) (d : Unit) : unitF (tabC Tryd.prog (tab x39 x43 l42_1) (pls x39 x43 l42_1) 100 12) 100 .none (u1 fun _ _ => none) (codeAt [1, 1, 0, 0, 0] (bodyOf Tryd.prog 21)) kd d = r1P x39 x43 l42_1 kd d := by kernel_rfl
noncomputable def r1 : G1 := r1P F39.f F43.f F42.l1
noncomputable def l1 : G1 := r1
theorem ok1 : UnOk Tryd.prog (u1 l1) (codeAt [1, 1, 0, 0, 0] (bodyOf Tryd.prog 21)) :=
  blockT (p := .none) (fuel := 100) (depth := 12) mixed tabS plsP trivial (fun kd d => r1e F39.f F43.f F42.l1 kd d)
def r2P (x39 : F39.FT) (x43 : F43.FT) (l42_1 : F42.G1) : G2 := fun () () =>
    (x39 ([(255 : Int)], (16 : Int))).bind fun r0 =>
      bif decide ((0 : Nat) + List.length r0.fst ≤ List.length r0.fst) && true then
       some (List.take (List.length r0.fst) (List.drop (0 : Nat) r0.fst), PUnit.unit)
      else none
theorem r2e (x39 : F39.FT) (x43 : F43.FT) (l42_1 : F42.G1) (kd : Unit) (d : Unit) : unitF (tabC Tryd.prog (tab x39 x43 l42_1) (pls x39 x43 l42_1) 100 12) 100 .none (u2 fun _ _ => none) (codeAt [1, 1, 1, 0] (bodyOf Tryd.prog 21)) kd d = r2P x39 x43 l42_1 kd d := by kernel_rfl
noncomputable def r2 : G2 := r2P F39.f F43.f F42.l1
noncomputable def l2 : G2 := r2
theorem ok2 : UnOk Tryd.prog (u2 l2) (codeAt [1, 1, 1, 0] (bodyOf Tryd.prog 21)) :=
  blockT (p := .none) (fuel := 100) (depth := 12) mixed tabS plsP trivial (fun kd d => r2e F39.f F43.f F42.l1 kd d)
def r3P (x39 : F39.FT) (x43 : F43.FT) (l42_1 : F42.G1) : G3 := fun ((m0, m1), n) ahead =>
    bif decide ((0 : Nat) + ahead.length ≤ ahead.length) then
      bif decide ((List.take ahead.length ahead).length = (0 : Nat)) then
       (l42_1 ([IntKind.u16.wrap n], (1 : Int)) (([], [], (0 : Int), true), (0 : Int))).bind fun r0 =>
       bif !r0.snd.snd.snd.snd then
       bif !r0.snd.snd.snd.snd then
       (x43 r0.snd).bind fun r1 =>
       bif decide ((0 : Nat) + r1.fst.fst.length ≤ r1.fst.fst.length) && true then
       some ((List.take r1.fst.fst.length (List.drop (0 : Nat) r1.fst.fst), r1.fst.snd), PUnit.unit)
       else none
       else
       bif r0.snd.snd.snd.fst == (0 : Int) then
       bif decide ((0 : Nat) + m1.length ≤ m1.length) then
       bif decide (r0.snd.fst.length + (List.take m1.length m1).length ≤ (1073741824 : Nat)) then
       bif decide ((0 : Nat) + r0.snd.fst.length ≤ r0.snd.fst.length) then
       bif
       decide
       ((0 : Nat) + (r0.snd.fst.length + (List.take m1.length m1).length) ≤
       (List.take r0.snd.fst.length (List.drop (0 : Nat) r0.snd.fst) ++
       List.take m1.length m1).length) &&
       true then
       bif decide ((0 : Nat) + r0.snd.snd.fst.length ≤ r0.snd.snd.fst.length) && true then
       (x43
       (List.take (r0.snd.fst.length + (List.take m1.length m1).length)
       (List.drop (0 : Nat)
       (List.take r0.snd.fst.length (List.drop (0 : Nat) r0.snd.fst) ++
       List.take m1.length m1)),
       List.take r0.snd.snd.fst.length (List.drop (0 : Nat) r0.snd.snd.fst),
       r0.snd.snd.snd.fst, r0.snd.snd.snd.snd)).bind
       fun r1 =>
       bif decide ((0 : Nat) + r1.fst.fst.length ≤ r1.fst.fst.length) && true then
       some
       ((List.take r1.fst.fst.length (List.drop (0 : Nat) r1.fst.fst), r1.fst.snd), PUnit.unit)
       else none
       else none
       else none
       else none
       else none
       else none
       else
       (x43 r0.snd).bind fun r1 =>
       bif decide ((0 : Nat) + r1.fst.fst.length ≤ r1.fst.fst.length) && true then
       some ((List.take r1.fst.fst.length (List.drop (0 : Nat) r1.fst.fst), r1.fst.snd), PUnit.unit)
       else none
       else
       bif r0.snd.snd.snd.fst == (0 : Int) then
       bif decide (r0.snd.fst.length + (1 : Nat) / OfNat.ofNat (1 : Nat) ≤ (1073741824 : Nat)) then
       bif decide ((0 : Nat) + r0.snd.fst.length ≤ r0.snd.fst.length) then
       bif !r0.snd.snd.snd.snd then
       bif
       decide
       ((0 : Nat) + (r0.snd.fst.length + (1 : Nat) / OfNat.ofNat (1 : Nat)) ≤
       (List.take r0.snd.fst.length (List.drop (0 : Nat) r0.snd.fst) ++ [m0]).length) &&
       true then
       bif decide ((0 : Nat) + r0.snd.snd.fst.length ≤ r0.snd.snd.fst.length) && true then
       (x43
       (List.take (r0.snd.fst.length + (1 : Nat) / OfNat.ofNat (1 : Nat))
       (List.drop (0 : Nat)
       (List.take r0.snd.fst.length (List.drop (0 : Nat) r0.snd.fst) ++ [m0])),
       List.take r0.snd.snd.fst.length (List.drop (0 : Nat) r0.snd.snd.fst), r0.snd.snd.snd.fst,
       r0.snd.snd.snd.snd)).bind
       fun r1 =>
       bif decide ((0 : Nat) + r1.fst.fst.length ≤ r1.fst.fst.length) && true then
       some ((List.take r1.fst.fst.length (List.drop (0 : Nat) r1.fst.fst), r1.fst.snd), PUnit.unit)
       else none
       else none
       else none
       else
       bif r0.snd.snd.snd.fst == (0 : Int) then
       bif decide ((0 : Nat) + m1.length ≤ m1.length) then
       bif
       decide
       (r0.snd.fst.length + (1 : Nat) / OfNat.ofNat (1 : Nat) + (List.take m1.length m1).length ≤
       (1073741824 : Nat)) then
       bif
       decide
       ((0 : Nat) + (r0.snd.fst.length + (1 : Nat) / OfNat.ofNat (1 : Nat)) ≤
       (List.take r0.snd.fst.length (List.drop (0 : Nat) r0.snd.fst) ++ [m0]).length) then
       bif
       decide
       ((0 : Nat) +
       (r0.snd.fst.length + (1 : Nat) / OfNat.ofNat (1 : Nat) +
       (List.take m1.length m1).length) ≤
       (List.take (r0.snd.fst.length + (1 : Nat) / OfNat.ofNat (1 : Nat))
       (List.drop (0 : Nat)
       (List.take r0.snd.fst.length (List.drop (0 : Nat) r0.snd.fst) ++ [m0])) ++
       List.take m1.length m1).length) &&
       true then
       bif decide ((0 : Nat) + r0.snd.snd.fst.length ≤ r0.snd.snd.fst.length) && true then
       (x43
       (List.take
       (r0.snd.fst.length + (1 : Nat) / OfNat.ofNat (1 : Nat) +
       (List.take m1.length m1).length)
       (List.drop (0 : Nat)
       (List.take (r0.snd.fst.length + (1 : Nat) / OfNat.ofNat (1 : Nat))
       (List.drop (0 : Nat)
       (List.take r0.snd.fst.length (List.drop (0 : Nat) r0.snd.fst) ++
       [m0])) ++
       List.take m1.length m1)),
       List.take r0.snd.snd.fst.length (List.drop (0 : Nat) r0.snd.snd.fst),
       r0.snd.snd.snd.fst, r0.snd.snd.snd.snd)).bind
       fun r1 =>
       bif decide ((0 : Nat) + r1.fst.fst.length ≤ r1.fst.fst.length) && true then
       some
       ((List.take r1.fst.fst.length (List.drop (0 : Nat) r1.fst.fst), r1.fst.snd),
       PUnit.unit)
       else none
       else none
       else none
       else none
       else none
       else none
       else
       bif
       decide
       ((0 : Nat) + (r0.snd.fst.length + (1 : Nat) / OfNat.ofNat (1 : Nat)) ≤
       (List.take r0.snd.fst.length (List.drop (0 : Nat) r0.snd.fst) ++ [m0]).length) &&
       true then
       bif decide ((0 : Nat) + r0.snd.snd.fst.length ≤ r0.snd.snd.fst.length) && true then
       (x43
       (List.take (r0.snd.fst.length + (1 : Nat) / OfNat.ofNat (1 : Nat))
       (List.drop (0 : Nat)
       (List.take r0.snd.fst.length (List.drop (0 : Nat) r0.snd.fst) ++ [m0])),
       List.take r0.snd.snd.fst.length (List.drop (0 : Nat) r0.snd.snd.fst),
       r0.snd.snd.snd.fst, r0.snd.snd.snd.snd)).bind
       fun r1 =>
       bif decide ((0 : Nat) + r1.fst.fst.length ≤ r1.fst.fst.length) && true then
       some
       ((List.take r1.fst.fst.length (List.drop (0 : Nat) r1.fst.fst), r1.fst.snd), PUnit.unit)
       else none
       else none
       else none
       else none
       else none
       else
       bif !r0.snd.snd.snd.snd then
       (x43 r0.snd).bind fun r1 =>
       bif decide ((0 : Nat) + r1.fst.fst.length ≤ r1.fst.fst.length) && true then
       some ((List.take r1.fst.fst.length (List.drop (0 : Nat) r1.fst.fst), r1.fst.snd), PUnit.unit)
       else none
       else
       bif r0.snd.snd.snd.fst == (0 : Int) then
       bif decide ((0 : Nat) + m1.length ≤ m1.length) then
       bif decide (r0.snd.fst.length + (List.take m1.length m1).length ≤ (1073741824 : Nat)) then
       bif decide ((0 : Nat) + r0.snd.fst.length ≤ r0.snd.fst.length) then
       bif
       decide
       ((0 : Nat) + (r0.snd.fst.length + (List.take m1.length m1).length) ≤
       (List.take r0.snd.fst.length (List.drop (0 : Nat) r0.snd.fst) ++
       List.take m1.length m1).length) &&
       true then
       bif decide ((0 : Nat) + r0.snd.snd.fst.length ≤ r0.snd.snd.fst.length) && true then
       (x43
       (List.take (r0.snd.fst.length + (List.take m1.length m1).length)
       (List.drop (0 : Nat)
       (List.take r0.snd.fst.length (List.drop (0 : Nat) r0.snd.fst) ++
       List.take m1.length m1)),
       List.take r0.snd.snd.fst.length (List.drop (0 : Nat) r0.snd.snd.fst),
       r0.snd.snd.snd.fst, r0.snd.snd.snd.snd)).bind
       fun r1 =>
       bif decide ((0 : Nat) + r1.fst.fst.length ≤ r1.fst.fst.length) && true then
       some
       ((List.take r1.fst.fst.length (List.drop (0 : Nat) r1.fst.fst), r1.fst.snd), PUnit.unit)
       else none
       else none
       else none
       else none
       else none
       else none
       else
       (x43 r0.snd).bind fun r1 =>
       bif decide ((0 : Nat) + r1.fst.fst.length ≤ r1.fst.fst.length) && true then
       some ((List.take r1.fst.fst.length (List.drop (0 : Nat) r1.fst.fst), r1.fst.snd), PUnit.unit)
       else none
      else
       bif decide ((List.take ahead.length ahead).length ≤ (1073741824 : Nat)) then
       bif
       decide ((0 : Nat) + (List.take ahead.length ahead).length ≤ ([] ++ List.take ahead.length ahead).length) &&
       true then
       (l42_1 ([IntKind.u16.wrap n], (1 : Int))
       ((List.take (List.take ahead.length ahead).length
       (List.drop (0 : Nat) ([] ++ List.take ahead.length ahead)),
       [], (0 : Int), true),
       (0 : Int))).bind
       fun r0 =>
       bif !r0.snd.snd.snd.snd then
       bif !r0.snd.snd.snd.snd then
       (x43 r0.snd).bind fun r1 =>
       bif decide ((0 : Nat) + r1.fst.fst.length ≤ r1.fst.fst.length) && true then
       some ((List.take r1.fst.fst.length (List.drop (0 : Nat) r1.fst.fst), r1.fst.snd), PUnit.unit)
       else none
       else
       bif r0.snd.snd.snd.fst == (0 : Int) then
       bif decide ((0 : Nat) + m1.length ≤ m1.length) then
       bif decide (r0.snd.fst.length + (List.take m1.length m1).length ≤ (1073741824 : Nat)) then
       bif decide ((0 : Nat) + r0.snd.fst.length ≤ r0.snd.fst.length) then
       bif
       decide
       ((0 : Nat) + (r0.snd.fst.length + (List.take m1.length m1).length) ≤
       (List.take r0.snd.fst.length (List.drop (0 : Nat) r0.snd.fst) ++
       List.take m1.length m1).length) &&
       true then
       bif decide ((0 : Nat) + r0.snd.snd.fst.length ≤ r0.snd.snd.fst.length) && true then
       (x43
       (List.take (r0.snd.fst.length + (List.take m1.length m1).length)
       (List.drop (0 : Nat)
       (List.take r0.snd.fst.length (List.drop (0 : Nat) r0.snd.fst) ++
       List.take m1.length m1)),
       List.take r0.snd.snd.fst.length (List.drop (0 : Nat) r0.snd.snd.fst),
       r0.snd.snd.snd.fst, r0.snd.snd.snd.snd)).bind
       fun r1 =>
       bif decide ((0 : Nat) + r1.fst.fst.length ≤ r1.fst.fst.length) && true then
       some
       ((List.take r1.fst.fst.length (List.drop (0 : Nat) r1.fst.fst), r1.fst.snd),
       PUnit.unit)
       else none
       else none
       else none
       else none
       else none
       else none
       else
       (x43 r0.snd).bind fun r1 =>
       bif decide ((0 : Nat) + r1.fst.fst.length ≤ r1.fst.fst.length) && true then
       some ((List.take r1.fst.fst.length (List.drop (0 : Nat) r1.fst.fst), r1.fst.snd), PUnit.unit)
       else none
       else
       bif r0.snd.snd.snd.fst == (0 : Int) then
       bif decide (r0.snd.fst.length + (1 : Nat) / OfNat.ofNat (1 : Nat) ≤ (1073741824 : Nat)) then
       bif decide ((0 : Nat) + r0.snd.fst.length ≤ r0.snd.fst.length) then
       bif !r0.snd.snd.snd.snd then
       bif
       decide
       ((0 : Nat) + (r0.snd.fst.length + (1 : Nat) / OfNat.ofNat (1 : Nat)) ≤
       (List.take r0.snd.fst.length (List.drop (0 : Nat) r0.snd.fst) ++ [m0]).length) &&
       true then
       bif decide ((0 : Nat) + r0.snd.snd.fst.length ≤ r0.snd.snd.fst.length) && true then
       (x43
       (List.take (r0.snd.fst.length + (1 : Nat) / OfNat.ofNat (1 : Nat))
       (List.drop (0 : Nat)
       (List.take r0.snd.fst.length (List.drop (0 : Nat) r0.snd.fst) ++ [m0])),
       List.take r0.snd.snd.fst.length (List.drop (0 : Nat) r0.snd.snd.fst),
       r0.snd.snd.snd.fst, r0.snd.snd.snd.snd)).bind
       fun r1 =>
       bif decide ((0 : Nat) + r1.fst.fst.length ≤ r1.fst.fst.length) && true then
       some
       ((List.take r1.fst.fst.length (List.drop (0 : Nat) r1.fst.fst), r1.fst.snd), PUnit.unit)
       else none
       else none
       else none
       else
       bif r0.snd.snd.snd.fst == (0 : Int) then
       bif decide ((0 : Nat) + m1.length ≤ m1.length) then
       bif
       decide
       (r0.snd.fst.length + (1 : Nat) / OfNat.ofNat (1 : Nat) +
       (List.take m1.length m1).length ≤
       (1073741824 : Nat)) then
       bif
       decide
       ((0 : Nat) + (r0.snd.fst.length + (1 : Nat) / OfNat.ofNat (1 : Nat)) ≤
       (List.take r0.snd.fst.length (List.drop (0 : Nat) r0.snd.fst) ++ [m0]).length) then
       bif
       decide
       ((0 : Nat) +
       (r0.snd.fst.length + (1 : Nat) / OfNat.ofNat (1 : Nat) +
       (List.take m1.length m1).length) ≤
       (List.take (r0.snd.fst.length + (1 : Nat) / OfNat.ofNat (1 : Nat))
       (List.drop (0 : Nat)
       (List.take r0.snd.fst.length (List.drop (0 : Nat) r0.snd.fst) ++
       [m0])) ++
       List.take m1.length m1).length) &&
       true then
       bif decide ((0 : Nat) + r0.snd.snd.fst.length ≤ r0.snd.snd.fst.length) && true then
       (x43
       (List.take
       (r0.snd.fst.length + (1 : Nat) / OfNat.ofNat (1 : Nat) +
       (List.take m1.length m1).length)
       (List.drop (0 : Nat)
       (List.take (r0.snd.fst.length + (1 : Nat) / OfNat.ofNat (1 : Nat))
       (List.drop (0 : Nat)
       (List.take r0.snd.fst.length (List.drop (0 : Nat) r0.snd.fst) ++
       [m0])) ++
       List.take m1.length m1)),
       List.take r0.snd.snd.fst.length (List.drop (0 : Nat) r0.snd.snd.fst),
       r0.snd.snd.snd.fst, r0.snd.snd.snd.snd)).bind
       fun r1 =>
       bif decide ((0 : Nat) + r1.fst.fst.length ≤ r1.fst.fst.length) && true then
       some
       ((List.take r1.fst.fst.length (List.drop (0 : Nat) r1.fst.fst), r1.fst.snd),
       PUnit.unit)
       else none
       else none
       else none
       else none
       else none
       else none
       else
       bif
       decide
       ((0 : Nat) + (r0.snd.fst.length + (1 : Nat) / OfNat.ofNat (1 : Nat)) ≤
       (List.take r0.snd.fst.length (List.drop (0 : Nat) r0.snd.fst) ++ [m0]).length) &&
       true then
       bif decide ((0 : Nat) + r0.snd.snd.fst.length ≤ r0.snd.snd.fst.length) && true then
       (x43
       (List.take (r0.snd.fst.length + (1 : Nat) / OfNat.ofNat (1 : Nat))
       (List.drop (0 : Nat)
       (List.take r0.snd.fst.length (List.drop (0 : Nat) r0.snd.fst) ++ [m0])),
       List.take r0.snd.snd.fst.length (List.drop (0 : Nat) r0.snd.snd.fst),
       r0.snd.snd.snd.fst, r0.snd.snd.snd.snd)).bind
       fun r1 =>
       bif decide ((0 : Nat) + r1.fst.fst.length ≤ r1.fst.fst.length) && true then
       some
       ((List.take r1.fst.fst.length (List.drop (0 : Nat) r1.fst.fst), r1.fst.snd),
       PUnit.unit)
       else none
       else none
       else none
       else none
       else none
       else
       bif !r0.snd.snd.snd.snd then
       (x43 r0.snd).bind fun r1 =>
       bif decide ((0 : Nat) + r1.fst.fst.length ≤ r1.fst.fst.length) && true then
       some ((List.take r1.fst.fst.length (List.drop (0 : Nat) r1.fst.fst), r1.fst.snd), PUnit.unit)
       else none
       else
       bif r0.snd.snd.snd.fst == (0 : Int) then
       bif decide ((0 : Nat) + m1.length ≤ m1.length) then
       bif decide (r0.snd.fst.length + (List.take m1.length m1).length ≤ (1073741824 : Nat)) then
       bif decide ((0 : Nat) + r0.snd.fst.length ≤ r0.snd.fst.length) then
       bif
       decide
       ((0 : Nat) + (r0.snd.fst.length + (List.take m1.length m1).length) ≤
       (List.take r0.snd.fst.length (List.drop (0 : Nat) r0.snd.fst) ++
       List.take m1.length m1).length) &&
       true then
       bif decide ((0 : Nat) + r0.snd.snd.fst.length ≤ r0.snd.snd.fst.length) && true then
       (x43
       (List.take (r0.snd.fst.length + (List.take m1.length m1).length)
       (List.drop (0 : Nat)
       (List.take r0.snd.fst.length (List.drop (0 : Nat) r0.snd.fst) ++
       List.take m1.length m1)),
       List.take r0.snd.snd.fst.length (List.drop (0 : Nat) r0.snd.snd.fst),
       r0.snd.snd.snd.fst, r0.snd.snd.snd.snd)).bind
       fun r1 =>
       bif decide ((0 : Nat) + r1.fst.fst.length ≤ r1.fst.fst.length) && true then
       some
       ((List.take r1.fst.fst.length (List.drop (0 : Nat) r1.fst.fst), r1.fst.snd),
       PUnit.unit)
       else none
       else none
       else none
       else none
       else none
       else none
       else
       (x43 r0.snd).bind fun r1 =>
       bif decide ((0 : Nat) + r1.fst.fst.length ≤ r1.fst.fst.length) && true then
       some ((List.take r1.fst.fst.length (List.drop (0 : Nat) r1.fst.fst), r1.fst.snd), PUnit.unit)
       else none
       else none
       else none
    else none
theorem r3e (x39 : F39.FT) (x43 : F43.FT) (l42_1 : F42.G1) (kd : (Int × List (Int)) × Int) (d : List (Int)) : unitF (tabC Tryd.prog (tab x39 x43 l42_1) (pls x39 x43 l42_1) 100 12) 100 .none (u3 fun _ _ => none) (codeAt [1, 1, 1, 1, 0] (bodyOf Tryd.prog 21)) kd d = r3P x39 x43 l42_1 kd d := by kernel_rfl
noncomputable def r3 : G3 := r3P F39.f F43.f F42.l1
noncomputable def l3 : G3 := r3
theorem ok3 : UnOk Tryd.prog (u3 l3) (codeAt [1, 1, 1, 1, 0] (bodyOf Tryd.prog 21)) :=
  blockT (p := .none) (fuel := 100) (depth := 12) mixed tabS plsP trivial (fun kd d => r3e F39.f F43.f F42.l1 kd d)
def fP (x39 : F39.FT) (x43 : F43.FT) (l42_1 : F42.G1) (l1 : G1) (l2 : G2) (l3 : G3) : FT := fun (m0, m1) =>
    bif decide ((0 : Nat) + m1.length ≤ m1.length) && true then
      (l1 ((m0, List.take m1.length m1), IntKind.i64.wrap ((19 : Int) + (↑m1.length : Int))) PUnit.unit).bind fun r0 =>
       bif r0.fst then some (([], (1 : Int)), PUnit.unit)
       else
       bif decide (IntKind.i64.wrap ((19 : Int) + (↑m1.length : Int)) > (4096 : Int)) then
       some (([], (3 : Int)), PUnit.unit)
       else
       (l2 PUnit.unit PUnit.unit).bind fun r1 =>
       bif decide ((0 : Nat) + m1.length ≤ m1.length) && true then
       bif decide ((0 : Nat) + List.length r1.fst ≤ List.length r1.fst) && true then
       (l3 ((m0, List.take m1.length m1), IntKind.i64.wrap ((19 : Int) + (↑m1.length : Int)))
       (List.take (List.length r1.fst) (List.drop (0 : Nat) r1.fst))).bind
       fun r2 =>
       bif decide ((0 : Nat) + r2.fst.fst.length ≤ r2.fst.fst.length) && true then
       some ((List.take r2.fst.fst.length (List.drop (0 : Nat) r2.fst.fst), r2.fst.snd), PUnit.unit)
       else none
       else none
       else none
    else none
theorem fe (x39 : F39.FT) (x43 : F43.FT) (l42_1 : F42.G1) (l1 : G1) (l2 : G2) (l3 : G3) (d : (Int × List (Int))) : bodyF (tabC Tryd.prog (tab x39 x43 l42_1) ((21, (.node .none (.node .none (.node (.node (.node (.unit (u1 l1)) .none) .none) (.node (.unit (u2 l2)) (.node (.unit (u3 l3)) .none)))))) :: pls x39 x43 l42_1) 100 12) 100 21 i o d = fP x39 x43 l42_1 l1 l2 l3 d := by kernel_rfl
noncomputable def f : FT := fP F39.f F43.f F42.l1 l1 l2 l3
def plan (l1 : G1) (l2 : G2) (l3 : G3) : Plan := (.node .none (.node .none (.node (.node (.node (.unit (u1 l1)) .none) .none) (.node (.unit (u2 l2)) (.node (.unit (u3 l3)) .none)))))
theorem planOk : PlanOk Tryd.prog (plan l1 l2 l3) (bodyOf Tryd.prog 21) := (planOk_of (plan l1 l2 l3) _ [([1, 1, 0, 0, 0], u1 l1), ([1, 1, 1, 0], u2 l2), ([1, 1, 1, 1, 0], u3 l3)] rfl ⟨ok1, ok2, ok3, trivial⟩)
theorem meets : MeetsF Tryd.prog 21 ⟨i, o, f⟩ :=
  funcT (fuel := 100) (depth := 12) (pl := (21, plan l1 l2 l3) :: pls F39.f F43.f F42.l1) mixed tabS ⟨planOk, plsP⟩ (fun d => fe F39.f F43.f F42.l1 l1 l2 l3 d)
theorem spec : SpecOk Tryd.prog (fun _ => none) 21 (specF ⟨i, o, f⟩) := specF_ok (by kernel_rfl) meets
end Go.Proofs.YtnmgbheaabdhlaaDoor.F21

/- What comes of function 38 of this program, consulate.consulateref03.wrong, as the engine gives it. -/
namespace Go.Proofs.YtnmgbheaabdhlaaDoor.F38
open Go Go.Proofs Go.Proofs.YtnmgbheaabdhlaaDoor Go.RowKit Go.Proofs.YtnmgbheaabdhlaaDoor.Sx
set_option linter.unusedVariables false
set_option maxRecDepth 100000
def tab : List (FuncId × Sx.Spec) := []
def pls : List (FuncId × Plan) := []
@[reducible] def i : Sh := .sc (.int .u8) (.sc (.int .i64) .nil)
@[reducible] def o : Sh := .sc .bool .nil
abbrev FT := (Int × Int) → Option (Bool × Unit)
theorem tabS : AllS Tryd.prog (tab) := trivial
theorem plsP : AllP Tryd.prog (pls) := trivial
theorem mixed : Tryd.prog.follows .mixedOrders = true := by kernel_rfl
def fP : FT := fun (t, n) =>
    bif t == 1 then bif decide (n < 29) then some (true, PUnit.unit) else some (false, PUnit.unit)
    else
      bif t == 2 then bif decide (n < 23) then some (true, PUnit.unit) else some (false, PUnit.unit)
      else
       bif t == 3 then bif decide (n < 21) then some (true, PUnit.unit) else some (false, PUnit.unit)
       else
       bif t == 4 then bif decide (n < 19) then some (true, PUnit.unit) else some (decide (n > 19), PUnit.unit)
       else bif decide (n < 23) then some (true, PUnit.unit) else some (decide (n > 23), PUnit.unit)
theorem fe (d : Int × Int) : bodyF (tabC Tryd.prog (tab) ((38, .none) :: pls) 100 12) 100 38 i o d = fP d := by kernel_rfl
noncomputable def f : FT := fP
def plan : Plan := .none
theorem planOk : PlanOk Tryd.prog (plan) (bodyOf Tryd.prog 38) := (planOk_of (plan) _ [] (by kernel_rfl) trivial)
theorem meets : MeetsF Tryd.prog 38 ⟨i, o, f⟩ :=
  funcT (fuel := 100) (depth := 12) (pl := (38, plan) :: pls) mixed tabS ⟨planOk, plsP⟩ (fun d => fe  d)
theorem spec : SpecOk Tryd.prog (fun _ => none) 38 (specF ⟨i, o, f⟩) := specF_ok (by kernel_rfl) meets
end Go.Proofs.YtnmgbheaabdhlaaDoor.F38

/- What comes of function 22 of this program, consulate.consulateref03.Bytes, as the engine gives it. -/
namespace Go.Proofs.YtnmgbheaabdhlaaDoor.F22
open Go Go.Proofs Go.Proofs.YtnmgbheaabdhlaaDoor Go.RowKit Go.Proofs.YtnmgbheaabdhlaaDoor.Sx
set_option linter.unusedVariables false
set_option maxRecDepth 100000
def tab (x38 : F38.FT) : List (FuncId × Sx.Spec) := [(38, specF ⟨F38.i, F38.o, x38⟩)]
def pls (x38 : F38.FT) : List (FuncId × Plan) := []
@[reducible] def k1 : Sh := .nil
@[reducible] def i1 : Sh := .sl true 5 (.sc (.int .u8) .nil) (.sc (.int .i64) .nil)
@[reducible] def o1 : Sh := .sl true 5 (.sc (.int .u8) .nil) .nil
abbrev G1 := Unit → (List (Int) × Int) → Option (List (Int) × Unit)
def u1 (F : G1) : Un := ⟨49, [], k1, [5, 6], i1, [5], o1, [1, 4], [(.exit 0, [true])], F⟩
@[reducible] def i : Sh := .ag none (.sc (.int .u8) (.sl false 5 (.sc (.int .u8) .nil) .nil)) .nil
@[reducible] def o : Sh := .sl true 5 (.sc (.int .u8) .nil) (.sc (.int .i64) .nil)
abbrev FT := ((Int × List (Int))) → Option ((List (Int) × Int) × Unit)
theorem tabS : AllS Tryd.prog (tab F38.f) := ⟨F38.spec, trivial⟩
theorem plsP : AllP Tryd.prog (pls F38.f) := trivial
theorem mixed : Tryd.prog.follows .mixedOrders = true := by kernel_rfl
def r1P (x38 : F38.FT) : Unit → (List (Int) × Int) → Option ((List (Int) × Int) ⊕ (List (Int) × Unit)) := fun () (out, i) =>
    bif decide (i < 16) then
      bif decide (out.length + 1 / OfNat.ofNat 1 ≤ 1073741824) then
       bif decide (0 + out.length ≤ out.length) then
       bif decide (0 + (out.length + 1 / OfNat.ofNat 1) ≤ (List.take out.length out ++ [255]).length) && true then
       some
       (Sum.inl
       (List.take (out.length + 1 / OfNat.ofNat 1) (List.drop 0 (List.take out.length out ++ [255])),
       IntKind.i64.wrap (i + 1)))
       else none
       else none
      else none
    else
      bif decide (0 + out.length ≤ out.length) && true then some (Sum.inr (List.take out.length out, PUnit.unit))
      else none
theorem r1e (x38 : F38.FT) (kd : Unit) (d : List (Int) × Int) : roundF (tabC Tryd.prog (tab x38) (pls x38) 100 12) 100 .none (u1 fun _ _ => none) (codeAt [1, 1, 1, 1, 1, 0, 1, 0, 0] (bodyOf Tryd.prog 22)) kd d = r1P x38 kd d := by kernel_rfl
noncomputable def r1 : Unit → (List (Int) × Int) → Option ((List (Int) × Int) ⊕ (List (Int) × Unit)) := r1P F38.f
noncomputable def l1 : G1 := fun kd d => iterO (r1 kd) d
theorem ok1 : UnOk Tryd.prog (u1 l1) (codeAt [1, 1, 1, 1, 1, 0, 1, 0] (bodyOf Tryd.prog 22)) :=
  loopT (p := .none) (c := codeAt [1, 1, 1, 1, 1, 0, 1, 0, 0] (bodyOf Tryd.prog 22)) (fuel := 100) (depth := 12) mixed tabS plsP (by kernel_rfl) trivial (by kernel_rfl) (fun kd d => r1e F38.f kd d) rfl
def fP (x38 : F38.FT) (l1 : G1) : FT := fun (m0, m1) =>
    bif decide (m0 < 1) then some (([], 1), PUnit.unit)
    else
      bif decide (m0 > 5) then some (([], 1), PUnit.unit)
      else
       (x38 (m0, IntKind.i64.wrap (19 + (↑m1.length : Int)))).bind fun r0 =>
       bif r0.fst then some (([], 1), PUnit.unit)
       else
       bif decide (IntKind.i64.wrap (19 + (↑m1.length : Int)) > 4096) then some (([], 3), PUnit.unit)
       else
       (l1 PUnit.unit ([], 0)).bind fun r1 =>
       bif decide (List.length r1.fst + 3 / OfNat.ofNat 1 ≤ 1073741824) then
       bif decide (0 + List.length r1.fst ≤ List.length r1.fst) then
       bif decide (0 + m1.length ≤ m1.length) then
       bif
       decide
       (List.length r1.fst + 3 / OfNat.ofNat 1 + (List.take m1.length m1).length ≤ 1073741824) then
       bif
       decide
       (0 + (List.length r1.fst + 3 / OfNat.ofNat 1) ≤
       (List.take (List.length r1.fst) (List.drop 0 r1.fst) ++
       [IntKind.u8.wrap
       (IntKind.i64.wrap ((IntKind.i64.wrap (19 + (↑m1.length : Int))).tdiv 256)),
       IntKind.u8.wrap ((IntKind.i64.wrap (19 + (↑m1.length : Int))).tmod 256),
       m0]).length) then
       bif
       decide
       (0 + (List.length r1.fst + 3 / OfNat.ofNat 1 + (List.take m1.length m1).length) ≤
       (List.take (List.length r1.fst + 3 / OfNat.ofNat 1)
       (List.drop 0
       (List.take (List.length r1.fst) (List.drop 0 r1.fst) ++
       [IntKind.u8.wrap
       (IntKind.i64.wrap
       ((IntKind.i64.wrap (19 + (↑m1.length : Int))).tdiv 256)),
       IntKind.u8.wrap ((IntKind.i64.wrap (19 + (↑m1.length : Int))).tmod 256),
       m0])) ++
       List.take m1.length m1).length) &&
       true then
       some
       ((List.take (List.length r1.fst + 3 / OfNat.ofNat 1 + (List.take m1.length m1).length)
       (List.drop 0
       (List.take (List.length r1.fst + 3 / OfNat.ofNat 1)
       (List.drop 0
       (List.take (List.length r1.fst) (List.drop 0 r1.fst) ++
       [IntKind.u8.wrap
       (IntKind.i64.wrap
       ((IntKind.i64.wrap (19 + (↑m1.length : Int))).tdiv 256)),
       IntKind.u8.wrap ((IntKind.i64.wrap (19 + (↑m1.length : Int))).tmod 256),
       m0])) ++
       List.take m1.length m1)),
       0),
       PUnit.unit)
       else none
       else none
       else none
       else none
       else none
       else none
theorem fe (x38 : F38.FT) (l1 : G1) (d : (Int × List (Int))) : bodyF (tabC Tryd.prog (tab x38) ((22, (.node .none (.node .none (.node .none (.node .none (.node .none (.node (.node .none (.node (.unit (u1 l1)) .none)) .none))))))) :: pls x38) 100 12) 100 22 i o d = fP x38 l1 d := by kernel_rfl
noncomputable def f : FT := fP F38.f l1
def plan (l1 : G1) : Plan := (.node .none (.node .none (.node .none (.node .none (.node .none (.node (.node .none (.node (.unit (u1 l1)) .none)) .none))))))
theorem planOk : PlanOk Tryd.prog (plan l1) (bodyOf Tryd.prog 22) := (planOk_of (plan l1) _ [([1, 1, 1, 1, 1, 0, 1, 0], u1 l1)] rfl ⟨ok1, trivial⟩)
theorem meets : MeetsF Tryd.prog 22 ⟨i, o, f⟩ :=
  funcT (fuel := 100) (depth := 12) (pl := (22, plan l1) :: pls F38.f) mixed tabS ⟨planOk, plsP⟩ (fun d => fe F38.f l1 d)
theorem spec : SpecOk Tryd.prog (fun _ => none) 22 (specF ⟨i, o, f⟩) := specF_ok (by kernel_rfl) meets
end Go.Proofs.YtnmgbheaabdhlaaDoor.F22

/- Chapter 3: a message's bytes. -/
namespace Go.Proofs.YtnmgbheaabdhlaaDoor.PE
open Go Go.Proofs Go.Proofs.YtnmgbheaabdhlaaDoor.Sx Go.Proofs.YtnmgbheaabdhlaaDoor.PA Go.Proofs.YtnmgbheaabdhlaaDoor.PB Go.Proofs.YtnmgbheaabdhlaaDoor.PC Go.Proofs.YtnmgbheaabdhlaaDoor.PD
set_option linter.unusedSimpArgs false
set_option linter.unusedVariables false
/-- Is such a message none? -/
def bad (n t : Int) : Bool := decide (t < 1) || decide (5 < t) || !fit n t
/-- The bytes ahead of a body. -/
def ahead (n t : Int) : List Int := List.replicate 16 255 ++ [n / 256, n % 256, t]
def lay (t : Int) (m : List Int) : List Int × Int :=
  if bad (19 + (m.length : Int)) t = true then ([], 1) else if 4096 < 19 + (m.length : Int) then ([], 3) else (ahead (19 + (m.length : Int)) t ++ m, 0)
theorem badP {t n : Int} {m : List Int} (ht : 0 ≤ t ∧ t ≤ 255) (hn : 19 ≤ n) : F21.l1 ((t, m), n) () = some (bad n t, ()) := by
  unfold F21.l1 F21.r1 F21.r1P bad
  by_cases h1 : t < 1
  · have : t = 0 := by omega
    subst this
    simp
  by_cases h2 : 5 < t
  · have c1 : ¬ t ≤ 5 := by omega
    have c2 : 1 ≤ t := by omega
    simp [h1, h2, c1, c2]
  have hc : t = 1 ∨ t = 2 ∨ t = 3 ∨ t = 4 ∨ t = 5 := by omega
  unfold fit
  rcases hc with rfl | rfl | rfl | rfl | rfl
  · by_cases h : 29 ≤ n
    · have : ¬ n < 29 := by omega
      simp [h, this, show Nat.beq 1 0 = false from rfl, show Nat.beq 1 1 = true from rfl]
    · have : n < 29 := by omega
      simp [h, this, show Nat.beq 1 0 = false from rfl, show Nat.beq 1 1 = true from rfl]
  · by_cases h : 23 ≤ n
    · have : ¬ n < 23 := by omega
      simp [h, this, show Nat.beq 2 0 = false from rfl, show Nat.beq 2 1 = false from rfl, show Nat.beq 2 2 = true from rfl]
    · have : n < 23 := by omega
      simp [h, this, show Nat.beq 2 0 = false from rfl, show Nat.beq 2 1 = false from rfl, show Nat.beq 2 2 = true from rfl]
  · by_cases h : 21 ≤ n
    · have : ¬ n < 21 := by omega
      simp [h, this, show Nat.beq 3 0 = false from rfl, show Nat.beq 3 1 = false from rfl, show Nat.beq 3 2 = false from rfl, show Nat.beq 3 3 = true from rfl]
    · have : n < 21 := by omega
      simp [h, this, show Nat.beq 3 0 = false from rfl, show Nat.beq 3 1 = false from rfl, show Nat.beq 3 2 = false from rfl, show Nat.beq 3 3 = true from rfl]
  · by_cases h : n = 19
    · subst h; simp [show Nat.beq 4 0 = false from rfl, show Nat.beq 4 1 = false from rfl, show Nat.beq 4 2 = false from rfl, show Nat.beq 4 3 = false from rfl, show Nat.beq 4 4 = true from rfl]
    · have h3 : ¬ n < 19 := by omega
      have h4 : n > 19 := by omega
      simp [h, h3, h4, show Nat.beq 4 0 = false from rfl, show Nat.beq 4 1 = false from rfl, show Nat.beq 4 2 = false from rfl, show Nat.beq 4 3 = false from rfl, show Nat.beq 4 4 = true from rfl]
  · by_cases h : n = 23
    · subst h; simp [show Nat.beq 5 0 = false from rfl, show Nat.beq 5 1 = false from rfl, show Nat.beq 5 2 = false from rfl, show Nat.beq 5 3 = false from rfl, show Nat.beq 5 4 = false from rfl, show Nat.beq 5 5 = true from rfl]
    · by_cases h3 : n < 23
      · simp [h, h3, show Nat.beq 5 0 = false from rfl, show Nat.beq 5 1 = false from rfl, show Nat.beq 5 2 = false from rfl, show Nat.beq 5 3 = false from rfl, show Nat.beq 5 4 = false from rfl, show Nat.beq 5 5 = true from rfl]
      · have h4 : n > 23 := by omega
        simp [h, h3, h4, show Nat.beq 5 0 = false from rfl, show Nat.beq 5 1 = false from rfl, show Nat.beq 5 2 = false from rfl, show Nat.beq 5 3 = false from rfl, show Nat.beq 5 4 = false from rfl, show Nat.beq 5 5 = true from rfl]
theorem wrongP {t n : Int} (ht : 1 ≤ t ∧ t ≤ 5) (hn : 19 ≤ n) : F38.f (t, n) = some (!fit n t, ()) := by
  unfold F38.f F38.fP fit
  have hc : t = 1 ∨ t = 2 ∨ t = 3 ∨ t = 4 ∨ t = 5 := by omega
  rcases hc with rfl | rfl | rfl | rfl | rfl
  · by_cases h : 29 ≤ n
    · have : ¬ n < 29 := by omega
      simp [h, this]
    · have : n < 29 := by omega
      simp [h, this]
  · by_cases h : 23 ≤ n
    · have : ¬ n < 23 := by omega
      simp [h, this]
    · have : n < 23 := by omega
      simp [h, this]
  · by_cases h : 21 ≤ n
    · have : ¬ n < 21 := by omega
      simp [h, this]
    · have : n < 21 := by omega
      simp [h, this]
  · by_cases h : n = 19
    · subst h; simp
    · have h3 : ¬ n < 19 := by omega
      have h4 : n > 19 := by omega
      simp [h, h3, h4]
  · by_cases h : n = 23
    · subst h; simp
    · by_cases h3 : n < 23
      · simp [h, h3]
      · have h4 : n > 23 := by omega
        simp [h, h3, h4]
theorem rep16 : F21.l2 () () = some (List.replicate 16 255, ()) := by
  have h : F39.f ([255], 16) = some (List.replicate 16 255, ()) := by
    have hl : F39.l1 () ([255, 0, 0, 0, 0, 0, 0, 0, 0, 0, 0, 0, 0, 0, 0, 0], 1) = some (List.replicate 16 255, ()) := iterO_of ⟨5, by kernel_rfl⟩
    have e : F39.f ([255], 16) = (F39.l1 () ([255, 0, 0, 0, 0, 0, 0, 0, 0, 0, 0, 0, 0, 0, 0, 0], 1)).bind fun r0 =>
        bif decide (0 + List.length r0.fst ≤ List.length r0.fst) && true then some (List.take (List.length r0.fst) (List.drop 0 r0.fst), PUnit.unit) else none := by
      show F39.fP F39.l1 ([255], 16) = _
      generalize F39.l1 = g
      kernel_rfl
    rw [e, hl]
    rfl
  unfold F21.l2 F21.r2 F21.r2P
  simp only [h, Option.bind_some, le_all, cond_true, Bool.and_true, take_all]
theorem twoW {w : List Int} {n : Int} (hn : 0 ≤ n ∧ n ≤ 65535) (hw : w.length ≤ 1000) : F42.l1 ([n], 1) ((w, [], 0, true), 0) = some ((), w ++ [n / 256, n % 256], [], 0, true) := by
  refine iterO_of ⟨2, ?_⟩
  have r0 : F42.r1 ([n], 1) ((w, [], 0, true), 0) = some (.inl ((w ++ [n / 256, n % 256], [], 0, true), 1)) := by
    unfold F42.r1 F42.r1P
    have e1 : IntKind.u8.wrap (Int.fdiv n 256) = n / 256 := by rw [Int.fdiv_eq_ediv_of_nonneg _ (by omega), IntKind.wrap_u8]; omega
    have e2 : IntKind.u8.wrap n = n % 256 := by rw [IntKind.wrap_u8]
    have c1 : decide (w.length + 2 ≤ 1073741824) = true := decide_eq_true (by omega)
    have c2 : decide (0 + (w.length + 2) ≤ (w ++ [n / 256, n % 256]).length) = true := decide_eq_true (by simp)
    have e3 : (w ++ [n / 256, n % 256]).take (w.length + 2) = w ++ [n / 256, n % 256] := List.take_of_length_le (by simp)
    have e0 : [n].getD (0 + (0 : Int).toNat) 0 = n := rfl
    have d1 : decide ((0 : Int) < 1) = true := rfl
    have d2 : decide ((0 : Int) ≤ 0 ∧ (0 : Int) < ((([n] : List Int).length : Nat) : Int) ∧ 0 < ([n] : List Int).length) = true := rfl
    have d3 : decide (0 + (0 : Int).toNat < ([n] : List Int).length) = true := rfl
    simp only [d1, d2, d3, e0, e1, e2, c1, c2, e3, le_all, cond_true, cond_false, Bool.not_true, Bool.and_true, beq_self_eq_true, List.take_length, List.drop_zero]
    rfl
  rw [iterN_step, r0, scR_inl, iterN_step]
  rfl
theorem writeP {t : Int} {m : List Int} {n : Int} (hn : 0 ≤ n ∧ n ≤ 65535) (hm : m.length ≤ 5000) : F21.l3 ((t, m), n) (List.replicate 16 255) = some ((ahead n t ++ m, 0), ()) := by
  unfold F21.l3 F21.r3 F21.r3P
  have e16 : List.take (List.replicate 16 (255 : Int)).length (List.replicate 16 (255 : Int)) = List.replicate 16 255 := List.take_length
  have c1 : decide ((List.replicate 16 (255 : Int)).length = 0) = false := rfl
  have c2 : decide ((List.replicate 16 (255 : Int)).length ≤ 1073741824) = true := rfl
  have tw := twoW (w := List.replicate 16 255) hn (by simp)
  have en : IntKind.u16.wrap n = n := u16w hn
  generalize hw : List.replicate 16 (255 : Int) ++ [n / 256, n % 256] = w at tw
  have hwl : w.length = 18 := by rw [← hw]; simp
  have c3 : decide (w.length + 1 / OfNat.ofNat 1 ≤ 1073741824) = true := decide_eq_true (by rw [hwl]; decide)
  have c4 : decide (w.length + 1 / OfNat.ofNat 1 + m.length ≤ 1073741824) = true := decide_eq_true (by rw [hwl]; show 18 + 1 + m.length ≤ _; omega)
  have c5 : decide (0 + (w.length + 1 / OfNat.ofNat 1) ≤ (w ++ [t]).length) = true := decide_eq_true (by rw [List.length_append, hwl]; show 0 + (18 + 1) ≤ 18 + 1; omega)
  have e3 : (w ++ [t]).take (w.length + 1 / OfNat.ofNat 1) = w ++ [t] := List.take_of_length_le (by rw [List.length_append, hwl]; show 18 + 1 ≤ 18 + 1; omega)
  have c6 : decide (0 + (w.length + 1 / OfNat.ofNat 1 + m.length) ≤ (w ++ [t] ++ m).length) = true := decide_eq_true (by rw [List.length_append, List.length_append, hwl]; show 0 + (18 + 1 + m.length) ≤ 18 + 1 + m.length; omega)
  have e4 : (w ++ [t] ++ m).take (w.length + 1 / OfNat.ofNat 1 + m.length) = w ++ [t] ++ m := List.take_of_length_le (by rw [List.length_append, List.length_append, hwl]; show 18 + 1 + m.length ≤ 18 + 1 + m.length; omega)
  have ha : ahead n t ++ m = w ++ [t] ++ m := by rw [← hw]; simp [ahead]
  have done : F43.f (w ++ [t] ++ m, [], 0, true) = some ((w ++ [t] ++ m, 0), w ++ [t] ++ m, [], 0, true) := by
    unfold F43.f F43.fP
    have cl := clone (l := w ++ [t] ++ m) (by rw [List.length_append, List.length_append, hwl]; simp; omega)
    simp only [Bool.not_true, cond_false, bne_self_eq_false, le_all, cond_true, Bool.and_true, List.take_length, cl, Option.bind_some, take_all]
    rfl
  have n0 : ∀ (α : Type), List.take ([] : List α).length (List.drop 0 ([] : List α)) = [] := fun _ => rfl
  have l0 : ∀ (α : Type), decide (0 + ([] : List α).length ≤ ([] : List α).length) = true := fun _ => rfl
  simp only [le_all, cond_true, cond_false, e16, c1, c2, Bool.and_true, List.nil_append, take_all, en, tw, Option.bind_some, Bool.not_true, beq_self_eq_true, c3, c4, c5, c6, e3, e4, List.take_length, List.drop_zero, n0, l0, done, ha]
theorem bytesP {t : Int} {m : List Int} (ht : 0 ≤ t ∧ t ≤ 255) (hm : m.length ≤ 5000) : F21.f (t, m) = some (lay t m, ()) := by
  unfold F21.f F21.fP lay
  have w : IntKind.i64.wrap (19 + (m.length : Int)) = 19 + (m.length : Int) := wrap64_id (by omega)
  simp only [le_all, cond_true, Bool.and_true, List.take_length, w, badP (m := m) ht (show 19 ≤ 19 + (m.length : Int) by omega), Option.bind_some]
  cases hb : bad (19 + (m.length : Int)) t with
  | true => simp only [cond_true, if_true]
  | false =>
    simp only [cond_false, Bool.false_eq_true, if_false]
    by_cases hl : 4096 < 19 + (m.length : Int)
    · rw [if_pos hl, decide_eq_true (show 19 + (m.length : Int) > 4096 from hl)]
      rfl
    · rw [if_neg hl, decide_eq_false (show ¬ 19 + (m.length : Int) > 4096 from hl)]
      simp only [cond_false, rep16, Option.bind_some, le_all, cond_true, take_all, writeP (t := t) (m := m) (n := 19 + (m.length : Int)) (by omega) hm]
theorem ones22 : F22.l1 () ([], 0) = some (List.replicate 16 255, ()) := iterO_of ⟨17, by kernel_rfl⟩
theorem refP {t : Int} {m : List Int} (ht : 0 ≤ t ∧ t ≤ 255) (hm : m.length ≤ 5000) : F22.f (t, m) = some (lay t m, ()) := by
  unfold F22.f F22.fP lay
  have w : IntKind.i64.wrap (19 + (m.length : Int)) = 19 + (m.length : Int) := wrap64_id (by omega)
  by_cases h1 : t < 1
  · have hb : bad (19 + (m.length : Int)) t = true := by unfold bad; rw [decide_eq_true h1]; rfl
    rw [if_pos hb]
    simp only [decide_eq_true h1, cond_true]
  by_cases h2 : 5 < t
  · have hb : bad (19 + (m.length : Int)) t = true := by unfold bad; rw [decide_eq_true h2]; simp
    rw [if_pos hb]
    simp only [decide_eq_false h1, decide_eq_true (show t > 5 from h2), cond_true, cond_false]
  have hbad : bad (19 + (m.length : Int)) t = !fit (19 + (m.length : Int)) t := by unfold bad; rw [decide_eq_false h1, decide_eq_false h2]; rfl
  simp only [decide_eq_false h1, decide_eq_false (show ¬ t > 5 from h2), cond_false, w, wrongP (t := t) (n := 19 + (m.length : Int)) (by omega) (by omega), Option.bind_some, hbad]
  cases hf : fit (19 + (m.length : Int)) t with
  | false => simp only [Bool.not_false, cond_true, if_true]
  | true =>
    simp only [Bool.not_true, cond_false, Bool.false_eq_true, if_false]
    by_cases hl : 4096 < 19 + (m.length : Int)
    · rw [if_pos hl, decide_eq_true (show 19 + (m.length : Int) > 4096 from hl)]
      rfl
    · rw [if_neg hl, decide_eq_false (show ¬ 19 + (m.length : Int) > 4096 from hl)]
      have e1 : IntKind.u8.wrap (IntKind.i64.wrap ((19 + (m.length : Int)).tdiv 256)) = (19 + (m.length : Int)) / 256 := by
        rw [Int.tdiv_eq_ediv_of_nonneg (by omega), wrap64_id (by omega), IntKind.wrap_u8]; omega
      have e2 : IntKind.u8.wrap ((19 + (m.length : Int)).tmod 256) = (19 + (m.length : Int)) % 256 := by
        rw [Int.tmod_eq_emod_of_nonneg (by omega), IntKind.wrap_u8]; omega
      have c3 : decide ((List.replicate 16 (255 : Int)).length + 3 / OfNat.ofNat 1 ≤ 1073741824) = true := rfl
      have c4 : decide ((List.replicate 16 (255 : Int)).length + 3 / OfNat.ofNat 1 + m.length ≤ 1073741824) = true := decide_eq_true (by show 16 + 3 + m.length ≤ _; omega)
      have c5 : decide (0 + ((List.replicate 16 (255 : Int)).length + 3 / OfNat.ofNat 1) ≤ (List.replicate 16 (255 : Int) ++ [(19 + (m.length : Int)) / 256, (19 + (m.length : Int)) % 256, t]).length) = true := rfl
      have e3 : (List.replicate 16 (255 : Int) ++ [(19 + (m.length : Int)) / 256, (19 + (m.length : Int)) % 256, t]).take ((List.replicate 16 (255 : Int)).length + 3 / OfNat.ofNat 1) = List.replicate 16 (255 : Int) ++ [(19 + (m.length : Int)) / 256, (19 + (m.length : Int)) % 256, t] := rfl
      have c6 : decide (0 + ((List.replicate 16 (255 : Int)).length + 3 / OfNat.ofNat 1 + m.length) ≤ (List.replicate 16 (255 : Int) ++ [(19 + (m.length : Int)) / 256, (19 + (m.length : Int)) % 256, t] ++ m).length) = true := decide_eq_true (by rw [List.length_append]; show 0 + (16 + 3 + m.length) ≤ 19 + m.length; omega)
      have e4 : (List.replicate 16 (255 : Int) ++ [(19 + (m.length : Int)) / 256, (19 + (m.length : Int)) % 256, t] ++ m).take ((List.replicate 16 (255 : Int)).length + 3 / OfNat.ofNat 1 + m.length) = List.replicate 16 (255 : Int) ++ [(19 + (m.length : Int)) / 256, (19 + (m.length : Int)) % 256, t] ++ m := List.take_of_length_le (by rw [List.length_append]; show 19 + m.length ≤ 16 + 3 + m.length; omega)
      simp only [cond_false, ones22, Option.bind_some, c3, c4, le_all, cond_true, Bool.and_true, take_all, List.take_length, e1, e2, c5, e3, c6, e4, List.drop_zero]
      rfl
end Go.Proofs.YtnmgbheaabdhlaaDoor.PE

/- What comes of function 23 of this program, consulate.consulatelaw03.FrameKnown$1, as the engine gives it. -/
namespace Go.Proofs.YtnmgbheaabdhlaaDoor.F23
open Go Go.Proofs Go.Proofs.YtnmgbheaabdhlaaDoor Go.RowKit Go.Proofs.YtnmgbheaabdhlaaDoor.Sx
set_option linter.unusedVariables false
set_option maxRecDepth 100000
def tab (x9 : F9.FT) (x16 : F16.FT) (x10 : F10.FT) (x11 : F11.FT) : List (FuncId × Sx.Spec) := [(9, specF ⟨F9.i, F9.o, x9⟩), (16, specF ⟨F16.i, F16.o, x16⟩), (10, specF ⟨F10.i, F10.o, x10⟩), (11, specF ⟨F11.i, F11.o, x11⟩)]
def pls (x9 : F9.FT) (x16 : F16.FT) (x10 : F10.FT) (x11 : F11.FT) : List (FuncId × Plan) := []
@[reducible] def k1 : Sh := .sc (.int .i64) (.sc (.int .u8) .nil)
@[reducible] def i1 : Sh := .pt true 61 (.sl true 5 (.sc (.int .u8) .nil) (.sc (.int .u8) (.sc (.int .u8) (.sl true 5 (.sc (.int .u8) .nil) (.sc .bool .nil))))) .nil
@[reducible] def o1 : Sh := .nil
abbrev G1 := (Int × Int) → ((List (Int) × Int × Int × List (Int) × Bool)) → Option (Unit × ((List (Int) × Int × Int × List (Int) × Bool)))
def u1 (F : G1) : Un := ⟨25, [0, 1], k1, [5], i1, [], o1, [4, 5], [(.normal, [])], F⟩
@[reducible] def k2 : Sh := .nil
@[reducible] def i2 : Sh := .pt true 61 (.sl true 5 (.sc (.int .u8) .nil) (.sc (.int .u8) (.sc (.int .u8) (.sl true 5 (.sc (.int .u8) .nil) (.sc .bool .nil))))) .nil
@[reducible] def o2 : Sh := .pt true 30 (.sc (.int .u8) (.sc (.int .u8) .nil)) .nil
abbrev G2 := Unit → ((List (Int) × Int × Int × List (Int) × Bool)) → Option (((Int × Int)) × ((List (Int) × Int × Int × List (Int) × Bool)))
def u2 (F : G2) : Un := ⟨25, [], k2, [5], i2, [6], o2, [4], [(.normal, [true])], F⟩
@[reducible] def i : Sh := .sc (.int .i64) (.sc (.int .u8) .nil)
@[reducible] def o : Sh := .ag none (.sc (.int .u8) (.sc (.int .u8) .nil)) .nil
abbrev FT := (Int × Int) → Option (((Int × Int)) × Unit)
theorem tabS : AllS Tryd.prog (tab F9.f F16.f F10.f F11.f) := ⟨F9.spec, F16.spec, F10.spec, F11.spec, trivial⟩
theorem plsP : AllP Tryd.prog (pls F9.f F16.f F10.f F11.f) := trivial
theorem mixed : Tryd.prog.follows .mixedOrders = true := by kernel_rfl
def r1P (x9 : F9.FT) (x16 : F16.FT) (x10 : F10.FT) (x11 : F11.FT) : G1 := fun (n, t) (i0_2, i1_2, i2_2, i3_2, i4_2) =>
    (x16 ((16 : Int), [IntKind.u8.wrap (n.fdiv (256 : Int)), IntKind.u8.wrap n, t])).bind fun r0 =>
      bif decide ((0 : Nat) + List.length r0.fst ≤ List.length r0.fst) && true then
       (x10 ((i0_2, i1_2, i2_2, i3_2, i4_2), List.take (List.length r0.fst) (List.drop (0 : Nat) r0.fst))).bind fun r1 =>
       some (PUnit.unit, r1.snd)
      else none
theorem r1e (x9 : F9.FT) (x16 : F16.FT) (x10 : F10.FT) (x11 : F11.FT) (kd : Int × Int) (d : (List (Int) × Int × Int × List (Int) × Bool)) : unitF (tabC Tryd.prog (tab x9 x16 x10 x11) (pls x9 x16 x10 x11) 100 12) 100 .none (u1 fun _ _ => none) (codeAt [1, 1, 0] (bodyOf Tryd.prog 23)) kd d = r1P x9 x16 x10 x11 kd d := by kernel_rfl
noncomputable def r1 : G1 := r1P F9.f F16.f F10.f F11.f
noncomputable def l1 : G1 := r1
theorem ok1 : UnOk Tryd.prog (u1 l1) (codeAt [1, 1, 0] (bodyOf Tryd.prog 23)) :=
  blockT (p := .none) (fuel := 100) (depth := 12) mixed tabS plsP trivial (fun kd d => Eq.trans (by kernel_rfl) ( r1e F9.f F16.f F10.f F11.f kd d))
def r2P (x9 : F9.FT) (x16 : F16.FT) (x10 : F10.FT) (x11 : F11.FT) : G2 := fun () (i0_2, i1_2, i2_2, i3_2, i4_2) =>
    (x11 (i0_2, i1_2, i2_2, i3_2, i4_2)).bind fun r0 => some ((r0.fst.fst.fst, r0.fst.fst.snd), r0.snd)
theorem r2e (x9 : F9.FT) (x16 : F16.FT) (x10 : F10.FT) (x11 : F11.FT) (kd : Unit) (d : (List (Int) × Int × Int × List (Int) × Bool)) : unitF (tabC Tryd.prog (tab x9 x16 x10 x11) (pls x9 x16 x10 x11) 100 12) 100 .none (u2 fun _ _ => none) (codeAt [1, 1, 1, 0] (bodyOf Tryd.prog 23)) kd d = r2P x9 x16 x10 x11 kd d := by kernel_rfl
noncomputable def r2 : G2 := r2P F9.f F16.f F10.f F11.f
noncomputable def l2 : G2 := r2
theorem ok2 : UnOk Tryd.prog (u2 l2) (codeAt [1, 1, 1, 0] (bodyOf Tryd.prog 23)) :=
  blockT (p := .none) (fuel := 100) (depth := 12) mixed tabS plsP trivial (fun kd d => Eq.trans (by kernel_rfl) ( r2e F9.f F16.f F10.f F11.f kd d))
def fP (x9 : F9.FT) (x16 : F16.FT) (x10 : F10.FT) (x11 : F11.FT) (l1 : G1) (l2 : G2) : FT := fun (n, t) =>
    (x9 PUnit.unit).bind fun r0 =>
      bif Option.isSome r0.fst then
       (l1 (n, t) (Option.getD r0.fst ([], (0 : Int), (0 : Int), [], false))).bind fun r1 =>
       (l2 PUnit.unit r1.snd).bind fun r2 => some ((r2.fst.fst, r2.fst.snd), PUnit.unit)
      else none
theorem fe (x9 : F9.FT) (x16 : F16.FT) (x10 : F10.FT) (x11 : F11.FT) (l1 : G1) (l2 : G2) (d : Int × Int) : bodyF (tabC Tryd.prog (tab x9 x16 x10 x11) ((23, (.node .none (.node .none (.node (.unit (u1 l1)) (.node (.unit (u2 l2)) .none))))) :: pls x9 x16 x10 x11) 100 12) 100 23 i o d = fP x9 x16 x10 x11 l1 l2 d := by kernel_rfl
noncomputable def f : FT := fP F9.f F16.f F10.f F11.f l1 l2
def plan (l1 : G1) (l2 : G2) : Plan := (.node .none (.node .none (.node (.unit (u1 l1)) (.node (.unit (u2 l2)) .none))))
theorem planOk : PlanOk Tryd.prog (plan l1 l2) (bodyOf Tryd.prog 23) := (planOk_of (plan l1 l2) _ [([1, 1, 0], u1 l1), ([1, 1, 1, 0], u2 l2)] rfl ⟨ok1, ok2, trivial⟩)
theorem h1 (d : Int × Int) : bodyF (tabC Tryd.prog (tab F9.f F16.f F10.f F11.f) ((23, plan l1 l2) :: pls F9.f F16.f F10.f F11.f) 100 12) 100 23 i o d = fP F9.f F16.f F10.f F11.f l1 l2 d := by
  generalize F9.f = y0
  generalize F16.f = y1
  generalize F10.f = y2
  generalize F11.f = y3
  generalize l1 = y4
  generalize l2 = y5
  exact fe y0 y1 y2 y3 y4 y5 d
theorem h2 (d : Int × Int) : bodyF (tabC Tryd.prog (tab F9.f F16.f F10.f F11.f) ((23, plan l1 l2) :: pls F9.f F16.f F10.f F11.f) 100 12) 100 23 i o d = f d := by rw [show f d = fP F9.f F16.f F10.f F11.f l1 l2 d by unfold f; rfl]; exact h1 d
theorem funcT' {P : Program} (hm : P.follows .mixedOrders = true) {K : List (FuncId × Sx.Spec)} {pl : List (FuncId × Plan)} (hS : AllS P K) (hP : AllP P pl) {i o : Sh} {F : Den i → Option (Den o × Den (posts i))} (hF : ∀ d, bodyF (tabC P K pl 100 12) 100 23 i o d = F d) : MeetsF P 23 ⟨i, o, F⟩ := funcT hm hS hP (c := ⟨i, o, F⟩) hF
theorem meets : MeetsF Tryd.prog 23 ⟨i, o, f⟩ := by
  have h : ∀ d : Den i, bodyF (tabC Tryd.prog (tab F9.f F16.f F10.f F11.f) ((23, plan l1 l2) :: pls F9.f F16.f F10.f F11.f) 100 12) 100 23 i o d = f d := h2
  exact funcT' (P := Tryd.prog) (K := tab F9.f F16.f F10.f F11.f) (pl := (23, plan l1 l2) :: pls F9.f F16.f F10.f F11.f) (i := i) (o := o) (F := f) mixed tabS ⟨planOk, plsP⟩ h
theorem spec : SpecOk Tryd.prog (fun _ => none) 23 (specF ⟨i, o, f⟩) := specF_ok (by kernel_rfl) meets
end Go.Proofs.YtnmgbheaabdhlaaDoor.F23

/- What comes of function 24 of this program, consulate.consulatelaw03.FrameKnown$2, as the engine gives it. -/
namespace Go.Proofs.YtnmgbheaabdhlaaDoor.F24
open Go Go.Proofs Go.Proofs.YtnmgbheaabdhlaaDoor Go.RowKit Go.Proofs.YtnmgbheaabdhlaaDoor.Sx
set_option linter.unusedVariables false
set_option maxRecDepth 100000
def tab (x21 : F21.FT) : List (FuncId × Sx.Spec) := [(21, specF ⟨F21.i, F21.o, x21⟩)]
def pls (x21 : F21.FT) : List (FuncId × Plan) := []
@[reducible] def i : Sh := .sc (.int .u8) (.sc (.int .i64) .nil)
@[reducible] def o : Sh := .sc (.int .i64) .nil
abbrev FT := (Int × Int) → Option (Int × Unit)
theorem tabS : AllS Tryd.prog (tab F21.f) := ⟨F21.spec, trivial⟩
theorem plsP : AllP Tryd.prog (pls F21.f) := trivial
theorem mixed : Tryd.prog.follows .mixedOrders = true := by kernel_rfl
def fP (x21 : F21.FT) : FT := fun (t, n) =>
    bif
       decide
       ((0 : Int) ≤ n ∧
       n ≤ n ∧ n ≤ (1073741824 : Int) ∧ (↑(OfNat.ofNat (1 : Nat)) : Int) * n ≤ (281474976710656 : Int)) then
      bif decide ((0 : Nat) + n.toNat ≤ (List.replicate n.toNat (0 : Int)).length) && true then
       (x21 (t, List.take n.toNat (List.drop (0 : Nat) (List.replicate n.toNat (0 : Int))))).bind fun r0 =>
       some (r0.fst.snd, PUnit.unit)
      else none
    else none
theorem fe (x21 : F21.FT) (d : Int × Int) : bodyF (tabC Tryd.prog (tab x21) ((24, .none) :: pls x21) 100 12) 100 24 i o d = fP x21 d := by kernel_rfl
noncomputable def f : FT := fP F21.f
def plan : Plan := .none
theorem planOk : PlanOk Tryd.prog (plan) (bodyOf Tryd.prog 24) := (planOk_of (plan) _ [] (by kernel_rfl) trivial)
theorem meets : MeetsF Tryd.prog 24 ⟨i, o, f⟩ :=
  funcT (fuel := 100) (depth := 12) (pl := (24, plan) :: pls F21.f) mixed tabS ⟨planOk, plsP⟩ (fun d => fe F21.f d)
theorem spec : SpecOk Tryd.prog (fun _ => none) 24 (specF ⟨i, o, f⟩) := specF_ok (by kernel_rfl) meets
end Go.Proofs.YtnmgbheaabdhlaaDoor.F24

/- Chapter 3: the answers that the examples ask, as functions that can be computed. -/
namespace Go.Proofs.YtnmgbheaabdhlaaDoor.PL
open Go Go.Proofs Go.Proofs.YtnmgbheaabdhlaaDoor Go.Proofs.YtnmgbheaabdhlaaDoor.Sx Go.Proofs.YtnmgbheaabdhlaaDoor.PA Go.Proofs.YtnmgbheaabdhlaaDoor.PB Go.Proofs.YtnmgbheaabdhlaaDoor.PC Go.Proofs.YtnmgbheaabdhlaaDoor.PD Go.Proofs.YtnmgbheaabdhlaaDoor.PG Go.Proofs.YtnmgbheaabdhlaaDoor.PE
set_option linter.unusedSimpArgs false
set_option linter.unusedVariables false
theorem mono {P : Program} {f : FuncId} {i o : Sh} {F F' : Den i → Option (Den o × Den (posts i))} (h : MeetsF P f ⟨i, o, F⟩) (hle : ∀ d r, F' d = some r → F d = some r) : MeetsF P f ⟨i, o, F'⟩ := fun w d vs Ps Fo R r h1 h2 h3 h4 h5 => h w d vs Ps Fo R r h1 h2 h3 h4 (hle d r h5)
def hdr (n t : Int) : List Int := List.replicate 16 255 ++ [IntKind.u8.wrap (n.fdiv 256), IntKind.u8.wrap n, t]
def code (n t : Int) : Int × Int := match hd (hdr n t) with
  | .fault s _ => (1, s)
  | _ => (0, 0)
theorem hdr_bytes {n t : Int} (ht : 0 ≤ t ∧ t ≤ 255) : Bytes (hdr n t) := by
  refine Bytes.append (fun x hx => by have := List.eq_of_mem_replicate hx; omega) ?_
  intro x hx
  simp only [List.mem_cons, List.not_mem_nil, or_false] at hx
  rcases hx with rfl | rfl | rfl
  · rw [IntKind.wrap_u8]; omega
  · rw [IntKind.wrap_u8]; omega
  · exact ht
theorem codeP {n t : Int} (ht : 0 ≤ t ∧ t ≤ 255) : F23.f (n, t) = some (code n t, ()) := by
  have o : F16.f ((16 : Int), [IntKind.u8.wrap (n.fdiv 256), IntKind.u8.wrap n, t]) = some (hdr n t, ()) := onesP (n := 16) (.inl rfl) (by simp)
  have hB := hdr_bytes (n := n) ht
  have hl : (hdr n t).length = 19 := by unfold hdr; simp
  obtain ⟨ms, st, h1, h2⟩ := chunk (a := []) (c := hdr n t) (by simpa using hB) (by simp [hl])
  rw [parse_nil] at h1 h2
  simp only [List.nil_append] at h2
  have hst : ∃ x d, st = (x, (code n t).1, (code n t).2, d, true) ∧ d.length ≤ 2 := by
    unfold code
    cases hh : hd (hdr n t) with
    | wait => rw [parse_wait hh] at h2; cases h2; exact ⟨_, _, rfl, by simp⟩
    | fault s d => rw [parse_fault hh] at h2; cases h2; exact ⟨_, _, rfl, (hd_fault hh).1⟩
    | msg k t' =>
      have hm := hd_msg hh
      have hd0 : (hdr n t).drop k = [] := List.drop_of_length_le (by omega)
      rw [parse_msg hh, hd0, parse_nil] at h2; cases h2; exact ⟨_, _, rfl, by simp⟩
  obtain ⟨x, d, rfl, hd2⟩ := hst
  have n1 : F23.l1 (n, t) (W []) = some ((), (x, (code n t).1, (code n t).2, d, true)) := by
    unfold F23.l1 F23.r1 F23.r1P
    simp only [o, Option.bind_some, le_all, cond_true, Bool.and_true, take_all, h1]
  have n2 : F23.l2 () (x, (code n t).1, (code n t).2, d, true) = some (((code n t).1, (code n t).2), (x, (code n t).1, (code n t).2, d, true)) := by
    unfold F23.l2 F23.r2 F23.r2P
    simp only [faultP (b := x) (c := (code n t).1) (s := (code n t).2) (d := d) (by omega), Option.bind_some]
  unfold F23.f F23.fP
  simp only [newP, Option.bind_some, Option.isSome_some, Option.getD_some, cond_true, n1, n2]
def c23 : F23.FT := fun (n, t) => bif decide (0 ≤ t) && decide (t ≤ 255) then some (code n t, ()) else none
theorem meets23 : MeetsF Tryd.prog 23 ⟨F23.i, F23.o, c23⟩ := mono F23.meets (by
  rintro ⟨n, t⟩ r h
  have h : (bif decide (0 ≤ (t : Int)) && decide ((t : Int) ≤ 255) then some (code n t, ()) else none) = some r := h
  cases hc : decide (0 ≤ (t : Int)) && decide ((t : Int) ≤ 255) with
  | false => rw [hc] at h; cases h
  | true =>
    rw [hc] at h
    simp only [Bool.and_eq_true, decide_eq_true_eq] at hc
    rw [← show some (code n t, ()) = some r from h]
    exact codeP hc)
def err (t n : Int) : Int := bif bad (19 + n) t then 1 else bif decide (4096 < 19 + n) then 3 else 0
theorem layP {t n : Int} (ht : 0 ≤ t ∧ t ≤ 255) (hn : 0 ≤ n ∧ n ≤ 5000) : F24.f (t, n) = some (err t n, ()) := by
  obtain ⟨k, rfl⟩ := Int.eq_ofNat_of_zero_le hn.1
  have hn2 : (k : Int) ≤ 5000 := hn.2
  unfold F24.f F24.fP
  have c1 : decide ((0 : Int) ≤ (k : Int) ∧ (k : Int) ≤ (k : Int) ∧ (k : Int) ≤ 1073741824 ∧ ((OfNat.ofNat 1 : Nat) : Int) * (k : Int) ≤ 281474976710656) = true := decide_eq_true (by show _ ∧ _ ∧ _ ∧ ((1 : Nat) : Int) * (k : Int) ≤ _; omega)
  have c1' : decide ((0 : Int) ≤ (k : Int) ∧ (k : Int) ≤ (k : Int) ∧ (k : Int) ≤ 1073741824 ∧ (OfNat.ofNat 1 : Int) * (k : Int) ≤ 281474976710656) = true := c1
  have e1 : (k : Int).toNat = k := by omega
  have hl : (List.replicate k (0 : Int)).length = k := List.length_replicate
  have c2 : decide (0 + k ≤ (List.replicate k (0 : Int)).length) = true := decide_eq_true (by omega)
  have e2 : (List.replicate k (0 : Int)).take k = List.replicate k 0 := List.take_of_length_le (by omega)
  have b := bytesP (t := t) (m := List.replicate k 0) ht (by rw [hl]; omega)
  simp only [c1, c1', e1, c2, e2, cond_true, Bool.and_true, List.drop_zero, b, Option.bind_some]
  unfold lay err
  rw [hl]
  cases bad (19 + (k : Int)) t with
  | true => rfl
  | false =>
    simp only [Bool.false_eq_true, if_false, cond_false]
    by_cases h : 4096 < 19 + (k : Int)
    · rw [if_pos h, decide_eq_true h]; rfl
    · rw [if_neg h, decide_eq_false h]; rfl
def c24 : F24.FT := fun (t, n) => bif decide (0 ≤ t) && decide (t ≤ 255) && (decide (0 ≤ n) && decide (n ≤ 5000)) then some (err t n, ()) else none
theorem meets24 : MeetsF Tryd.prog 24 ⟨F24.i, F24.o, c24⟩ := mono F24.meets (by
  rintro ⟨t, n⟩ r h
  have h : (bif decide (0 ≤ (t : Int)) && decide ((t : Int) ≤ 255) && (decide (0 ≤ (n : Int)) && decide ((n : Int) ≤ 5000)) then some (err t n, ()) else none) = some r := h
  cases hc : decide (0 ≤ (t : Int)) && decide ((t : Int) ≤ 255) && (decide (0 ≤ (n : Int)) && decide ((n : Int) ≤ 5000)) with
  | false => rw [hc] at h; cases h
  | true =>
    rw [hc] at h
    simp only [Bool.and_eq_true, decide_eq_true_eq] at hc
    rw [← show some (err t n, ()) = some r from h]
    exact layP hc.1 hc.2)
end Go.Proofs.YtnmgbheaabdhlaaDoor.PL
