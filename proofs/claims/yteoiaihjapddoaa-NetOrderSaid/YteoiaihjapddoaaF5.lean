/- What comes of function 5 of this program, consulate.consulatelaw29.NetOrder, as the engine gives it. -/
import Derived.Test.YteoiaihjapddoaaChecked
import Derived.Test.YteoiaihjapddoaaZN
import Derived.Test.YteoiaihjapddoaaF9
import Derived.Test.YteoiaihjapddoaaF10
import Derived.Test.YteoiaihjapddoaaF15
import Derived.Test.YteoiaihjapddoaaF11
import Derived.Test.YteoiaihjapddoaaF13
import Derived.Test.YteoiaihjapddoaaF16
import Derived.Test.YteoiaihjapddoaaF12
import Derived.Test.YteoiaihjapddoaaF17
import Derived.Test.YteoiaihjapddoaaF18
import Derived.Test.YteoiaihjapddoaaF20
import Derived.Test.YteoiaihjapddoaaKA
namespace Go.Proofs.Yteoiaihjapddoaa.F5
open Go Go.Proofs Go.Proofs.Yteoiaihjapddoaa Go.RowKit Go.Proofs.Yteoiaihjapddoaa.Sx
set_option linter.unusedVariables false
set_option maxRecDepth 100000
def tab (x9 : F9.FT) (x10 : F10.FT) (x15 : F15.FT) (x11 : F11.FT) (x13 : F13.FT) (x16 : F16.FT) (x12 : F12.FT) (x17 : F17.FT) (x18 : F18.FT) (x20 : F20.FT) : List (FuncId × Sx.Spec) := [(9, specF ⟨F9.i, F9.o, x9⟩), (10, specF ⟨F10.i, F10.o, x10⟩), (15, specF ⟨F15.i, F15.o, x15⟩), (11, specF ⟨F11.i, F11.o, x11⟩), (13, specF ⟨F13.i, F13.o, x13⟩), (16, specF ⟨F16.i, F16.o, x16⟩), (12, specF ⟨F12.i, F12.o, x12⟩), (17, specF ⟨F17.i, F17.o, x17⟩), (18, specF ⟨F18.i, F18.o, x18⟩), (20, specF ⟨F20.i, F20.o, x20⟩), (14, pureS saysS)]
def pls (x9 : F9.FT) (x10 : F10.FT) (x15 : F15.FT) (x11 : F11.FT) (x13 : F13.FT) (x16 : F16.FT) (x12 : F12.FT) (x17 : F17.FT) (x18 : F18.FT) (x20 : F20.FT) : List (FuncId × Plan) := []
@[reducible] def k1 : Sh := .pt true 40 (.sl true 5 (.sc (.int .u8) .nil) (.sl true 5 (.sc (.int .u8) .nil) .nil)) (.sc (.int .i64) (.sl false 5 (.sc (.int .u8) .nil) .nil))
@[reducible] def i1 : Sh := .nil
@[reducible] def o1 : Sh := .sc .bool .nil
abbrev G1 := ((List (Int) × List (Int)) × Int × List (Int)) → Unit → Option (Bool × Unit)
def u1 (F : G1) : Un := ⟨209, [6, 11, 12], k1, [], i1, [14], o1, [3, 4, 6, 7, 8, 11, 12, 13, 32, 33, 34], [(.normal, [true])], F⟩
@[reducible] def k2 : Sh := .sc (.int .i64) (.sl false 5 (.sc (.int .u8) .nil) (.sc .bool .nil))
@[reducible] def i2 : Sh := .pt true 40 (.sl true 5 (.sc (.int .u8) .nil) (.sl true 5 (.sc (.int .u8) .nil) .nil)) .nil
@[reducible] def o2 : Sh := .nil
abbrev G2 := (Int × List (Int) × Bool) → ((List (Int) × List (Int))) → Option (Unit × ((List (Int) × List (Int))))
def u2 (F : G2) : Un := ⟨209, [11, 12, 99], k2, [6], i2, [], o2, [3, 4, 6, 7, 8, 32, 33, 34], [(.normal, [])], F⟩
@[reducible] def k3 : Sh := .pt true 38 (.sc (.int .i64) (.sc (.int .i64) (.sc (.int .i64) (.sc (.int .i64) (.sl false 5 (.sc (.int .u8) .nil) .nil))))) (.sc (.int .i64) (.sc .bool .nil))
@[reducible] def i3 : Sh := .pt true 40 (.sl true 5 (.sc (.int .u8) .nil) (.sl true 5 (.sc (.int .u8) .nil) .nil)) (.sl true 5 (.sc (.int .u8) .nil) .nil)
@[reducible] def o3 : Sh := .sc (.int .i64) (.sc .bool .nil)
abbrev G3 := ((Int × Int × Int × Int × List (Int)) × Int × Bool) → ((List (Int) × List (Int)) × List (Int)) → Option ((Int × Bool) × ((List (Int) × List (Int))))
def u3 (F : G3) : Un := ⟨209, [10, 11, 141], k3, [6, 15], i3, [2], o3, [3, 4, 6, 7, 8, 32, 33, 34], [(.normal, [false]), (.ret, [true])], F⟩
@[reducible] def k4 : Sh := .sc (.int .i64) (.pt true 38 (.sc (.int .i64) (.sc (.int .i64) (.sc (.int .i64) (.sc (.int .i64) (.sl false 5 (.sc (.int .u8) .nil) .nil))))) (.sc (.int .i64) (.sl false 5 (.sc (.int .u8) .nil) (.sc (.int .i64) .nil))))
@[reducible] def i4 : Sh := .pt true 59 (.sl true 61 (.sc .bool (.sc (.int .i64) (.sl true 5 (.sc (.int .u8) .nil) (.sl true 5 (.sc (.int .u8) .nil) .nil)))) (.sc .bool .nil)) (.pt true 40 (.sl true 5 (.sc (.int .u8) .nil) (.sl true 5 (.sc (.int .u8) .nil) .nil)) (.sc .bool (.sc (.int .i64) .nil)))
@[reducible] def o4 : Sh := .sc (.int .i64) (.sc .bool (.sc .bool (.sc (.int .i64) .nil)))
abbrev G4 := (Int × (Int × Int × Int × Int × List (Int)) × Int × List (Int) × Int) → (((List (Bool × Int × List (Int) × List (Int))) × Bool) × (List (Int) × List (Int)) × Bool × Int) → Option ((Int × Bool × Bool × Int) × (((List (Bool × Int × List (Int) × List (Int))) × Bool) × (List (Int) × List (Int))))
def u4 (F : G4) : Un := ⟨209, [4, 10, 11, 12, 54], k4, [3, 6, 7, 8], i4, [2, 7, 8], o4, [3, 4, 6, 32, 33, 34], [(.normal, [false, true, true]), (.ret, [true, false, false])], F⟩
@[reducible] def k5 : Sh := .sc (.int .i64) (.sl false 38 (.sc (.int .i64) (.sc (.int .i64) (.sc (.int .i64) (.sc (.int .i64) (.sl false 5 (.sc (.int .u8) .nil) .nil))))) (.sc (.int .i64) .nil))
@[reducible] def i5 : Sh := .pt true 59 (.sl true 61 (.sc .bool (.sc (.int .i64) (.sl true 5 (.sc (.int .u8) .nil) (.sl true 5 (.sc (.int .u8) .nil) .nil)))) (.sc .bool .nil)) (.pt true 40 (.sl true 5 (.sc (.int .u8) .nil) (.sl true 5 (.sc (.int .u8) .nil) .nil)) (.sc .bool (.sc (.int .i64) (.sc (.int .i64) .nil))))
@[reducible] def o5 : Sh := .sc (.int .i64) (.sc .bool .nil)
abbrev G5 := (Int × (List (Int × Int × Int × Int × List (Int))) × Int) → (((List (Bool × Int × List (Int) × List (Int))) × Bool) × (List (Int) × List (Int)) × Bool × Int × Int) → Option ((Int × Bool) × (((List (Bool × Int × List (Int) × List (Int))) × Bool) × (List (Int) × List (Int))))
def u5 (F : G5) : Un := ⟨209, [4, 32, 33], k5, [3, 6, 7, 8, 34], i5, [2], o5, [3, 4, 6, 32, 33], [(.exit 0, [false]), (.ret, [true])], F⟩
@[reducible] def i : Sh := .sl false 38 (.sc (.int .i64) (.sc (.int .i64) (.sc (.int .i64) (.sc (.int .i64) (.sl false 5 (.sc (.int .u8) .nil) .nil))))) .nil
@[reducible] def o : Sh := .sc .bool .nil
abbrev FT := ((List (Int × Int × Int × Int × List (Int)))) → Option (Bool × Unit)
theorem tabS : AllS Try.prog (tab F9.f F10.f F15.f F11.f F13.f F16.f F12.f F17.f F18.f F20.f) := ⟨F9.spec, F10.spec, F15.spec, F11.spec, F13.spec, F16.spec, F12.spec, F17.spec, F18.spec, F20.spec, says_ok (by kernel_rfl) KA.tells, trivial⟩
theorem plsP : AllP Try.prog (pls F9.f F10.f F15.f F11.f F13.f F16.f F12.f F17.f F18.f F20.f) := trivial
theorem mixed : Try.prog.follows .mixedOrders = true := by kernel_rfl
def r1P (x9 : F9.FT) (x10 : F10.FT) (x15 : F15.FT) (x11 : F11.FT) (x13 : F13.FT) (x16 : F16.FT) (x12 : F12.FT) (x17 : F17.FT) (x18 : F18.FT) (x20 : F20.FT) : G1 := fun ((wait0, wait1), end0, b) () => bif decide ((0 : Int) ≤ IntKind.i64.wrap ((1 : Int) - end0) ∧ IntKind.i64.wrap ((1 : Int) - end0) < (2 : Int)) then
 bif (IntKind.i64.wrap ((1 : Int) - end0)).toNat.beq (0 : Nat) then
 some (decide (IntKind.i64.wrap ((↑wait0.length : Int) + (↑b.length : Int)) ≤ (16384 : Int)), PUnit.unit) else bif (IntKind.i64.wrap ((1 : Int) - end0)).toNat.beq (1 : Nat) then
 some (decide (IntKind.i64.wrap ((↑wait1.length : Int) + (↑b.length : Int)) ≤ (16384 : Int)), PUnit.unit) else none else none
theorem r1e (x9 : F9.FT) (x10 : F10.FT) (x15 : F15.FT) (x11 : F11.FT) (x13 : F13.FT) (x16 : F16.FT) (x12 : F12.FT) (x17 : F17.FT) (x18 : F18.FT) (x20 : F20.FT) (kd : (List (Int) × List (Int)) × Int × List (Int)) (d : Unit) : unitF (tabC Try.prog (tab x9 x10 x15 x11 x13 x16 x12 x17 x18 x20) (pls x9 x10 x15 x11 x13 x16 x12 x17 x18 x20) 100 10) 100 .none (u1 fun _ _ => none) (codeAt [1, 1, 1, 1, 1, 1, 0, 1, 0, 0, 1, 1, 0, 0, 1, 1, 1, 1, 0, 1, 0, 1, 1, 1, 1, 1, 0, 1, 0] (bodyOf Try.prog 5)) kd d = r1P x9 x10 x15 x11 x13 x16 x12 x17 x18 x20 kd d := by kernel_rfl
noncomputable def r1 : G1 := r1P F9.f F10.f F15.f F11.f F13.f F16.f F12.f F17.f F18.f F20.f
noncomputable def l1 : G1 := r1
theorem ok1 : UnOk Try.prog (u1 l1) (codeAt [1, 1, 1, 1, 1, 1, 0, 1, 0, 0, 1, 1, 0, 0, 1, 1, 1, 1, 0, 1, 0, 1, 1, 1, 1, 1, 0, 1, 0] (bodyOf Try.prog 5)) :=
  blockT (p := .none) (fuel := 100) (depth := 10) mixed tabS plsP trivial (fun kd d => r1e F9.f F10.f F15.f F11.f F13.f F16.f F12.f F17.f F18.f F20.f kd d)
def r2P (x9 : F9.FT) (x10 : F10.FT) (x15 : F15.FT) (x11 : F11.FT) (x13 : F13.FT) (x16 : F16.FT) (x12 : F12.FT) (x17 : F17.FT) (x18 : F18.FT) (x20 : F20.FT) : G2 := fun (end0, b, t99) (wait0, wait1) => bif t99 then
 bif decide ((0 : Int) ≤ IntKind.i64.wrap ((1 : Int) - end0) ∧ IntKind.i64.wrap ((1 : Int) - end0) < (2 : Int)) then
 bif (IntKind.i64.wrap ((1 : Int) - end0)).toNat.beq (0 : Nat) then
 bif decide ((0 : Nat) + b.length ≤ b.length) then
 bif decide (wait0.length + (List.take b.length b).length ≤ (1073741824 : Nat)) then
 bif decide ((0 : Nat) + wait0.length ≤ wait0.length) then
 bif decide ((0 : Int) ≤ IntKind.i64.wrap ((1 : Int) - end0) ∧ IntKind.i64.wrap ((1 : Int) - end0) < (2 : Int)) then
 bif (IntKind.i64.wrap ((1 : Int) - end0)).toNat.beq (0 : Nat) then
 bif decide ((0 : Nat) + (wait0.length + (List.take b.length b).length) ≤ (List.take wait0.length wait0 ++ List.take b.length b).length) && true then
 bif decide ((0 : Nat) + wait1.length ≤ wait1.length) && true then
 some (PUnit.unit, List.take (wait0.length + (List.take b.length b).length) (List.drop (0 : Nat) (List.take wait0.length wait0 ++ List.take b.length b)), List.take wait1.length wait1) else none else none else bif (IntKind.i64.wrap ((1 : Int) - end0)).toNat.beq (1 : Nat) then
 none else none else none else none else none else none else bif (IntKind.i64.wrap ((1 : Int) - end0)).toNat.beq (1 : Nat) then
 bif decide ((0 : Nat) + b.length ≤ b.length) then
 bif decide (wait1.length + (List.take b.length b).length ≤ (1073741824 : Nat)) then
 bif decide ((0 : Nat) + wait1.length ≤ wait1.length) then
 bif decide ((0 : Int) ≤ IntKind.i64.wrap ((1 : Int) - end0) ∧ IntKind.i64.wrap ((1 : Int) - end0) < (2 : Int)) then
 bif (IntKind.i64.wrap ((1 : Int) - end0)).toNat.beq (0 : Nat) then
 bif decide ((0 : Nat) + (wait1.length + (List.take b.length b).length) ≤ (List.take wait1.length wait1 ++ List.take b.length b).length) && true then
 none else none else bif (IntKind.i64.wrap ((1 : Int) - end0)).toNat.beq (1 : Nat) then
 bif decide ((0 : Nat) + wait0.length ≤ wait0.length) && true then
 bif decide ((0 : Nat) + (wait1.length + (List.take b.length b).length) ≤ (List.take wait1.length wait1 ++ List.take b.length b).length) && true then
 some (PUnit.unit, List.take wait0.length wait0, List.take (wait1.length + (List.take b.length b).length) (List.drop (0 : Nat) (List.take wait1.length wait1 ++ List.take b.length b))) else none else none else none else none else none else none else none else none else none else some (PUnit.unit, wait0, wait1)
theorem r2e (x9 : F9.FT) (x10 : F10.FT) (x15 : F15.FT) (x11 : F11.FT) (x13 : F13.FT) (x16 : F16.FT) (x12 : F12.FT) (x17 : F17.FT) (x18 : F18.FT) (x20 : F20.FT) (kd : Int × List (Int) × Bool) (d : (List (Int) × List (Int))) : unitF (tabC Try.prog (tab x9 x10 x15 x11 x13 x16 x12 x17 x18 x20) (pls x9 x10 x15 x11 x13 x16 x12 x17 x18 x20) 100 10) 100 .none (u2 fun _ _ => none) (codeAt [1, 1, 1, 1, 1, 1, 0, 1, 0, 0, 1, 1, 0, 0, 1, 1, 1, 1, 0, 1, 0, 1, 1, 1, 1, 1, 0, 1, 1, 1, 1] (bodyOf Try.prog 5)) kd d = r2P x9 x10 x15 x11 x13 x16 x12 x17 x18 x20 kd d := by kernel_rfl
noncomputable def r2 : G2 := r2P F9.f F10.f F15.f F11.f F13.f F16.f F12.f F17.f F18.f F20.f
noncomputable def l2 : G2 := r2
theorem ok2 : UnOk Try.prog (u2 l2) (codeAt [1, 1, 1, 1, 1, 1, 0, 1, 0, 0, 1, 1, 0, 0, 1, 1, 1, 1, 0, 1, 0, 1, 1, 1, 1, 1, 0, 1, 1, 1, 1] (bodyOf Try.prog 5)) :=
  blockT (p := .none) (fuel := 100) (depth := 10) mixed tabS plsP trivial (fun kd d => r2e F9.f F10.f F15.f F11.f F13.f F16.f F12.f F17.f F18.f F20.f kd d)
def r3P (x9 : F9.FT) (x10 : F10.FT) (x15 : F15.FT) (x11 : F11.FT) (x13 : F13.FT) (x16 : F16.FT) (x12 : F12.FT) (x17 : F17.FT) (x18 : F18.FT) (x20 : F20.FT) : G3 := fun ((a0, a1, a2, a3, a4), end0, t141) ((wait0, wait1), got) => bif t141 then
 bif decide ((0 : Int) ≤ end0 ∧ end0 < (2 : Int)) then
 bif end0.toNat.beq (0 : Nat) then
 bif decide ((0 : Int) ≤ end0 ∧ end0 < (2 : Int)) then
 bif end0.toNat.beq (0 : Nat) then
 bif decide ((0 : Int) ≤ (some (if (↑wait0.length : Int) < a3 then
 (↑wait0.length : Int) else a3)).getD (↑wait0.length : Int) ∧ (some (if (↑wait0.length : Int) < a3 then
 (↑wait0.length : Int) else a3)).getD (↑wait0.length : Int) ≤ (↑wait0.length : Int) ∧ (0 : Nat) + wait0.length ≤ wait0.length) then
 bif decide ((0 : Nat) + got.length ≤ got.length) && true then
 bif decide ((0 : Nat) + ((some (if (↑wait0.length : Int) < a3 then
 (↑wait0.length : Int) else a3)).getD (↑wait0.length : Int)).toNat ≤ wait0.length) && true then
 (x16 (List.take got.length got, List.take ((some (if (↑wait0.length : Int) < a3 then
 (↑wait0.length : Int) else a3)).getD (↑wait0.length : Int)).toNat wait0)).bind fun r0 => bif !r0.fst then
 bif decide ((0 : Nat) + wait0.length ≤ wait0.length) && true then
 bif decide ((0 : Nat) + wait1.length ≤ wait1.length) && true then
 some (((1 : Int), false), List.take wait0.length wait0, List.take wait1.length wait1) else none else none else bif decide ((0 : Int) ≤ end0 ∧ end0 < (2 : Int)) then
 bif end0.toNat.beq (0 : Nat) then
 bif decide (((0 : Int) ≤ if (↑wait0.length : Int) < a3 then
 (↑wait0.length : Int) else a3) ∧ (if (↑wait0.length : Int) < a3 then
 (↑wait0.length : Int) else a3) ≤ none.getD (↑wait0.length : Int) ∧ none.getD (↑wait0.length : Int) ≤ (↑wait0.length : Int) ∧ (0 : Nat) + wait0.length ≤ wait0.length) then
 bif decide ((if (↑wait0.length : Int) < a3 then
 (↑wait0.length : Int) else a3) = (↑wait0.length : Int)) then
 bif decide ((0 : Int) ≤ end0 ∧ end0 < (2 : Int)) then
 bif end0.toNat.beq (0 : Nat) then
 bif decide ((0 : Nat) ≤ (0 : Nat) + wait0.length ∧ (0 : Nat) + wait0.length ≤ wait0.length) then
 bif decide ((0 : Nat) + wait1.length ≤ wait1.length) && true then
 some (((0 : Int), false), [], List.take wait1.length wait1) else none else none else bif end0.toNat.beq (1 : Nat) then
 bif decide ((0 : Nat) + wait0.length ≤ wait0.length) && true then
 bif decide ((0 : Nat) ≤ (0 : Nat) + wait0.length ∧ (0 : Nat) + wait0.length ≤ wait0.length) then
 none else none else none else none else none else bif decide ((0 : Int) ≤ end0 ∧ end0 < (2 : Int)) then
 bif end0.toNat.beq (0 : Nat) then
 bif decide ((0 : Nat) + (if (↑wait0.length : Int) < a3 then
 (↑wait0.length : Int) else a3).toNat + (none.getD (↑wait0.length : Int) - if (↑wait0.length : Int) < a3 then
 (↑wait0.length : Int) else a3).toNat ≤ wait0.length) && true then
 bif decide ((0 : Nat) + wait1.length ≤ wait1.length) && true then
 some (((0 : Int), false), List.take (none.getD (↑wait0.length : Int) - if (↑wait0.length : Int) < a3 then
 (↑wait0.length : Int) else a3).toNat (List.drop ((0 : Nat) + (if (↑wait0.length : Int) < a3 then
 (↑wait0.length : Int) else a3).toNat) wait0), List.take wait1.length wait1) else none else none else bif end0.toNat.beq (1 : Nat) then
 bif decide ((0 : Nat) + wait0.length ≤ wait0.length) && true then
 bif decide ((0 : Nat) + (if (↑wait0.length : Int) < a3 then
 (↑wait0.length : Int) else a3).toNat + (none.getD (↑wait0.length : Int) - if (↑wait0.length : Int) < a3 then
 (↑wait0.length : Int) else a3).toNat ≤ wait0.length) && true then
 none else none else none else none else none else none else bif end0.toNat.beq (1 : Nat) then
 bif decide (((0 : Int) ≤ if (↑wait0.length : Int) < a3 then
 (↑wait0.length : Int) else a3) ∧ (if (↑wait0.length : Int) < a3 then
 (↑wait0.length : Int) else a3) ≤ none.getD (↑wait1.length : Int) ∧ none.getD (↑wait1.length : Int) ≤ (↑wait1.length : Int) ∧ (0 : Nat) + wait1.length ≤ wait1.length) then
 bif decide ((if (↑wait0.length : Int) < a3 then
 (↑wait0.length : Int) else a3) = (↑wait1.length : Int)) then
 bif decide ((0 : Int) ≤ end0 ∧ end0 < (2 : Int)) then
 bif end0.toNat.beq (0 : Nat) then
 bif decide ((0 : Nat) ≤ (0 : Nat) + wait1.length ∧ (0 : Nat) + wait1.length ≤ wait1.length) then
 bif decide ((0 : Nat) + wait1.length ≤ wait1.length) && true then
 none else none else none else bif end0.toNat.beq (1 : Nat) then
 bif decide ((0 : Nat) + wait0.length ≤ wait0.length) && true then
 bif decide ((0 : Nat) ≤ (0 : Nat) + wait1.length ∧ (0 : Nat) + wait1.length ≤ wait1.length) then
 some (((0 : Int), false), List.take wait0.length wait0, []) else none else none else none else none else bif decide ((0 : Int) ≤ end0 ∧ end0 < (2 : Int)) then
 bif end0.toNat.beq (0 : Nat) then
 bif decide ((0 : Nat) + (if (↑wait0.length : Int) < a3 then
 (↑wait0.length : Int) else a3).toNat + (none.getD (↑wait1.length : Int) - if (↑wait0.length : Int) < a3 then
 (↑wait0.length : Int) else a3).toNat ≤ wait1.length) && true then
 bif decide ((0 : Nat) + wait1.length ≤ wait1.length) && true then
 none else none else none else bif end0.toNat.beq (1 : Nat) then
 bif decide ((0 : Nat) + wait0.length ≤ wait0.length) && true then
 bif decide ((0 : Nat) + (if (↑wait0.length : Int) < a3 then
 (↑wait0.length : Int) else a3).toNat + (none.getD (↑wait1.length : Int) - if (↑wait0.length : Int) < a3 then
 (↑wait0.length : Int) else a3).toNat ≤ wait1.length) && true then
 some (((0 : Int), false), List.take wait0.length wait0, List.take (none.getD (↑wait1.length : Int) - if (↑wait0.length : Int) < a3 then
 (↑wait0.length : Int) else a3).toNat (List.drop ((0 : Nat) + (if (↑wait0.length : Int) < a3 then
 (↑wait0.length : Int) else a3).toNat) wait1)) else none else none else none else none else none else none else none else none else none else none else bif end0.toNat.beq (1 : Nat) then
 bif decide ((0 : Int) ≤ (some (if (↑wait0.length : Int) < a3 then
 (↑wait0.length : Int) else a3)).getD (↑wait1.length : Int) ∧ (some (if (↑wait0.length : Int) < a3 then
 (↑wait0.length : Int) else a3)).getD (↑wait1.length : Int) ≤ (↑wait1.length : Int) ∧ (0 : Nat) + wait1.length ≤ wait1.length) then
 bif decide ((0 : Nat) + got.length ≤ got.length) && true then
 bif decide ((0 : Nat) + ((some (if (↑wait0.length : Int) < a3 then
 (↑wait0.length : Int) else a3)).getD (↑wait1.length : Int)).toNat ≤ wait1.length) && true then
 (x16 (List.take got.length got, List.take ((some (if (↑wait0.length : Int) < a3 then
 (↑wait0.length : Int) else a3)).getD (↑wait1.length : Int)).toNat wait1)).bind fun r0 => bif !r0.fst then
 bif decide ((0 : Nat) + wait0.length ≤ wait0.length) && true then
 bif decide ((0 : Nat) + wait1.length ≤ wait1.length) && true then
 some (((1 : Int), false), List.take wait0.length wait0, List.take wait1.length wait1) else none else none else bif decide ((0 : Int) ≤ end0 ∧ end0 < (2 : Int)) then
 bif end0.toNat.beq (0 : Nat) then
 bif decide (((0 : Int) ≤ if (↑wait0.length : Int) < a3 then
 (↑wait0.length : Int) else a3) ∧ (if (↑wait0.length : Int) < a3 then
 (↑wait0.length : Int) else a3) ≤ none.getD (↑wait0.length : Int) ∧ none.getD (↑wait0.length : Int) ≤ (↑wait0.length : Int) ∧ (0 : Nat) + wait0.length ≤ wait0.length) then
 bif decide ((if (↑wait0.length : Int) < a3 then
 (↑wait0.length : Int) else a3) = (↑wait0.length : Int)) then
 bif decide ((0 : Int) ≤ end0 ∧ end0 < (2 : Int)) then
 bif end0.toNat.beq (0 : Nat) then
 bif decide ((0 : Nat) ≤ (0 : Nat) + wait0.length ∧ (0 : Nat) + wait0.length ≤ wait0.length) then
 bif decide ((0 : Nat) + wait1.length ≤ wait1.length) && true then
 some (((0 : Int), false), [], List.take wait1.length wait1) else none else none else bif end0.toNat.beq (1 : Nat) then
 bif decide ((0 : Nat) + wait0.length ≤ wait0.length) && true then
 bif decide ((0 : Nat) ≤ (0 : Nat) + wait0.length ∧ (0 : Nat) + wait0.length ≤ wait0.length) then
 none else none else none else none else none else bif decide ((0 : Int) ≤ end0 ∧ end0 < (2 : Int)) then
 bif end0.toNat.beq (0 : Nat) then
 bif decide ((0 : Nat) + (if (↑wait0.length : Int) < a3 then
 (↑wait0.length : Int) else a3).toNat + (none.getD (↑wait0.length : Int) - if (↑wait0.length : Int) < a3 then
 (↑wait0.length : Int) else a3).toNat ≤ wait0.length) && true then
 bif decide ((0 : Nat) + wait1.length ≤ wait1.length) && true then
 some (((0 : Int), false), List.take (none.getD (↑wait0.length : Int) - if (↑wait0.length : Int) < a3 then
 (↑wait0.length : Int) else a3).toNat (List.drop ((0 : Nat) + (if (↑wait0.length : Int) < a3 then
 (↑wait0.length : Int) else a3).toNat) wait0), List.take wait1.length wait1) else none else none else bif end0.toNat.beq (1 : Nat) then
 bif decide ((0 : Nat) + wait0.length ≤ wait0.length) && true then
 bif decide ((0 : Nat) + (if (↑wait0.length : Int) < a3 then
 (↑wait0.length : Int) else a3).toNat + (none.getD (↑wait0.length : Int) - if (↑wait0.length : Int) < a3 then
 (↑wait0.length : Int) else a3).toNat ≤ wait0.length) && true then
 none else none else none else none else none else none else bif end0.toNat.beq (1 : Nat) then
 bif decide (((0 : Int) ≤ if (↑wait0.length : Int) < a3 then
 (↑wait0.length : Int) else a3) ∧ (if (↑wait0.length : Int) < a3 then
 (↑wait0.length : Int) else a3) ≤ none.getD (↑wait1.length : Int) ∧ none.getD (↑wait1.length : Int) ≤ (↑wait1.length : Int) ∧ (0 : Nat) + wait1.length ≤ wait1.length) then
 bif decide ((if (↑wait0.length : Int) < a3 then
 (↑wait0.length : Int) else a3) = (↑wait1.length : Int)) then
 bif decide ((0 : Int) ≤ end0 ∧ end0 < (2 : Int)) then
 bif end0.toNat.beq (0 : Nat) then
 bif decide ((0 : Nat) ≤ (0 : Nat) + wait1.length ∧ (0 : Nat) + wait1.length ≤ wait1.length) then
 bif decide ((0 : Nat) + wait1.length ≤ wait1.length) && true then
 none else none else none else bif end0.toNat.beq (1 : Nat) then
 bif decide ((0 : Nat) + wait0.length ≤ wait0.length) && true then
 bif decide ((0 : Nat) ≤ (0 : Nat) + wait1.length ∧ (0 : Nat) + wait1.length ≤ wait1.length) then
 some (((0 : Int), false), List.take wait0.length wait0, []) else none else none else none else none else bif decide ((0 : Int) ≤ end0 ∧ end0 < (2 : Int)) then
 bif end0.toNat.beq (0 : Nat) then
 bif decide ((0 : Nat) + (if (↑wait0.length : Int) < a3 then
 (↑wait0.length : Int) else a3).toNat + (none.getD (↑wait1.length : Int) - if (↑wait0.length : Int) < a3 then
 (↑wait0.length : Int) else a3).toNat ≤ wait1.length) && true then
 bif decide ((0 : Nat) + wait1.length ≤ wait1.length) && true then
 none else none else none else bif end0.toNat.beq (1 : Nat) then
 bif decide ((0 : Nat) + wait0.length ≤ wait0.length) && true then
 bif decide ((0 : Nat) + (if (↑wait0.length : Int) < a3 then
 (↑wait0.length : Int) else a3).toNat + (none.getD (↑wait1.length : Int) - if (↑wait0.length : Int) < a3 then
 (↑wait0.length : Int) else a3).toNat ≤ wait1.length) && true then
 some (((0 : Int), false), List.take wait0.length wait0, List.take (none.getD (↑wait1.length : Int) - if (↑wait0.length : Int) < a3 then
 (↑wait0.length : Int) else a3).toNat (List.drop ((0 : Nat) + (if (↑wait0.length : Int) < a3 then
 (↑wait0.length : Int) else a3).toNat) wait1)) else none else none else none else none else none else none else none else none else none else none else none else none else bif end0.toNat.beq (1 : Nat) then
 bif decide ((0 : Int) ≤ end0 ∧ end0 < (2 : Int)) then
 bif end0.toNat.beq (0 : Nat) then
 bif decide ((0 : Int) ≤ (some (if (↑wait1.length : Int) < a3 then
 (↑wait1.length : Int) else a3)).getD (↑wait0.length : Int) ∧ (some (if (↑wait1.length : Int) < a3 then
 (↑wait1.length : Int) else a3)).getD (↑wait0.length : Int) ≤ (↑wait0.length : Int) ∧ (0 : Nat) + wait0.length ≤ wait0.length) then
 bif decide ((0 : Nat) + got.length ≤ got.length) && true then
 bif decide ((0 : Nat) + ((some (if (↑wait1.length : Int) < a3 then
 (↑wait1.length : Int) else a3)).getD (↑wait0.length : Int)).toNat ≤ wait0.length) && true then
 (x16 (List.take got.length got, List.take ((some (if (↑wait1.length : Int) < a3 then
 (↑wait1.length : Int) else a3)).getD (↑wait0.length : Int)).toNat wait0)).bind fun r0 => bif !r0.fst then
 bif decide ((0 : Nat) + wait0.length ≤ wait0.length) && true then
 bif decide ((0 : Nat) + wait1.length ≤ wait1.length) && true then
 some (((1 : Int), false), List.take wait0.length wait0, List.take wait1.length wait1) else none else none else bif decide ((0 : Int) ≤ end0 ∧ end0 < (2 : Int)) then
 bif end0.toNat.beq (0 : Nat) then
 bif decide (((0 : Int) ≤ if (↑wait1.length : Int) < a3 then
 (↑wait1.length : Int) else a3) ∧ (if (↑wait1.length : Int) < a3 then
 (↑wait1.length : Int) else a3) ≤ none.getD (↑wait0.length : Int) ∧ none.getD (↑wait0.length : Int) ≤ (↑wait0.length : Int) ∧ (0 : Nat) + wait0.length ≤ wait0.length) then
 bif decide ((if (↑wait1.length : Int) < a3 then
 (↑wait1.length : Int) else a3) = (↑wait0.length : Int)) then
 bif decide ((0 : Int) ≤ end0 ∧ end0 < (2 : Int)) then
 bif end0.toNat.beq (0 : Nat) then
 bif decide ((0 : Nat) ≤ (0 : Nat) + wait0.length ∧ (0 : Nat) + wait0.length ≤ wait0.length) then
 bif decide ((0 : Nat) + wait1.length ≤ wait1.length) && true then
 some (((0 : Int), false), [], List.take wait1.length wait1) else none else none else bif end0.toNat.beq (1 : Nat) then
 bif decide ((0 : Nat) + wait0.length ≤ wait0.length) && true then
 bif decide ((0 : Nat) ≤ (0 : Nat) + wait0.length ∧ (0 : Nat) + wait0.length ≤ wait0.length) then
 none else none else none else none else none else bif decide ((0 : Int) ≤ end0 ∧ end0 < (2 : Int)) then
 bif end0.toNat.beq (0 : Nat) then
 bif decide ((0 : Nat) + (if (↑wait1.length : Int) < a3 then
 (↑wait1.length : Int) else a3).toNat + (none.getD (↑wait0.length : Int) - if (↑wait1.length : Int) < a3 then
 (↑wait1.length : Int) else a3).toNat ≤ wait0.length) && true then
 bif decide ((0 : Nat) + wait1.length ≤ wait1.length) && true then
 some (((0 : Int), false), List.take (none.getD (↑wait0.length : Int) - if (↑wait1.length : Int) < a3 then
 (↑wait1.length : Int) else a3).toNat (List.drop ((0 : Nat) + (if (↑wait1.length : Int) < a3 then
 (↑wait1.length : Int) else a3).toNat) wait0), List.take wait1.length wait1) else none else none else bif end0.toNat.beq (1 : Nat) then
 bif decide ((0 : Nat) + wait0.length ≤ wait0.length) && true then
 bif decide ((0 : Nat) + (if (↑wait1.length : Int) < a3 then
 (↑wait1.length : Int) else a3).toNat + (none.getD (↑wait0.length : Int) - if (↑wait1.length : Int) < a3 then
 (↑wait1.length : Int) else a3).toNat ≤ wait0.length) && true then
 none else none else none else none else none else none else bif end0.toNat.beq (1 : Nat) then
 bif decide (((0 : Int) ≤ if (↑wait1.length : Int) < a3 then
 (↑wait1.length : Int) else a3) ∧ (if (↑wait1.length : Int) < a3 then
 (↑wait1.length : Int) else a3) ≤ none.getD (↑wait1.length : Int) ∧ none.getD (↑wait1.length : Int) ≤ (↑wait1.length : Int) ∧ (0 : Nat) + wait1.length ≤ wait1.length) then
 bif decide ((if (↑wait1.length : Int) < a3 then
 (↑wait1.length : Int) else a3) = (↑wait1.length : Int)) then
 bif decide ((0 : Int) ≤ end0 ∧ end0 < (2 : Int)) then
 bif end0.toNat.beq (0 : Nat) then
 bif decide ((0 : Nat) ≤ (0 : Nat) + wait1.length ∧ (0 : Nat) + wait1.length ≤ wait1.length) then
 bif decide ((0 : Nat) + wait1.length ≤ wait1.length) && true then
 none else none else none else bif end0.toNat.beq (1 : Nat) then
 bif decide ((0 : Nat) + wait0.length ≤ wait0.length) && true then
 bif decide ((0 : Nat) ≤ (0 : Nat) + wait1.length ∧ (0 : Nat) + wait1.length ≤ wait1.length) then
 some (((0 : Int), false), List.take wait0.length wait0, []) else none else none else none else none else bif decide ((0 : Int) ≤ end0 ∧ end0 < (2 : Int)) then
 bif end0.toNat.beq (0 : Nat) then
 bif decide ((0 : Nat) + (if (↑wait1.length : Int) < a3 then
 (↑wait1.length : Int) else a3).toNat + (none.getD (↑wait1.length : Int) - if (↑wait1.length : Int) < a3 then
 (↑wait1.length : Int) else a3).toNat ≤ wait1.length) && true then
 bif decide ((0 : Nat) + wait1.length ≤ wait1.length) && true then
 none else none else none else bif end0.toNat.beq (1 : Nat) then
 bif decide ((0 : Nat) + wait0.length ≤ wait0.length) && true then
 bif decide ((0 : Nat) + (if (↑wait1.length : Int) < a3 then
 (↑wait1.length : Int) else a3).toNat + (none.getD (↑wait1.length : Int) - if (↑wait1.length : Int) < a3 then
 (↑wait1.length : Int) else a3).toNat ≤ wait1.length) && true then
 some (((0 : Int), false), List.take wait0.length wait0, List.take (none.getD (↑wait1.length : Int) - if (↑wait1.length : Int) < a3 then
 (↑wait1.length : Int) else a3).toNat (List.drop ((0 : Nat) + (if (↑wait1.length : Int) < a3 then
 (↑wait1.length : Int) else a3).toNat) wait1)) else none else none else none else none else none else none else none else none else none else none else bif end0.toNat.beq (1 : Nat) then
 bif decide ((0 : Int) ≤ (some (if (↑wait1.length : Int) < a3 then
 (↑wait1.length : Int) else a3)).getD (↑wait1.length : Int) ∧ (some (if (↑wait1.length : Int) < a3 then
 (↑wait1.length : Int) else a3)).getD (↑wait1.length : Int) ≤ (↑wait1.length : Int) ∧ (0 : Nat) + wait1.length ≤ wait1.length) then
 bif decide ((0 : Nat) + got.length ≤ got.length) && true then
 bif decide ((0 : Nat) + ((some (if (↑wait1.length : Int) < a3 then
 (↑wait1.length : Int) else a3)).getD (↑wait1.length : Int)).toNat ≤ wait1.length) && true then
 (x16 (List.take got.length got, List.take ((some (if (↑wait1.length : Int) < a3 then
 (↑wait1.length : Int) else a3)).getD (↑wait1.length : Int)).toNat wait1)).bind fun r0 => bif !r0.fst then
 bif decide ((0 : Nat) + wait0.length ≤ wait0.length) && true then
 bif decide ((0 : Nat) + wait1.length ≤ wait1.length) && true then
 some (((1 : Int), false), List.take wait0.length wait0, List.take wait1.length wait1) else none else none else bif decide ((0 : Int) ≤ end0 ∧ end0 < (2 : Int)) then
 bif end0.toNat.beq (0 : Nat) then
 bif decide (((0 : Int) ≤ if (↑wait1.length : Int) < a3 then
 (↑wait1.length : Int) else a3) ∧ (if (↑wait1.length : Int) < a3 then
 (↑wait1.length : Int) else a3) ≤ none.getD (↑wait0.length : Int) ∧ none.getD (↑wait0.length : Int) ≤ (↑wait0.length : Int) ∧ (0 : Nat) + wait0.length ≤ wait0.length) then
 bif decide ((if (↑wait1.length : Int) < a3 then
 (↑wait1.length : Int) else a3) = (↑wait0.length : Int)) then
 bif decide ((0 : Int) ≤ end0 ∧ end0 < (2 : Int)) then
 bif end0.toNat.beq (0 : Nat) then
 bif decide ((0 : Nat) ≤ (0 : Nat) + wait0.length ∧ (0 : Nat) + wait0.length ≤ wait0.length) then
 bif decide ((0 : Nat) + wait1.length ≤ wait1.length) && true then
 some (((0 : Int), false), [], List.take wait1.length wait1) else none else none else bif end0.toNat.beq (1 : Nat) then
 bif decide ((0 : Nat) + wait0.length ≤ wait0.length) && true then
 bif decide ((0 : Nat) ≤ (0 : Nat) + wait0.length ∧ (0 : Nat) + wait0.length ≤ wait0.length) then
 none else none else none else none else none else bif decide ((0 : Int) ≤ end0 ∧ end0 < (2 : Int)) then
 bif end0.toNat.beq (0 : Nat) then
 bif decide ((0 : Nat) + (if (↑wait1.length : Int) < a3 then
 (↑wait1.length : Int) else a3).toNat + (none.getD (↑wait0.length : Int) - if (↑wait1.length : Int) < a3 then
 (↑wait1.length : Int) else a3).toNat ≤ wait0.length) && true then
 bif decide ((0 : Nat) + wait1.length ≤ wait1.length) && true then
 some (((0 : Int), false), List.take (none.getD (↑wait0.length : Int) - if (↑wait1.length : Int) < a3 then
 (↑wait1.length : Int) else a3).toNat (List.drop ((0 : Nat) + (if (↑wait1.length : Int) < a3 then
 (↑wait1.length : Int) else a3).toNat) wait0), List.take wait1.length wait1) else none else none else bif end0.toNat.beq (1 : Nat) then
 bif decide ((0 : Nat) + wait0.length ≤ wait0.length) && true then
 bif decide ((0 : Nat) + (if (↑wait1.length : Int) < a3 then
 (↑wait1.length : Int) else a3).toNat + (none.getD (↑wait0.length : Int) - if (↑wait1.length : Int) < a3 then
 (↑wait1.length : Int) else a3).toNat ≤ wait0.length) && true then
 none else none else none else none else none else none else bif end0.toNat.beq (1 : Nat) then
 bif decide (((0 : Int) ≤ if (↑wait1.length : Int) < a3 then
 (↑wait1.length : Int) else a3) ∧ (if (↑wait1.length : Int) < a3 then
 (↑wait1.length : Int) else a3) ≤ none.getD (↑wait1.length : Int) ∧ none.getD (↑wait1.length : Int) ≤ (↑wait1.length : Int) ∧ (0 : Nat) + wait1.length ≤ wait1.length) then
 bif decide ((if (↑wait1.length : Int) < a3 then
 (↑wait1.length : Int) else a3) = (↑wait1.length : Int)) then
 bif decide ((0 : Int) ≤ end0 ∧ end0 < (2 : Int)) then
 bif end0.toNat.beq (0 : Nat) then
 bif decide ((0 : Nat) ≤ (0 : Nat) + wait1.length ∧ (0 : Nat) + wait1.length ≤ wait1.length) then
 bif decide ((0 : Nat) + wait1.length ≤ wait1.length) && true then
 none else none else none else bif end0.toNat.beq (1 : Nat) then
 bif decide ((0 : Nat) + wait0.length ≤ wait0.length) && true then
 bif decide ((0 : Nat) ≤ (0 : Nat) + wait1.length ∧ (0 : Nat) + wait1.length ≤ wait1.length) then
 some (((0 : Int), false), List.take wait0.length wait0, []) else none else none else none else none else bif decide ((0 : Int) ≤ end0 ∧ end0 < (2 : Int)) then
 bif end0.toNat.beq (0 : Nat) then
 bif decide ((0 : Nat) + (if (↑wait1.length : Int) < a3 then
 (↑wait1.length : Int) else a3).toNat + (none.getD (↑wait1.length : Int) - if (↑wait1.length : Int) < a3 then
 (↑wait1.length : Int) else a3).toNat ≤ wait1.length) && true then
 bif decide ((0 : Nat) + wait1.length ≤ wait1.length) && true then
 none else none else none else bif end0.toNat.beq (1 : Nat) then
 bif decide ((0 : Nat) + wait0.length ≤ wait0.length) && true then
 bif decide ((0 : Nat) + (if (↑wait1.length : Int) < a3 then
 (↑wait1.length : Int) else a3).toNat + (none.getD (↑wait1.length : Int) - if (↑wait1.length : Int) < a3 then
 (↑wait1.length : Int) else a3).toNat ≤ wait1.length) && true then
 some (((0 : Int), false), List.take wait0.length wait0, List.take (none.getD (↑wait1.length : Int) - if (↑wait1.length : Int) < a3 then
 (↑wait1.length : Int) else a3).toNat (List.drop ((0 : Nat) + (if (↑wait1.length : Int) < a3 then
 (↑wait1.length : Int) else a3).toNat) wait1)) else none else none else none else none else none else none else none else none else none else none else none else none else none else none else some (((0 : Int), false), wait0, wait1)
theorem r3e (x9 : F9.FT) (x10 : F10.FT) (x15 : F15.FT) (x11 : F11.FT) (x13 : F13.FT) (x16 : F16.FT) (x12 : F12.FT) (x17 : F17.FT) (x18 : F18.FT) (x20 : F20.FT) (kd : (Int × Int × Int × Int × List (Int)) × Int × Bool) (d : (List (Int) × List (Int)) × List (Int)) : unitF (tabC Try.prog (tab x9 x10 x15 x11 x13 x16 x12 x17 x18 x20) (pls x9 x10 x15 x11 x13 x16 x12 x17 x18 x20) 100 10) 100 .none (u3 fun _ _ => none) (codeAt [1, 1, 1, 1, 1, 1, 0, 1, 0, 0, 1, 1, 0, 0, 1, 1, 1, 1, 0, 1, 0, 1, 1, 1, 1, 1, 1, 1, 0, 1, 1, 1] (bodyOf Try.prog 5)) kd d = r3P x9 x10 x15 x11 x13 x16 x12 x17 x18 x20 kd d := by kernel_rfl
noncomputable def r3 : G3 := r3P F9.f F10.f F15.f F11.f F13.f F16.f F12.f F17.f F18.f F20.f
noncomputable def l3 : G3 := r3
theorem ok3 : UnOk Try.prog (u3 l3) (codeAt [1, 1, 1, 1, 1, 1, 0, 1, 0, 0, 1, 1, 0, 0, 1, 1, 1, 1, 0, 1, 0, 1, 1, 1, 1, 1, 1, 1, 0, 1, 1, 1] (bodyOf Try.prog 5)) :=
  blockT (p := .none) (fuel := 100) (depth := 10) mixed tabS plsP trivial (fun kd d => r3e F9.f F10.f F15.f F11.f F13.f F16.f F12.f F17.f F18.f F20.f kd d)
def r4P (x9 : F9.FT) (x10 : F10.FT) (x15 : F15.FT) (x11 : F11.FT) (x13 : F13.FT) (x16 : F16.FT) (x12 : F12.FT) (x17 : F17.FT) (x18 : F18.FT) (x20 : F20.FT) (l1 : G1) (l2 : G2) (l3 : G3) : G4 := fun (k, (a0, a1, a2, a3, a4), end0, b, t54) ((n0, n1), (wait0, wait1), up, turn) => bif t54 == (1 : Int) then
 (x10 ((n0, n1), k)).bind fun r0 => bif r0.fst != (0 : Int) then
 some (((1 : Int), false, false, (0 : Int)), r0.snd, wait0, wait1) else some (((0 : Int), false, true, turn), r0.snd, wait0, wait1) else bif t54 == (2 : Int) then
 (x15 ((n0, n1), k)).bind fun r0 => bif !(r0.fst == (0 : Int)) == up then
 some (((1 : Int), false, false, (0 : Int)), r0.snd, wait0, wait1) else bif up then
 some (((0 : Int), false, false, IntKind.i64.wrap (turn + (1 : Int))), r0.snd, [], []) else some (((0 : Int), false, false, turn), r0.snd, wait0, wait1) else bif t54 == (3 : Int) then
 bif decide ((0 : Nat) + b.length ≤ b.length) && true then
 (x11 ((n0, n1), k, end0, List.take b.length b)).bind fun r0 => bif decide ((0 : Nat) + b.length ≤ b.length) && true then
 (l1 ((wait0, wait1), end0, List.take b.length b) PUnit.unit).bind fun r1 => bif up then
 bif !(r0.fst == (0 : Int)) == r1.fst then
 some (((1 : Int), false, false, (0 : Int)), r0.snd, wait0, wait1) else bif decide ((0 : Nat) + b.length ≤ b.length) && true then
 (l2 (end0, List.take b.length b, r0.fst == (0 : Int)) (wait0, wait1)).bind fun r2 => some (((0 : Int), false, up, turn), r0.snd, r2.snd) else none else bif !(r0.fst == (0 : Int)) == false then
 some (((1 : Int), false, false, (0 : Int)), r0.snd, wait0, wait1) else bif decide ((0 : Nat) + b.length ≤ b.length) && true then
 (l2 (end0, List.take b.length b, r0.fst == (0 : Int)) (wait0, wait1)).bind fun r2 => some (((0 : Int), false, up, turn), r0.snd, r2.snd) else none else none else none else bif t54 == (4 : Int) then
 bif decide ((0 : Nat) + b.length ≤ b.length) && true then
 (x11 ((n0, n1), k, end0, List.take b.length b)).bind fun r0 => bif decide ((0 : Nat) + b.length ≤ b.length) && true then
 (l1 ((wait0, wait1), end0, List.take b.length b) PUnit.unit).bind fun r1 => bif up then
 bif !(r0.fst == (0 : Int)) == r1.fst then
 some (((1 : Int), false, false, (0 : Int)), r0.snd, wait0, wait1) else bif decide ((0 : Nat) + b.length ≤ b.length) && true then
 (l2 (end0, List.take b.length b, r0.fst == (0 : Int)) (wait0, wait1)).bind fun r2 => some (((0 : Int), false, up, turn), r0.snd, r2.snd) else none else bif !(r0.fst == (0 : Int)) == false then
 some (((1 : Int), false, false, (0 : Int)), r0.snd, wait0, wait1) else bif decide ((0 : Nat) + b.length ≤ b.length) && true then
 (l2 (end0, List.take b.length b, r0.fst == (0 : Int)) (wait0, wait1)).bind fun r2 => some (((0 : Int), false, up, turn), r0.snd, r2.snd) else none else none else none else bif t54 == (5 : Int) then
 bif decide ((0 : Nat) + b.length ≤ b.length) && true then
 (x11 ((n0, n1), k, end0, List.take b.length b)).bind fun r0 => bif decide ((0 : Nat) + b.length ≤ b.length) && true then
 (l1 ((wait0, wait1), end0, List.take b.length b) PUnit.unit).bind fun r1 => bif up then
 bif !(r0.fst == (0 : Int)) == r1.fst then
 some (((1 : Int), false, false, (0 : Int)), r0.snd, wait0, wait1) else bif decide ((0 : Nat) + b.length ≤ b.length) && true then
 (l2 (end0, List.take b.length b, r0.fst == (0 : Int)) (wait0, wait1)).bind fun r2 => some (((0 : Int), false, up, turn), r0.snd, r2.snd) else none else bif !(r0.fst == (0 : Int)) == false then
 some (((1 : Int), false, false, (0 : Int)), r0.snd, wait0, wait1) else bif decide ((0 : Nat) + b.length ≤ b.length) && true then
 (l2 (end0, List.take b.length b, r0.fst == (0 : Int)) (wait0, wait1)).bind fun r2 => some (((0 : Int), false, up, turn), r0.snd, r2.snd) else none else none else none else bif t54 == (6 : Int) then
 (x13 ((n0, n1), k, end0, a3)).bind fun r0 => bif up then
 bif !(r0.fst.snd == (0 : Int)) == decide (a3 ≥ (0 : Int)) then
 some (((1 : Int), false, false, (0 : Int)), r0.snd, wait0, wait1) else bif r0.fst.snd != (0 : Int) then
 bif decide ((↑r0.fst.fst.length : Int) > (0 : Int)) then
 some (((1 : Int), false, false, (0 : Int)), r0.snd, wait0, wait1) else bif decide ((0 : Nat) + r0.fst.fst.length ≤ r0.fst.fst.length) && true then
 (l3 ((a0, a1, a2, a3, a4), end0, r0.fst.snd == (0 : Int)) ((wait0, wait1), List.take r0.fst.fst.length (List.drop (0 : Nat) r0.fst.fst))).bind fun r1 => bif decide (r1.fst.fst = (0 : Int)) then
 some (((0 : Int), false, up, turn), r0.snd, r1.snd) else bif decide (r1.fst.fst = (1 : Int)) then
 some (((1 : Int), r1.fst.snd, false, (0 : Int)), r0.snd, r1.snd) else none else none else bif decide ((0 : Nat) + r0.fst.fst.length ≤ r0.fst.fst.length) && true then
 (l3 ((a0, a1, a2, a3, a4), end0, r0.fst.snd == (0 : Int)) ((wait0, wait1), List.take r0.fst.fst.length (List.drop (0 : Nat) r0.fst.fst))).bind fun r1 => bif decide (r1.fst.fst = (0 : Int)) then
 some (((0 : Int), false, up, turn), r0.snd, r1.snd) else bif decide (r1.fst.fst = (1 : Int)) then
 some (((1 : Int), r1.fst.snd, false, (0 : Int)), r0.snd, r1.snd) else none else none else bif !(r0.fst.snd == (0 : Int)) == false then
 some (((1 : Int), false, false, (0 : Int)), r0.snd, wait0, wait1) else bif r0.fst.snd != (0 : Int) then
 bif decide ((↑r0.fst.fst.length : Int) > (0 : Int)) then
 some (((1 : Int), false, false, (0 : Int)), r0.snd, wait0, wait1) else bif decide ((0 : Nat) + r0.fst.fst.length ≤ r0.fst.fst.length) && true then
 (l3 ((a0, a1, a2, a3, a4), end0, r0.fst.snd == (0 : Int)) ((wait0, wait1), List.take r0.fst.fst.length (List.drop (0 : Nat) r0.fst.fst))).bind fun r1 => bif decide (r1.fst.fst = (0 : Int)) then
 some (((0 : Int), false, up, turn), r0.snd, r1.snd) else bif decide (r1.fst.fst = (1 : Int)) then
 some (((1 : Int), r1.fst.snd, false, (0 : Int)), r0.snd, r1.snd) else none else none else bif decide ((0 : Nat) + r0.fst.fst.length ≤ r0.fst.fst.length) && true then
 (l3 ((a0, a1, a2, a3, a4), end0, r0.fst.snd == (0 : Int)) ((wait0, wait1), List.take r0.fst.fst.length (List.drop (0 : Nat) r0.fst.fst))).bind fun r1 => bif decide (r1.fst.fst = (0 : Int)) then
 some (((0 : Int), false, up, turn), r0.snd, r1.snd) else bif decide (r1.fst.fst = (1 : Int)) then
 some (((1 : Int), r1.fst.snd, false, (0 : Int)), r0.snd, r1.snd) else none else none else bif t54 == (7 : Int) then
 (x13 ((n0, n1), k, end0, a3)).bind fun r0 => bif up then
 bif !(r0.fst.snd == (0 : Int)) == decide (a3 ≥ (0 : Int)) then
 some (((1 : Int), false, false, (0 : Int)), r0.snd, wait0, wait1) else bif r0.fst.snd != (0 : Int) then
 bif decide ((↑r0.fst.fst.length : Int) > (0 : Int)) then
 some (((1 : Int), false, false, (0 : Int)), r0.snd, wait0, wait1) else bif decide ((0 : Nat) + r0.fst.fst.length ≤ r0.fst.fst.length) && true then
 (l3 ((a0, a1, a2, a3, a4), end0, r0.fst.snd == (0 : Int)) ((wait0, wait1), List.take r0.fst.fst.length (List.drop (0 : Nat) r0.fst.fst))).bind fun r1 => bif decide (r1.fst.fst = (0 : Int)) then
 some (((0 : Int), false, up, turn), r0.snd, r1.snd) else bif decide (r1.fst.fst = (1 : Int)) then
 some (((1 : Int), r1.fst.snd, false, (0 : Int)), r0.snd, r1.snd) else none else none else bif decide ((0 : Nat) + r0.fst.fst.length ≤ r0.fst.fst.length) && true then
 (l3 ((a0, a1, a2, a3, a4), end0, r0.fst.snd == (0 : Int)) ((wait0, wait1), List.take r0.fst.fst.length (List.drop (0 : Nat) r0.fst.fst))).bind fun r1 => bif decide (r1.fst.fst = (0 : Int)) then
 some (((0 : Int), false, up, turn), r0.snd, r1.snd) else bif decide (r1.fst.fst = (1 : Int)) then
 some (((1 : Int), r1.fst.snd, false, (0 : Int)), r0.snd, r1.snd) else none else none else bif !(r0.fst.snd == (0 : Int)) == false then
 some (((1 : Int), false, false, (0 : Int)), r0.snd, wait0, wait1) else bif r0.fst.snd != (0 : Int) then
 bif decide ((↑r0.fst.fst.length : Int) > (0 : Int)) then
 some (((1 : Int), false, false, (0 : Int)), r0.snd, wait0, wait1) else bif decide ((0 : Nat) + r0.fst.fst.length ≤ r0.fst.fst.length) && true then
 (l3 ((a0, a1, a2, a3, a4), end0, r0.fst.snd == (0 : Int)) ((wait0, wait1), List.take r0.fst.fst.length (List.drop (0 : Nat) r0.fst.fst))).bind fun r1 => bif decide (r1.fst.fst = (0 : Int)) then
 some (((0 : Int), false, up, turn), r0.snd, r1.snd) else bif decide (r1.fst.fst = (1 : Int)) then
 some (((1 : Int), r1.fst.snd, false, (0 : Int)), r0.snd, r1.snd) else none else none else bif decide ((0 : Nat) + r0.fst.fst.length ≤ r0.fst.fst.length) && true then
 (l3 ((a0, a1, a2, a3, a4), end0, r0.fst.snd == (0 : Int)) ((wait0, wait1), List.take r0.fst.fst.length (List.drop (0 : Nat) r0.fst.fst))).bind fun r1 => bif decide (r1.fst.fst = (0 : Int)) then
 some (((0 : Int), false, up, turn), r0.snd, r1.snd) else bif decide (r1.fst.fst = (1 : Int)) then
 some (((1 : Int), r1.fst.snd, false, (0 : Int)), r0.snd, r1.snd) else none else none else bif t54 == (8 : Int) then
 (x13 ((n0, n1), k, end0, a3)).bind fun r0 => bif up then
 bif !(r0.fst.snd == (0 : Int)) == decide (a3 ≥ (0 : Int)) then
 some (((1 : Int), false, false, (0 : Int)), r0.snd, wait0, wait1) else bif r0.fst.snd != (0 : Int) then
 bif decide ((↑r0.fst.fst.length : Int) > (0 : Int)) then
 some (((1 : Int), false, false, (0 : Int)), r0.snd, wait0, wait1) else bif decide ((0 : Nat) + r0.fst.fst.length ≤ r0.fst.fst.length) && true then
 (l3 ((a0, a1, a2, a3, a4), end0, r0.fst.snd == (0 : Int)) ((wait0, wait1), List.take r0.fst.fst.length (List.drop (0 : Nat) r0.fst.fst))).bind fun r1 => bif decide (r1.fst.fst = (0 : Int)) then
 some (((0 : Int), false, up, turn), r0.snd, r1.snd) else bif decide (r1.fst.fst = (1 : Int)) then
 some (((1 : Int), r1.fst.snd, false, (0 : Int)), r0.snd, r1.snd) else none else none else bif decide ((0 : Nat) + r0.fst.fst.length ≤ r0.fst.fst.length) && true then
 (l3 ((a0, a1, a2, a3, a4), end0, r0.fst.snd == (0 : Int)) ((wait0, wait1), List.take r0.fst.fst.length (List.drop (0 : Nat) r0.fst.fst))).bind fun r1 => bif decide (r1.fst.fst = (0 : Int)) then
 some (((0 : Int), false, up, turn), r0.snd, r1.snd) else bif decide (r1.fst.fst = (1 : Int)) then
 some (((1 : Int), r1.fst.snd, false, (0 : Int)), r0.snd, r1.snd) else none else none else bif !(r0.fst.snd == (0 : Int)) == false then
 some (((1 : Int), false, false, (0 : Int)), r0.snd, wait0, wait1) else bif r0.fst.snd != (0 : Int) then
 bif decide ((↑r0.fst.fst.length : Int) > (0 : Int)) then
 some (((1 : Int), false, false, (0 : Int)), r0.snd, wait0, wait1) else bif decide ((0 : Nat) + r0.fst.fst.length ≤ r0.fst.fst.length) && true then
 (l3 ((a0, a1, a2, a3, a4), end0, r0.fst.snd == (0 : Int)) ((wait0, wait1), List.take r0.fst.fst.length (List.drop (0 : Nat) r0.fst.fst))).bind fun r1 => bif decide (r1.fst.fst = (0 : Int)) then
 some (((0 : Int), false, up, turn), r0.snd, r1.snd) else bif decide (r1.fst.fst = (1 : Int)) then
 some (((1 : Int), r1.fst.snd, false, (0 : Int)), r0.snd, r1.snd) else none else none else bif decide ((0 : Nat) + r0.fst.fst.length ≤ r0.fst.fst.length) && true then
 (l3 ((a0, a1, a2, a3, a4), end0, r0.fst.snd == (0 : Int)) ((wait0, wait1), List.take r0.fst.fst.length (List.drop (0 : Nat) r0.fst.fst))).bind fun r1 => bif decide (r1.fst.fst = (0 : Int)) then
 some (((0 : Int), false, up, turn), r0.snd, r1.snd) else bif decide (r1.fst.fst = (1 : Int)) then
 some (((1 : Int), r1.fst.snd, false, (0 : Int)), r0.snd, r1.snd) else none else none else some (((0 : Int), false, up, turn), (n0, n1), wait0, wait1)
theorem r4e (x9 : F9.FT) (x10 : F10.FT) (x15 : F15.FT) (x11 : F11.FT) (x13 : F13.FT) (x16 : F16.FT) (x12 : F12.FT) (x17 : F17.FT) (x18 : F18.FT) (x20 : F20.FT) (l1 : G1) (l2 : G2) (l3 : G3) (kd : Int × (Int × Int × Int × Int × List (Int)) × Int × List (Int) × Int) (d : ((List (Bool × Int × List (Int) × List (Int))) × Bool) × (List (Int) × List (Int)) × Bool × Int) : unitF (tabC Try.prog (tab x9 x10 x15 x11 x13 x16 x12 x17 x18 x20) (pls x9 x10 x15 x11 x13 x16 x12 x17 x18 x20) 100 10) 100 (.node (.node .none (.node .none (.node .none (.node .none (.node .none (.node (.node .none (.node (.unit (u1 l1)) (.node .none (.node .none (.unit (u2 l2)))))) (.node .none (.node (.node .none (.node .none (.node .none (.unit (u3 l3))))) .none)))))))) .none) (u4 fun _ _ => none) (codeAt [1, 1, 1, 1, 1, 1, 0, 1, 0, 0, 1, 1, 0, 0, 1, 1, 1, 1, 0, 1] (bodyOf Try.prog 5)) kd d = r4P x9 x10 x15 x11 x13 x16 x12 x17 x18 x20 l1 l2 l3 kd d := by kernel_rfl
noncomputable def r4 : G4 := r4P F9.f F10.f F15.f F11.f F13.f F16.f F12.f F17.f F18.f F20.f l1 l2 l3
noncomputable def l4 : G4 := r4
theorem ok4 : UnOk Try.prog (u4 l4) (codeAt [1, 1, 1, 1, 1, 1, 0, 1, 0, 0, 1, 1, 0, 0, 1, 1, 1, 1, 0, 1] (bodyOf Try.prog 5)) :=
  blockT (p := (.node (.node .none (.node .none (.node .none (.node .none (.node .none (.node (.node .none (.node (.unit (u1 l1)) (.node .none (.node .none (.unit (u2 l2)))))) (.node .none (.node (.node .none (.node .none (.node .none (.unit (u3 l3))))) .none)))))))) .none)) (fuel := 100) (depth := 10) mixed tabS plsP (planOk_of (.node (.node .none (.node .none (.node .none (.node .none (.node .none (.node (.node .none (.node (.unit (u1 l1)) (.node .none (.node .none (.unit (u2 l2)))))) (.node .none (.node (.node .none (.node .none (.node .none (.unit (u3 l3))))) .none)))))))) .none) _ [([0, 1, 1, 1, 1, 1, 0, 1, 0], u1 l1), ([0, 1, 1, 1, 1, 1, 0, 1, 1, 1, 1], u2 l2), ([0, 1, 1, 1, 1, 1, 1, 1, 0, 1, 1, 1], u3 l3)] rfl ⟨ok1, ok2, ok3, trivial⟩) (fun kd d => r4e F9.f F10.f F15.f F11.f F13.f F16.f F12.f F17.f F18.f F20.f l1 l2 l3 kd d)
def r5P (x9 : F9.FT) (x10 : F10.FT) (x15 : F15.FT) (x11 : F11.FT) (x13 : F13.FT) (x16 : F16.FT) (x12 : F12.FT) (x17 : F17.FT) (x18 : F18.FT) (x20 : F20.FT) (l4 : G4) : (Int × (List (Int × Int × Int × Int × List (Int))) × Int) → (((List (Bool × Int × List (Int) × List (Int))) × Bool) × (List (Int) × List (Int)) × Bool × Int × Int) → Option ((((List (Bool × Int × List (Int) × List (Int))) × Bool) × (List (Int) × List (Int)) × Bool × Int × Int) ⊕ ((Int × Bool) × (((List (Bool × Int × List (Int) × List (Int))) × Bool) × (List (Int) × List (Int))))) := fun (k, t32, t33) ((n0, n1), (wait0, wait1), up, turn, t34) => bif decide (t34 < t33) then
 bif decide ((0 : Int) ≤ t34 ∧ t34 < (↑t32.length : Int) ∧ (0 : Nat) < t32.length) then
 bif decide ((0 : Nat) + t34.toNat < t32.length) then
 bif t34 == (80 : Int) then
 some (Sum.inr (((0 : Int), false), (n0, n1), wait0, wait1)) else bif decide ((0 : Int) ≤ (some (if (300 : Int) < (↑(List.length (t32.getD ((0 : Nat) + t34.toNat) ((0 : Int), (0 : Int), (0 : Int), (0 : Int), [])).snd.snd.snd.snd) : Int) then
 (300 : Int) else (↑(List.length (t32.getD ((0 : Nat) + t34.toNat) ((0 : Int), (0 : Int), (0 : Int), (0 : Int), [])).snd.snd.snd.snd) : Int))).getD (↑(List.length (t32.getD ((0 : Nat) + t34.toNat) ((0 : Int), (0 : Int), (0 : Int), (0 : Int), [])).snd.snd.snd.snd) : Int) ∧ (some (if (300 : Int) < (↑(List.length (t32.getD ((0 : Nat) + t34.toNat) ((0 : Int), (0 : Int), (0 : Int), (0 : Int), [])).snd.snd.snd.snd) : Int) then
 (300 : Int) else (↑(List.length (t32.getD ((0 : Nat) + t34.toNat) ((0 : Int), (0 : Int), (0 : Int), (0 : Int), [])).snd.snd.snd.snd) : Int))).getD (↑(List.length (t32.getD ((0 : Nat) + t34.toNat) ((0 : Int), (0 : Int), (0 : Int), (0 : Int), [])).snd.snd.snd.snd) : Int) ≤ (↑(List.length (t32.getD ((0 : Nat) + t34.toNat) ((0 : Int), (0 : Int), (0 : Int), (0 : Int), [])).snd.snd.snd.snd) : Int) ∧ (0 : Nat) + List.length (t32.getD ((0 : Nat) + t34.toNat) ((0 : Int), (0 : Int), (0 : Int), (0 : Int), [])).snd.snd.snd.snd ≤ List.length (t32.getD ((0 : Nat) + t34.toNat) ((0 : Int), (0 : Int), (0 : Int), (0 : Int), [])).snd.snd.snd.snd) then
 bif decide ((0 : Nat) + List.length (t32.getD ((0 : Nat) + t34.toNat) ((0 : Int), (0 : Int), (0 : Int), (0 : Int), [])).snd.snd.snd.snd ≤ List.length (t32.getD ((0 : Nat) + t34.toNat) ((0 : Int), (0 : Int), (0 : Int), (0 : Int), [])).snd.snd.snd.snd) && true then
 bif decide ((0 : Nat) + ((some (if (300 : Int) < (↑(List.length (t32.getD ((0 : Nat) + t34.toNat) ((0 : Int), (0 : Int), (0 : Int), (0 : Int), [])).snd.snd.snd.snd) : Int) then
 (300 : Int) else (↑(List.length (t32.getD ((0 : Nat) + t34.toNat) ((0 : Int), (0 : Int), (0 : Int), (0 : Int), [])).snd.snd.snd.snd) : Int))).getD (↑(List.length (t32.getD ((0 : Nat) + t34.toNat) ((0 : Int), (0 : Int), (0 : Int), (0 : Int), [])).snd.snd.snd.snd) : Int)).toNat ≤ List.length (t32.getD ((0 : Nat) + t34.toNat) ((0 : Int), (0 : Int), (0 : Int), (0 : Int), [])).snd.snd.snd.snd) && true then
 (l4 (k, ((t32.getD ((0 : Nat) + t34.toNat) ((0 : Int), (0 : Int), (0 : Int), (0 : Int), [])).fst, (t32.getD ((0 : Nat) + t34.toNat) ((0 : Int), (0 : Int), (0 : Int), (0 : Int), [])).snd.fst, (t32.getD ((0 : Nat) + t34.toNat) ((0 : Int), (0 : Int), (0 : Int), (0 : Int), [])).snd.snd.fst, (t32.getD ((0 : Nat) + t34.toNat) ((0 : Int), (0 : Int), (0 : Int), (0 : Int), [])).snd.snd.snd.fst, List.take (List.length (t32.getD ((0 : Nat) + t34.toNat) ((0 : Int), (0 : Int), (0 : Int), (0 : Int), [])).snd.snd.snd.snd) (List.drop (0 : Nat) (t32.getD ((0 : Nat) + t34.toNat) ((0 : Int), (0 : Int), (0 : Int), (0 : Int), [])).snd.snd.snd.snd)), IntKind.i64.wrap ((IntKind.u64.wrap (t32.getD ((0 : Nat) + t34.toNat) ((0 : Int), (0 : Int), (0 : Int), (0 : Int), [])).snd.snd.fst).tmod (2 : Int)), List.take ((some (if (300 : Int) < (↑(List.length (t32.getD ((0 : Nat) + t34.toNat) ((0 : Int), (0 : Int), (0 : Int), (0 : Int), [])).snd.snd.snd.snd) : Int) then
 (300 : Int) else (↑(List.length (t32.getD ((0 : Nat) + t34.toNat) ((0 : Int), (0 : Int), (0 : Int), (0 : Int), [])).snd.snd.snd.snd) : Int))).getD (↑(List.length (t32.getD ((0 : Nat) + t34.toNat) ((0 : Int), (0 : Int), (0 : Int), (0 : Int), [])).snd.snd.snd.snd) : Int)).toNat (List.drop (0 : Nat) (t32.getD ((0 : Nat) + t34.toNat) ((0 : Int), (0 : Int), (0 : Int), (0 : Int), [])).snd.snd.snd.snd), (t32.getD ((0 : Nat) + t34.toNat) ((0 : Int), (0 : Int), (0 : Int), (0 : Int), [])).fst) ((n0, n1), (wait0, wait1), up, turn)).bind fun r0 => bif decide (r0.fst.fst = (0 : Int)) then
 (x12 (r0.snd.fst, k, (0 : Int))).bind fun r1 => bif r1.fst != (↑r0.snd.snd.fst.length : Int) then
 bif decide ((0 : Nat) + r0.snd.snd.fst.length ≤ r0.snd.snd.fst.length) && true then
 bif decide ((0 : Nat) + List.length r0.snd.snd.snd ≤ List.length r0.snd.snd.snd) && true then
 some (Sum.inr (((1 : Int), false), r1.snd, List.take r0.snd.snd.fst.length (List.drop (0 : Nat) r0.snd.snd.fst), List.take (List.length r0.snd.snd.snd) (List.drop (0 : Nat) r0.snd.snd.snd))) else none else none else (x12 (r1.snd, k, (1 : Int))).bind fun r2 => bif r2.fst != (↑(List.length r0.snd.snd.snd) : Int) then
 bif decide ((0 : Nat) + r0.snd.snd.fst.length ≤ r0.snd.snd.fst.length) && true then
 bif decide ((0 : Nat) + List.length r0.snd.snd.snd ≤ List.length r0.snd.snd.snd) && true then
 some (Sum.inr (((1 : Int), false), r2.snd, List.take r0.snd.snd.fst.length (List.drop (0 : Nat) r0.snd.snd.fst), List.take (List.length r0.snd.snd.snd) (List.drop (0 : Nat) r0.snd.snd.snd))) else none else none else (x17 (r2.snd, k)).bind fun r3 => bif !r3.fst == r0.fst.snd.snd.fst then
 bif decide ((0 : Nat) + r0.snd.snd.fst.length ≤ r0.snd.snd.fst.length) && true then
 bif decide ((0 : Nat) + List.length r0.snd.snd.snd ≤ List.length r0.snd.snd.snd) && true then
 some (Sum.inr (((1 : Int), false), r3.snd, List.take r0.snd.snd.fst.length (List.drop (0 : Nat) r0.snd.snd.fst), List.take (List.length r0.snd.snd.snd) (List.drop (0 : Nat) r0.snd.snd.snd))) else none else none else (x18 (r3.snd, k)).bind fun r4 => bif r4.fst != r0.fst.snd.snd.snd then
 bif decide ((0 : Nat) + r0.snd.snd.fst.length ≤ r0.snd.snd.fst.length) && true then
 bif decide ((0 : Nat) + List.length r0.snd.snd.snd ≤ List.length r0.snd.snd.snd) && true then
 some (Sum.inr (((1 : Int), false), r4.snd, List.take r0.snd.snd.fst.length (List.drop (0 : Nat) r0.snd.snd.fst), List.take (List.length r0.snd.snd.snd) (List.drop (0 : Nat) r0.snd.snd.snd))) else none else none else (x20 r4.snd).bind fun r5 => bif !r5.fst == (IntKind.i64.wrap ((↑r0.snd.snd.fst.length : Int) + (↑(List.length r0.snd.snd.snd) : Int)) == (0 : Int)) then
 bif decide ((0 : Nat) + r0.snd.snd.fst.length ≤ r0.snd.snd.fst.length) && true then
 bif decide ((0 : Nat) + List.length r0.snd.snd.snd ≤ List.length r0.snd.snd.snd) && true then
 some (Sum.inr (((1 : Int), false), r5.snd, List.take r0.snd.snd.fst.length (List.drop (0 : Nat) r0.snd.snd.fst), List.take (List.length r0.snd.snd.snd) (List.drop (0 : Nat) r0.snd.snd.snd))) else none else none else bif decide ((0 : Nat) + r0.snd.snd.fst.length ≤ r0.snd.snd.fst.length) && true then
 bif decide ((0 : Nat) + List.length r0.snd.snd.snd ≤ List.length r0.snd.snd.snd) && true then
 some (Sum.inl (r5.snd, (List.take r0.snd.snd.fst.length (List.drop (0 : Nat) r0.snd.snd.fst), List.take (List.length r0.snd.snd.snd) (List.drop (0 : Nat) r0.snd.snd.snd)), r0.fst.snd.snd.fst, r0.fst.snd.snd.snd, IntKind.i64.wrap (t34 + (1 : Int)))) else none else none else bif decide (r0.fst.fst = (1 : Int)) then
 some (Sum.inr (((1 : Int), r0.fst.snd.fst), r0.snd.fst, r0.snd.snd)) else none else none else none else none else none else none else some (Sum.inr (((0 : Int), false), (n0, n1), wait0, wait1))
theorem r5e (x9 : F9.FT) (x10 : F10.FT) (x15 : F15.FT) (x11 : F11.FT) (x13 : F13.FT) (x16 : F16.FT) (x12 : F12.FT) (x17 : F17.FT) (x18 : F18.FT) (x20 : F20.FT) (l4 : G4) (kd : Int × (List (Int × Int × Int × Int × List (Int))) × Int) (d : ((List (Bool × Int × List (Int) × List (Int))) × Bool) × (List (Int) × List (Int)) × Bool × Int × Int) : roundF (tabC Try.prog (tab x9 x10 x15 x11 x13 x16 x12 x17 x18 x20) (pls x9 x10 x15 x11 x13 x16 x12 x17 x18 x20) 100 10) 100 (.node .none (.node .none (.node (.node (.node .none (.node .none (.node .none (.node .none (.node (.node .none (.unit (u4 l4))) .none))))) .none) .none))) (u5 fun _ _ => none) (codeAt [1, 1, 1, 1, 1, 1, 0, 1, 0, 0] (bodyOf Try.prog 5)) kd d = r5P x9 x10 x15 x11 x13 x16 x12 x17 x18 x20 l4 kd d := by kernel_rfl
noncomputable def r5 : (Int × (List (Int × Int × Int × Int × List (Int))) × Int) → (((List (Bool × Int × List (Int) × List (Int))) × Bool) × (List (Int) × List (Int)) × Bool × Int × Int) → Option ((((List (Bool × Int × List (Int) × List (Int))) × Bool) × (List (Int) × List (Int)) × Bool × Int × Int) ⊕ ((Int × Bool) × (((List (Bool × Int × List (Int) × List (Int))) × Bool) × (List (Int) × List (Int))))) := r5P F9.f F10.f F15.f F11.f F13.f F16.f F12.f F17.f F18.f F20.f l4
noncomputable def l5 : G5 := fun kd d => iterO (r5 kd) d
theorem ok5 : UnOk Try.prog (u5 l5) (codeAt [1, 1, 1, 1, 1, 1, 0, 1, 0] (bodyOf Try.prog 5)) :=
  loopT (p := (.node .none (.node .none (.node (.node (.node .none (.node .none (.node .none (.node .none (.node (.node .none (.unit (u4 l4))) .none))))) .none) .none)))) (c := codeAt [1, 1, 1, 1, 1, 1, 0, 1, 0, 0] (bodyOf Try.prog 5)) (fuel := 100) (depth := 10) mixed tabS plsP (by kernel_rfl) (planOk_of (.node .none (.node .none (.node (.node (.node .none (.node .none (.node .none (.node .none (.node (.node .none (.unit (u4 l4))) .none))))) .none) .none))) _ [([1, 1, 0, 0, 1, 1, 1, 1, 0, 1], u4 l4)] rfl ⟨ok4, trivial⟩) (by kernel_rfl) (fun kd d => r5e F9.f F10.f F15.f F11.f F13.f F16.f F12.f F17.f F18.f F20.f l4 kd d) rfl
def fP (x9 : F9.FT) (x10 : F10.FT) (x15 : F15.FT) (x11 : F11.FT) (x13 : F13.FT) (x16 : F16.FT) (x12 : F12.FT) (x17 : F17.FT) (x18 : F18.FT) (x20 : F20.FT) (l5 : G5) : FT := fun l => (x9 ([], true)).bind fun r0 => bif r0.fst.snd != (0 : Int) then
 some (false, PUnit.unit) else (x10 (r0.snd, r0.fst.fst)).bind fun r1 => bif r1.fst != (0 : Int) then
 some (false, PUnit.unit) else bif decide ((0 : Nat) + l.length ≤ l.length) && true then
 (l5 (r0.fst.fst, List.take l.length l, (↑l.length : Int)) (r1.snd, ([], []), true, (0 : Int), (0 : Int))).bind fun r2 => bif decide (r2.fst.fst = (0 : Int)) then
 some (true, PUnit.unit) else bif decide (r2.fst.fst = (1 : Int)) then
 some (r2.fst.snd, PUnit.unit) else none else none
theorem fe (x9 : F9.FT) (x10 : F10.FT) (x15 : F15.FT) (x11 : F11.FT) (x13 : F13.FT) (x16 : F16.FT) (x12 : F12.FT) (x17 : F17.FT) (x18 : F18.FT) (x20 : F20.FT) (l5 : G5) (d : (List (Int × Int × Int × Int × List (Int)))) : bodyF (tabC Try.prog (tab x9 x10 x15 x11 x13 x16 x12 x17 x18 x20) ((5, (.node .none (.node .none (.node .none (.node .none (.node .none (.node .none (.node (.node .none (.node (.unit (u5 l5)) .none)) .none)))))))) :: pls x9 x10 x15 x11 x13 x16 x12 x17 x18 x20) 100 10) 100 5 i o d = fP x9 x10 x15 x11 x13 x16 x12 x17 x18 x20 l5 d := by kernel_rfl
noncomputable def f : FT := fP F9.f F10.f F15.f F11.f F13.f F16.f F12.f F17.f F18.f F20.f l5
def plan (l5 : G5) : Plan := (.node .none (.node .none (.node .none (.node .none (.node .none (.node .none (.node (.node .none (.node (.unit (u5 l5)) .none)) .none)))))))
theorem planOk : PlanOk Try.prog (plan l5) (bodyOf Try.prog 5) := (planOk_of (plan l5) _ [([1, 1, 1, 1, 1, 1, 0, 1, 0], u5 l5)] rfl ⟨ok5, trivial⟩)
theorem meets : MeetsF Try.prog 5 ⟨i, o, f⟩ :=
  funcT (fuel := 100) (depth := 10) (pl := (5, plan l5) :: pls F9.f F10.f F15.f F11.f F13.f F16.f F12.f F17.f F18.f F20.f) mixed tabS ⟨planOk, plsP⟩ (fun d => fe F9.f F10.f F15.f F11.f F13.f F16.f F12.f F17.f F18.f F20.f l5 d)
theorem spec : SpecOk Try.prog (fun _ => none) 5 (specF ⟨i, o, f⟩) := specF_ok (by kernel_rfl) meets
end Go.Proofs.Yteoiaihjapddoaa.F5
