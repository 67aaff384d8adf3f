/- What comes of function 3 of this program, consulate.consulatelaw21.ChooseTotal, as the engine gives it. -/
import Derived.Test.YtaniibilgdhdiaaDoorChecked
import Derived.Test.YtaniibilgdhdiaaDoorZN
import Derived.Test.YtaniibilgdhdiaaDoorF7
import Derived.Test.YtaniibilgdhdiaaDoorKA
namespace Go.Proofs.YtaniibilgdhdiaaDoor.F3
open Go Go.Proofs Go.Proofs.YtaniibilgdhdiaaDoor Go.RowKit Go.Proofs.YtaniibilgdhdiaaDoor.Sx
set_option linter.unusedVariables false
set_option maxRecDepth 100000
def tab (x7 : F7.FT) : List (FuncId × Sx.Spec) := [(7, specF ⟨F7.i, F7.o, x7⟩), (9, pureS saysS)]
def pls (x7 : F7.FT) : List (FuncId × Plan) := []
@[reducible] def k1 : Sh := .sc (.int .i64) (.sc (.int .i64) (.sc (.int .i64) (.sc (.int .i64) (.sc (.int .i64) (.sc (.int .i64) .nil)))))
@[reducible] def i1 : Sh := .nil
@[reducible] def o1 : Sh := .sc (.int .i64) (.sc .bool .nil)
abbrev G1 := (Int × Int × Int × Int × Int × Int) → Unit → Option ((Int × Bool) × Unit)
def u1 (F : G1) : Un := ⟨202, [9, 10, 11, 12, 13, 14], k1, [], i1, [6], o1, [3, 4, 8, 9, 10, 12, 25, 28], [(.normal, [false]), (.ret, [true])], F⟩
@[reducible] def k2 : Sh := .pt true 27 (.sc (.int .u32) (.sc (.int .i64) (.sc (.int .u8) (.sc (.int .u32) (.sc (.int .u32) (.sc (.int .i64) (.sc (.int .i64) (.sc (.int .u32) (.sc (.int .i64) (.sc (.int .u32) (.sc (.int .i64) (.sc (.int .u8) (.sc (.int .u32) (.sc (.int .u32) (.sc (.int .i64) (.sc (.int .i64) (.sc (.int .u32) (.sc (.int .i64) (.sc (.int .u32) (.sc (.int .i64) (.sc (.int .u8) (.sc (.int .u32) (.sc (.int .u32) (.sc (.int .i64) (.sc (.int .i64) (.sc (.int .u32) (.sc (.int .i64) .nil))))))))))))))))))))))))))) (.pt true 4 (.sc .bool .nil) (.sc (.int .i64) (.sc (.int .i64) (.sc (.int .i64) .nil))))
@[reducible] def i2 : Sh := .nil
@[reducible] def o2 : Sh := .sc (.int .i64) (.sc .bool .nil)
abbrev G2 := ((Int × Int × Int × Int × Int × Int × Int × Int × Int × Int × Int × Int × Int × Int × Int × Int × Int × Int × Int × Int × Int × Int × Int × Int × Int × Int × Int) × Bool × Int × Int × Int) → Unit → Option ((Int × Bool) × Unit)
def u2 (F : G2) : Un := ⟨202, [3, 4, 9, 10, 12], k2, [], i2, [6], o2, [3, 4, 8, 9, 25, 28], [(.normal, [false]), (.ret, [true])], F⟩
@[reducible] def i : Sh := .ag (.sc (.int .u32) (.sc (.int .i64) (.sc (.int .u8) (.sc (.int .u32) (.sc (.int .u32) (.sc (.int .i64) (.sc (.int .i64) (.sc (.int .u32) (.sc (.int .i64) (.sc (.int .u32) (.sc (.int .i64) (.sc (.int .u8) (.sc (.int .u32) (.sc (.int .u32) (.sc (.int .i64) (.sc (.int .i64) (.sc (.int .u32) (.sc (.int .i64) (.sc (.int .u32) (.sc (.int .i64) (.sc (.int .u8) (.sc (.int .u32) (.sc (.int .u32) (.sc (.int .i64) (.sc (.int .i64) (.sc (.int .u32) (.sc (.int .i64) .nil))))))))))))))))))))))))))) (.sc .bool (.sc (.int .u32) .nil))
@[reducible] def o : Sh := .sc .bool .nil
abbrev FT := ((Int × Int × Int × Int × Int × Int × Int × Int × Int × Int × Int × Int × Int × Int × Int × Int × Int × Int × Int × Int × Int × Int × Int × Int × Int × Int × Int) × Bool × Int) → Option (Bool × Unit)
theorem tabS : AllS Tryd.prog (tab F7.f) := ⟨F7.spec, says_ok (by kernel_rfl) KA.tells, trivial⟩
theorem plsP : AllP Tryd.prog (pls F7.f) := trivial
theorem mixed : Tryd.prog.follows .mixedOrders = true := by kernel_rfl
def r1P (x7 : F7.FT) : G1 := fun (i, j, a, r, b, s) () => bif a != IntKind.i64.wrap (0 - b) then
 some ((1, false), PUnit.unit) else bif r != s then
 some ((1, false), PUnit.unit) else bif !(a == 0) == (r == 0) then
 some ((1, false), PUnit.unit) else bif i == j then
 bif a != 0 then
 some ((1, false), PUnit.unit) else bif decide (r < 0) then
 some ((1, false), PUnit.unit) else bif decide (r > 8) then
 some ((1, false), PUnit.unit) else bif decide (r < 1) then
 bif r != 0 then
 some ((1, false), PUnit.unit) else some ((0, false), PUnit.unit) else bif decide (r > 8) then
 bif r != 0 then
 some ((1, false), PUnit.unit) else some ((0, false), PUnit.unit) else bif decide (0 ≤ r ∧ r < 9) then
 bif r.toNat.beq 0 then
 bif r != 0 then
 some ((1, false), PUnit.unit) else some ((0, false), PUnit.unit) else bif r.toNat.beq 1 then
 some ((0, false), PUnit.unit) else bif r.toNat.beq 2 then
 some ((0, false), PUnit.unit) else bif r.toNat.beq 3 then
 some ((0, false), PUnit.unit) else bif r.toNat.beq 4 then
 some ((0, false), PUnit.unit) else bif r.toNat.beq 5 then
 some ((0, false), PUnit.unit) else bif r.toNat.beq 6 then
 some ((0, false), PUnit.unit) else bif r.toNat.beq 7 then
 some ((0, false), PUnit.unit) else bif r.toNat.beq 8 then
 some ((0, false), PUnit.unit) else none else none else bif decide (r < 0) then
 some ((1, false), PUnit.unit) else bif decide (r > 8) then
 some ((1, false), PUnit.unit) else bif decide (r < 1) then
 bif r != 0 then
 some ((1, false), PUnit.unit) else some ((0, false), PUnit.unit) else bif decide (r > 8) then
 bif r != 0 then
 some ((1, false), PUnit.unit) else some ((0, false), PUnit.unit) else bif decide (0 ≤ r ∧ r < 9) then
 bif r.toNat.beq 0 then
 bif r != 0 then
 some ((1, false), PUnit.unit) else some ((0, false), PUnit.unit) else bif r.toNat.beq 1 then
 some ((0, false), PUnit.unit) else bif r.toNat.beq 2 then
 some ((0, false), PUnit.unit) else bif r.toNat.beq 3 then
 some ((0, false), PUnit.unit) else bif r.toNat.beq 4 then
 some ((0, false), PUnit.unit) else bif r.toNat.beq 5 then
 some ((0, false), PUnit.unit) else bif r.toNat.beq 6 then
 some ((0, false), PUnit.unit) else bif r.toNat.beq 7 then
 some ((0, false), PUnit.unit) else bif r.toNat.beq 8 then
 some ((0, false), PUnit.unit) else none else none
theorem r1e (x7 : F7.FT) (kd : Int × Int × Int × Int × Int × Int) (d : Unit) : unitF (tabC Tryd.prog (tab x7) (pls x7) 100 10) 100 .none (u1 fun _ _ => none) (codeAt [1, 1, 1, 0, 1, 0, 0, 1, 1, 0, 0, 1, 1, 0, 0, 1, 1, 0, 0, 1, 1, 1, 0] (bodyOf Tryd.prog 3)) kd d = r1P x7 kd d := by kernel_rfl
noncomputable def r1 : G1 := r1P F7.f
noncomputable def l1 : G1 := r1
theorem ok1 : UnOk Tryd.prog (u1 l1) (codeAt [1, 1, 1, 0, 1, 0, 0, 1, 1, 0, 0, 1, 1, 0, 0, 1, 1, 0, 0, 1, 1, 1, 0] (bodyOf Tryd.prog 3)) :=
  blockT (p := .none) (fuel := 100) (depth := 10) mixed tabS plsP trivial (fun kd d => r1e F7.f kd d)
def r2c0P (x7 : F7.FT) : G2 := fun ((l0, l1_2, l2_2, l3_2, l4_2, l5_2, l6_2, l7_2, l8_2, l9_2, l10_2, l11_2, l12_2, l13_2, l14_2, l15_2, l16_2, l17_2, l18_2, l19_2, l20_2, l21_2, l22_2, l23_2, l24_2, l25_2, l26_2), one, _, _, r) () => bif decide (r > 1) then
 bif l0 != l0 then
 some ((1, false), PUnit.unit) else bif decide (r > 2) then
 bif l1_2 != l1_2 then
 some ((1, false), PUnit.unit) else bif decide (r > 3) then
 bif l2_2 != l2_2 then
 some ((1, false), PUnit.unit) else bif one then
 bif decide (r > 4) then
 bif l3_2 != l3_2 then
 some ((1, false), PUnit.unit) else bif decide (r > 6) then
 bif l6_2 != l6_2 then
 some ((1, false), PUnit.unit) else some ((0, false), PUnit.unit) else some ((0, false), PUnit.unit) else bif decide (r > 6) then
 bif l6_2 != l6_2 then
 some ((1, false), PUnit.unit) else some ((0, false), PUnit.unit) else some ((0, false), PUnit.unit) else bif decide (r > 6) then
 bif l6_2 != l6_2 then
 some ((1, false), PUnit.unit) else some ((0, false), PUnit.unit) else some ((0, false), PUnit.unit) else bif one then
 bif decide (r > 4) then
 bif l3_2 != l3_2 then
 some ((1, false), PUnit.unit) else bif decide (r > 6) then
 bif l6_2 != l6_2 then
 some ((1, false), PUnit.unit) else some ((0, false), PUnit.unit) else some ((0, false), PUnit.unit) else bif decide (r > 6) then
 bif l6_2 != l6_2 then
 some ((1, false), PUnit.unit) else some ((0, false), PUnit.unit) else some ((0, false), PUnit.unit) else bif decide (r > 6) then
 bif l6_2 != l6_2 then
 some ((1, false), PUnit.unit) else some ((0, false), PUnit.unit) else some ((0, false), PUnit.unit) else bif decide (r > 3) then
 bif l2_2 != l2_2 then
 some ((1, false), PUnit.unit) else bif one then
 bif decide (r > 4) then
 bif l3_2 != l3_2 then
 some ((1, false), PUnit.unit) else bif decide (r > 6) then
 bif l6_2 != l6_2 then
 some ((1, false), PUnit.unit) else some ((0, false), PUnit.unit) else some ((0, false), PUnit.unit) else bif decide (r > 6) then
 bif l6_2 != l6_2 then
 some ((1, false), PUnit.unit) else some ((0, false), PUnit.unit) else some ((0, false), PUnit.unit) else bif decide (r > 6) then
 bif l6_2 != l6_2 then
 some ((1, false), PUnit.unit) else some ((0, false), PUnit.unit) else some ((0, false), PUnit.unit) else bif one then
 bif decide (r > 4) then
 bif l3_2 != l3_2 then
 some ((1, false), PUnit.unit) else bif decide (r > 6) then
 bif l6_2 != l6_2 then
 some ((1, false), PUnit.unit) else some ((0, false), PUnit.unit) else some ((0, false), PUnit.unit) else bif decide (r > 6) then
 bif l6_2 != l6_2 then
 some ((1, false), PUnit.unit) else some ((0, false), PUnit.unit) else some ((0, false), PUnit.unit) else bif decide (r > 6) then
 bif l6_2 != l6_2 then
 some ((1, false), PUnit.unit) else some ((0, false), PUnit.unit) else some ((0, false), PUnit.unit) else bif decide (r > 2) then
 bif l1_2 != l1_2 then
 some ((1, false), PUnit.unit) else bif decide (r > 3) then
 bif l2_2 != l2_2 then
 some ((1, false), PUnit.unit) else bif one then
 bif decide (r > 4) then
 bif l3_2 != l3_2 then
 some ((1, false), PUnit.unit) else bif decide (r > 6) then
 bif l6_2 != l6_2 then
 some ((1, false), PUnit.unit) else some ((0, false), PUnit.unit) else some ((0, false), PUnit.unit) else bif decide (r > 6) then
 bif l6_2 != l6_2 then
 some ((1, false), PUnit.unit) else some ((0, false), PUnit.unit) else some ((0, false), PUnit.unit) else bif decide (r > 6) then
 bif l6_2 != l6_2 then
 some ((1, false), PUnit.unit) else some ((0, false), PUnit.unit) else some ((0, false), PUnit.unit) else bif one then
 bif decide (r > 4) then
 bif l3_2 != l3_2 then
 some ((1, false), PUnit.unit) else bif decide (r > 6) then
 bif l6_2 != l6_2 then
 some ((1, false), PUnit.unit) else some ((0, false), PUnit.unit) else some ((0, false), PUnit.unit) else bif decide (r > 6) then
 bif l6_2 != l6_2 then
 some ((1, false), PUnit.unit) else some ((0, false), PUnit.unit) else some ((0, false), PUnit.unit) else bif decide (r > 6) then
 bif l6_2 != l6_2 then
 some ((1, false), PUnit.unit) else some ((0, false), PUnit.unit) else some ((0, false), PUnit.unit) else bif decide (r > 3) then
 bif l2_2 != l2_2 then
 some ((1, false), PUnit.unit) else bif one then
 bif decide (r > 4) then
 bif l3_2 != l3_2 then
 some ((1, false), PUnit.unit) else bif decide (r > 6) then
 bif l6_2 != l6_2 then
 some ((1, false), PUnit.unit) else some ((0, false), PUnit.unit) else some ((0, false), PUnit.unit) else bif decide (r > 6) then
 bif l6_2 != l6_2 then
 some ((1, false), PUnit.unit) else some ((0, false), PUnit.unit) else some ((0, false), PUnit.unit) else bif decide (r > 6) then
 bif l6_2 != l6_2 then
 some ((1, false), PUnit.unit) else some ((0, false), PUnit.unit) else some ((0, false), PUnit.unit) else bif one then
 bif decide (r > 4) then
 bif l3_2 != l3_2 then
 some ((1, false), PUnit.unit) else bif decide (r > 6) then
 bif l6_2 != l6_2 then
 some ((1, false), PUnit.unit) else some ((0, false), PUnit.unit) else some ((0, false), PUnit.unit) else bif decide (r > 6) then
 bif l6_2 != l6_2 then
 some ((1, false), PUnit.unit) else some ((0, false), PUnit.unit) else some ((0, false), PUnit.unit) else bif decide (r > 6) then
 bif l6_2 != l6_2 then
 some ((1, false), PUnit.unit) else some ((0, false), PUnit.unit) else some ((0, false), PUnit.unit)
theorem r2c0e (x7 : F7.FT) (l0 : Int) (l1_2 : Int) (l2_2 : Int) (l3_2 : Int) (l4_2 : Int) (l5_2 : Int) (l6_2 : Int) (l7_2 : Int) (l8_2 : Int) (l9_2 : Int) (l10_2 : Int) (l11_2 : Int) (l12_2 : Int) (l13_2 : Int) (l14_2 : Int) (l15_2 : Int) (l16_2 : Int) (l17_2 : Int) (l18_2 : Int) (l19_2 : Int) (l20_2 : Int) (l21_2 : Int) (l22_2 : Int) (l23_2 : Int) (l24_2 : Int) (l25_2 : Int) (l26_2 : Int) (one : Bool) (r : Int) : unitF (tabC Tryd.prog (tab x7) (pls x7) 100 10) 100 .none (u2 fun _ _ => none) (codeAt [1, 1, 1, 0, 1, 0, 0, 1, 1, 0, 0, 1, 1, 0, 0, 1, 1, 0, 0, 1, 1, 1, 1] (bodyOf Tryd.prog 3)) ((l0, l1_2, l2_2, l3_2, l4_2, l5_2, l6_2, l7_2, l8_2, l9_2, l10_2, l11_2, l12_2, l13_2, l14_2, l15_2, l16_2, l17_2, l18_2, l19_2, l20_2, l21_2, l22_2, l23_2, l24_2, l25_2, l26_2), one, (0 : Int), (0 : Int), r) () = r2c0P x7 ((l0, l1_2, l2_2, l3_2, l4_2, l5_2, l6_2, l7_2, l8_2, l9_2, l10_2, l11_2, l12_2, l13_2, l14_2, l15_2, l16_2, l17_2, l18_2, l19_2, l20_2, l21_2, l22_2, l23_2, l24_2, l25_2, l26_2), one, (0 : Int), (0 : Int), r) () := by kernel_rfl
def r2c1P (x7 : F7.FT) : G2 := fun ((l0, l1_2, l2_2, l3_2, l4_2, l5_2, l6_2, l7_2, l8_2, l9_2, l10_2, l11_2, l12_2, l13_2, l14_2, l15_2, l16_2, l17_2, l18_2, l19_2, l20_2, l21_2, l22_2, l23_2, l24_2, l25_2, l26_2), one, _, _, r) () => bif decide (r > 1) then
 bif l0 != l9_2 then
 some ((1, false), PUnit.unit) else bif decide (r > 2) then
 bif l1_2 != l10_2 then
 some ((1, false), PUnit.unit) else bif decide (r > 3) then
 bif l2_2 != l11_2 then
 some ((1, false), PUnit.unit) else bif one then
 bif decide (r > 4) then
 bif l3_2 != l12_2 then
 some ((1, false), PUnit.unit) else bif decide (r > 6) then
 bif l6_2 != l15_2 then
 some ((1, false), PUnit.unit) else some ((0, false), PUnit.unit) else some ((0, false), PUnit.unit) else bif decide (r > 6) then
 bif l6_2 != l15_2 then
 some ((1, false), PUnit.unit) else some ((0, false), PUnit.unit) else some ((0, false), PUnit.unit) else bif decide (r > 6) then
 bif l6_2 != l15_2 then
 some ((1, false), PUnit.unit) else some ((0, false), PUnit.unit) else some ((0, false), PUnit.unit) else bif one then
 bif decide (r > 4) then
 bif l3_2 != l12_2 then
 some ((1, false), PUnit.unit) else bif decide (r > 6) then
 bif l6_2 != l15_2 then
 some ((1, false), PUnit.unit) else some ((0, false), PUnit.unit) else some ((0, false), PUnit.unit) else bif decide (r > 6) then
 bif l6_2 != l15_2 then
 some ((1, false), PUnit.unit) else some ((0, false), PUnit.unit) else some ((0, false), PUnit.unit) else bif decide (r > 6) then
 bif l6_2 != l15_2 then
 some ((1, false), PUnit.unit) else some ((0, false), PUnit.unit) else some ((0, false), PUnit.unit) else bif decide (r > 3) then
 bif l2_2 != l11_2 then
 some ((1, false), PUnit.unit) else bif one then
 bif decide (r > 4) then
 bif l3_2 != l12_2 then
 some ((1, false), PUnit.unit) else bif decide (r > 6) then
 bif l6_2 != l15_2 then
 some ((1, false), PUnit.unit) else some ((0, false), PUnit.unit) else some ((0, false), PUnit.unit) else bif decide (r > 6) then
 bif l6_2 != l15_2 then
 some ((1, false), PUnit.unit) else some ((0, false), PUnit.unit) else some ((0, false), PUnit.unit) else bif decide (r > 6) then
 bif l6_2 != l15_2 then
 some ((1, false), PUnit.unit) else some ((0, false), PUnit.unit) else some ((0, false), PUnit.unit) else bif one then
 bif decide (r > 4) then
 bif l3_2 != l12_2 then
 some ((1, false), PUnit.unit) else bif decide (r > 6) then
 bif l6_2 != l15_2 then
 some ((1, false), PUnit.unit) else some ((0, false), PUnit.unit) else some ((0, false), PUnit.unit) else bif decide (r > 6) then
 bif l6_2 != l15_2 then
 some ((1, false), PUnit.unit) else some ((0, false), PUnit.unit) else some ((0, false), PUnit.unit) else bif decide (r > 6) then
 bif l6_2 != l15_2 then
 some ((1, false), PUnit.unit) else some ((0, false), PUnit.unit) else some ((0, false), PUnit.unit) else bif decide (r > 2) then
 bif l1_2 != l10_2 then
 some ((1, false), PUnit.unit) else bif decide (r > 3) then
 bif l2_2 != l11_2 then
 some ((1, false), PUnit.unit) else bif one then
 bif decide (r > 4) then
 bif l3_2 != l12_2 then
 some ((1, false), PUnit.unit) else bif decide (r > 6) then
 bif l6_2 != l15_2 then
 some ((1, false), PUnit.unit) else some ((0, false), PUnit.unit) else some ((0, false), PUnit.unit) else bif decide (r > 6) then
 bif l6_2 != l15_2 then
 some ((1, false), PUnit.unit) else some ((0, false), PUnit.unit) else some ((0, false), PUnit.unit) else bif decide (r > 6) then
 bif l6_2 != l15_2 then
 some ((1, false), PUnit.unit) else some ((0, false), PUnit.unit) else some ((0, false), PUnit.unit) else bif one then
 bif decide (r > 4) then
 bif l3_2 != l12_2 then
 some ((1, false), PUnit.unit) else bif decide (r > 6) then
 bif l6_2 != l15_2 then
 some ((1, false), PUnit.unit) else some ((0, false), PUnit.unit) else some ((0, false), PUnit.unit) else bif decide (r > 6) then
 bif l6_2 != l15_2 then
 some ((1, false), PUnit.unit) else some ((0, false), PUnit.unit) else some ((0, false), PUnit.unit) else bif decide (r > 6) then
 bif l6_2 != l15_2 then
 some ((1, false), PUnit.unit) else some ((0, false), PUnit.unit) else some ((0, false), PUnit.unit) else bif decide (r > 3) then
 bif l2_2 != l11_2 then
 some ((1, false), PUnit.unit) else bif one then
 bif decide (r > 4) then
 bif l3_2 != l12_2 then
 some ((1, false), PUnit.unit) else bif decide (r > 6) then
 bif l6_2 != l15_2 then
 some ((1, false), PUnit.unit) else some ((0, false), PUnit.unit) else some ((0, false), PUnit.unit) else bif decide (r > 6) then
 bif l6_2 != l15_2 then
 some ((1, false), PUnit.unit) else some ((0, false), PUnit.unit) else some ((0, false), PUnit.unit) else bif decide (r > 6) then
 bif l6_2 != l15_2 then
 some ((1, false), PUnit.unit) else some ((0, false), PUnit.unit) else some ((0, false), PUnit.unit) else bif one then
 bif decide (r > 4) then
 bif l3_2 != l12_2 then
 some ((1, false), PUnit.unit) else bif decide (r > 6) then
 bif l6_2 != l15_2 then
 some ((1, false), PUnit.unit) else some ((0, false), PUnit.unit) else some ((0, false), PUnit.unit) else bif decide (r > 6) then
 bif l6_2 != l15_2 then
 some ((1, false), PUnit.unit) else some ((0, false), PUnit.unit) else some ((0, false), PUnit.unit) else bif decide (r > 6) then
 bif l6_2 != l15_2 then
 some ((1, false), PUnit.unit) else some ((0, false), PUnit.unit) else some ((0, false), PUnit.unit)
theorem r2c1e (x7 : F7.FT) (l0 : Int) (l1_2 : Int) (l2_2 : Int) (l3_2 : Int) (l4_2 : Int) (l5_2 : Int) (l6_2 : Int) (l7_2 : Int) (l8_2 : Int) (l9_2 : Int) (l10_2 : Int) (l11_2 : Int) (l12_2 : Int) (l13_2 : Int) (l14_2 : Int) (l15_2 : Int) (l16_2 : Int) (l17_2 : Int) (l18_2 : Int) (l19_2 : Int) (l20_2 : Int) (l21_2 : Int) (l22_2 : Int) (l23_2 : Int) (l24_2 : Int) (l25_2 : Int) (l26_2 : Int) (one : Bool) (r : Int) : unitF (tabC Tryd.prog (tab x7) (pls x7) 100 10) 100 .none (u2 fun _ _ => none) (codeAt [1, 1, 1, 0, 1, 0, 0, 1, 1, 0, 0, 1, 1, 0, 0, 1, 1, 0, 0, 1, 1, 1, 1] (bodyOf Tryd.prog 3)) ((l0, l1_2, l2_2, l3_2, l4_2, l5_2, l6_2, l7_2, l8_2, l9_2, l10_2, l11_2, l12_2, l13_2, l14_2, l15_2, l16_2, l17_2, l18_2, l19_2, l20_2, l21_2, l22_2, l23_2, l24_2, l25_2, l26_2), one, (0 : Int), (1 : Int), r) () = r2c1P x7 ((l0, l1_2, l2_2, l3_2, l4_2, l5_2, l6_2, l7_2, l8_2, l9_2, l10_2, l11_2, l12_2, l13_2, l14_2, l15_2, l16_2, l17_2, l18_2, l19_2, l20_2, l21_2, l22_2, l23_2, l24_2, l25_2, l26_2), one, (0 : Int), (1 : Int), r) () := by kernel_rfl
def r2c2P (x7 : F7.FT) : G2 := fun ((l0, l1_2, l2_2, l3_2, l4_2, l5_2, l6_2, l7_2, l8_2, l9_2, l10_2, l11_2, l12_2, l13_2, l14_2, l15_2, l16_2, l17_2, l18_2, l19_2, l20_2, l21_2, l22_2, l23_2, l24_2, l25_2, l26_2), one, _, _, r) () => bif decide (r > 1) then
 bif l0 != l18_2 then
 some ((1, false), PUnit.unit) else bif decide (r > 2) then
 bif l1_2 != l19_2 then
 some ((1, false), PUnit.unit) else bif decide (r > 3) then
 bif l2_2 != l20_2 then
 some ((1, false), PUnit.unit) else bif one then
 bif decide (r > 4) then
 bif l3_2 != l21_2 then
 some ((1, false), PUnit.unit) else bif decide (r > 6) then
 bif l6_2 != l24_2 then
 some ((1, false), PUnit.unit) else some ((0, false), PUnit.unit) else some ((0, false), PUnit.unit) else bif decide (r > 6) then
 bif l6_2 != l24_2 then
 some ((1, false), PUnit.unit) else some ((0, false), PUnit.unit) else some ((0, false), PUnit.unit) else bif decide (r > 6) then
 bif l6_2 != l24_2 then
 some ((1, false), PUnit.unit) else some ((0, false), PUnit.unit) else some ((0, false), PUnit.unit) else bif one then
 bif decide (r > 4) then
 bif l3_2 != l21_2 then
 some ((1, false), PUnit.unit) else bif decide (r > 6) then
 bif l6_2 != l24_2 then
 some ((1, false), PUnit.unit) else some ((0, false), PUnit.unit) else some ((0, false), PUnit.unit) else bif decide (r > 6) then
 bif l6_2 != l24_2 then
 some ((1, false), PUnit.unit) else some ((0, false), PUnit.unit) else some ((0, false), PUnit.unit) else bif decide (r > 6) then
 bif l6_2 != l24_2 then
 some ((1, false), PUnit.unit) else some ((0, false), PUnit.unit) else some ((0, false), PUnit.unit) else bif decide (r > 3) then
 bif l2_2 != l20_2 then
 some ((1, false), PUnit.unit) else bif one then
 bif decide (r > 4) then
 bif l3_2 != l21_2 then
 some ((1, false), PUnit.unit) else bif decide (r > 6) then
 bif l6_2 != l24_2 then
 some ((1, false), PUnit.unit) else some ((0, false), PUnit.unit) else some ((0, false), PUnit.unit) else bif decide (r > 6) then
 bif l6_2 != l24_2 then
 some ((1, false), PUnit.unit) else some ((0, false), PUnit.unit) else some ((0, false), PUnit.unit) else bif decide (r > 6) then
 bif l6_2 != l24_2 then
 some ((1, false), PUnit.unit) else some ((0, false), PUnit.unit) else some ((0, false), PUnit.unit) else bif one then
 bif decide (r > 4) then
 bif l3_2 != l21_2 then
 some ((1, false), PUnit.unit) else bif decide (r > 6) then
 bif l6_2 != l24_2 then
 some ((1, false), PUnit.unit) else some ((0, false), PUnit.unit) else some ((0, false), PUnit.unit) else bif decide (r > 6) then
 bif l6_2 != l24_2 then
 some ((1, false), PUnit.unit) else some ((0, false), PUnit.unit) else some ((0, false), PUnit.unit) else bif decide (r > 6) then
 bif l6_2 != l24_2 then
 some ((1, false), PUnit.unit) else some ((0, false), PUnit.unit) else some ((0, false), PUnit.unit) else bif decide (r > 2) then
 bif l1_2 != l19_2 then
 some ((1, false), PUnit.unit) else bif decide (r > 3) then
 bif l2_2 != l20_2 then
 some ((1, false), PUnit.unit) else bif one then
 bif decide (r > 4) then
 bif l3_2 != l21_2 then
 some ((1, false), PUnit.unit) else bif decide (r > 6) then
 bif l6_2 != l24_2 then
 some ((1, false), PUnit.unit) else some ((0, false), PUnit.unit) else some ((0, false), PUnit.unit) else bif decide (r > 6) then
 bif l6_2 != l24_2 then
 some ((1, false), PUnit.unit) else some ((0, false), PUnit.unit) else some ((0, false), PUnit.unit) else bif decide (r > 6) then
 bif l6_2 != l24_2 then
 some ((1, false), PUnit.unit) else some ((0, false), PUnit.unit) else some ((0, false), PUnit.unit) else bif one then
 bif decide (r > 4) then
 bif l3_2 != l21_2 then
 some ((1, false), PUnit.unit) else bif decide (r > 6) then
 bif l6_2 != l24_2 then
 some ((1, false), PUnit.unit) else some ((0, false), PUnit.unit) else some ((0, false), PUnit.unit) else bif decide (r > 6) then
 bif l6_2 != l24_2 then
 some ((1, false), PUnit.unit) else some ((0, false), PUnit.unit) else some ((0, false), PUnit.unit) else bif decide (r > 6) then
 bif l6_2 != l24_2 then
 some ((1, false), PUnit.unit) else some ((0, false), PUnit.unit) else some ((0, false), PUnit.unit) else bif decide (r > 3) then
 bif l2_2 != l20_2 then
 some ((1, false), PUnit.unit) else bif one then
 bif decide (r > 4) then
 bif l3_2 != l21_2 then
 some ((1, false), PUnit.unit) else bif decide (r > 6) then
 bif l6_2 != l24_2 then
 some ((1, false), PUnit.unit) else some ((0, false), PUnit.unit) else some ((0, false), PUnit.unit) else bif decide (r > 6) then
 bif l6_2 != l24_2 then
 some ((1, false), PUnit.unit) else some ((0, false), PUnit.unit) else some ((0, false), PUnit.unit) else bif decide (r > 6) then
 bif l6_2 != l24_2 then
 some ((1, false), PUnit.unit) else some ((0, false), PUnit.unit) else some ((0, false), PUnit.unit) else bif one then
 bif decide (r > 4) then
 bif l3_2 != l21_2 then
 some ((1, false), PUnit.unit) else bif decide (r > 6) then
 bif l6_2 != l24_2 then
 some ((1, false), PUnit.unit) else some ((0, false), PUnit.unit) else some ((0, false), PUnit.unit) else bif decide (r > 6) then
 bif l6_2 != l24_2 then
 some ((1, false), PUnit.unit) else some ((0, false), PUnit.unit) else some ((0, false), PUnit.unit) else bif decide (r > 6) then
 bif l6_2 != l24_2 then
 some ((1, false), PUnit.unit) else some ((0, false), PUnit.unit) else some ((0, false), PUnit.unit)
theorem r2c2e (x7 : F7.FT) (l0 : Int) (l1_2 : Int) (l2_2 : Int) (l3_2 : Int) (l4_2 : Int) (l5_2 : Int) (l6_2 : Int) (l7_2 : Int) (l8_2 : Int) (l9_2 : Int) (l10_2 : Int) (l11_2 : Int) (l12_2 : Int) (l13_2 : Int) (l14_2 : Int) (l15_2 : Int) (l16_2 : Int) (l17_2 : Int) (l18_2 : Int) (l19_2 : Int) (l20_2 : Int) (l21_2 : Int) (l22_2 : Int) (l23_2 : Int) (l24_2 : Int) (l25_2 : Int) (l26_2 : Int) (one : Bool) (r : Int) : unitF (tabC Tryd.prog (tab x7) (pls x7) 100 10) 100 .none (u2 fun _ _ => none) (codeAt [1, 1, 1, 0, 1, 0, 0, 1, 1, 0, 0, 1, 1, 0, 0, 1, 1, 0, 0, 1, 1, 1, 1] (bodyOf Tryd.prog 3)) ((l0, l1_2, l2_2, l3_2, l4_2, l5_2, l6_2, l7_2, l8_2, l9_2, l10_2, l11_2, l12_2, l13_2, l14_2, l15_2, l16_2, l17_2, l18_2, l19_2, l20_2, l21_2, l22_2, l23_2, l24_2, l25_2, l26_2), one, (0 : Int), (2 : Int), r) () = r2c2P x7 ((l0, l1_2, l2_2, l3_2, l4_2, l5_2, l6_2, l7_2, l8_2, l9_2, l10_2, l11_2, l12_2, l13_2, l14_2, l15_2, l16_2, l17_2, l18_2, l19_2, l20_2, l21_2, l22_2, l23_2, l24_2, l25_2, l26_2), one, (0 : Int), (2 : Int), r) () := by kernel_rfl
def r2c3P (x7 : F7.FT) : G2 := fun ((l0, l1_2, l2_2, l3_2, l4_2, l5_2, l6_2, l7_2, l8_2, l9_2, l10_2, l11_2, l12_2, l13_2, l14_2, l15_2, l16_2, l17_2, l18_2, l19_2, l20_2, l21_2, l22_2, l23_2, l24_2, l25_2, l26_2), one, _, _, r) () => bif decide (r > 1) then
 bif l9_2 != l0 then
 some ((1, false), PUnit.unit) else bif decide (r > 2) then
 bif l10_2 != l1_2 then
 some ((1, false), PUnit.unit) else bif decide (r > 3) then
 bif l11_2 != l2_2 then
 some ((1, false), PUnit.unit) else bif one then
 bif decide (r > 4) then
 bif l12_2 != l3_2 then
 some ((1, false), PUnit.unit) else bif decide (r > 6) then
 bif l15_2 != l6_2 then
 some ((1, false), PUnit.unit) else some ((0, false), PUnit.unit) else some ((0, false), PUnit.unit) else bif decide (r > 6) then
 bif l15_2 != l6_2 then
 some ((1, false), PUnit.unit) else some ((0, false), PUnit.unit) else some ((0, false), PUnit.unit) else bif decide (r > 6) then
 bif l15_2 != l6_2 then
 some ((1, false), PUnit.unit) else some ((0, false), PUnit.unit) else some ((0, false), PUnit.unit) else bif one then
 bif decide (r > 4) then
 bif l12_2 != l3_2 then
 some ((1, false), PUnit.unit) else bif decide (r > 6) then
 bif l15_2 != l6_2 then
 some ((1, false), PUnit.unit) else some ((0, false), PUnit.unit) else some ((0, false), PUnit.unit) else bif decide (r > 6) then
 bif l15_2 != l6_2 then
 some ((1, false), PUnit.unit) else some ((0, false), PUnit.unit) else some ((0, false), PUnit.unit) else bif decide (r > 6) then
 bif l15_2 != l6_2 then
 some ((1, false), PUnit.unit) else some ((0, false), PUnit.unit) else some ((0, false), PUnit.unit) else bif decide (r > 3) then
 bif l11_2 != l2_2 then
 some ((1, false), PUnit.unit) else bif one then
 bif decide (r > 4) then
 bif l12_2 != l3_2 then
 some ((1, false), PUnit.unit) else bif decide (r > 6) then
 bif l15_2 != l6_2 then
 some ((1, false), PUnit.unit) else some ((0, false), PUnit.unit) else some ((0, false), PUnit.unit) else bif decide (r > 6) then
 bif l15_2 != l6_2 then
 some ((1, false), PUnit.unit) else some ((0, false), PUnit.unit) else some ((0, false), PUnit.unit) else bif decide (r > 6) then
 bif l15_2 != l6_2 then
 some ((1, false), PUnit.unit) else some ((0, false), PUnit.unit) else some ((0, false), PUnit.unit) else bif one then
 bif decide (r > 4) then
 bif l12_2 != l3_2 then
 some ((1, false), PUnit.unit) else bif decide (r > 6) then
 bif l15_2 != l6_2 then
 some ((1, false), PUnit.unit) else some ((0, false), PUnit.unit) else some ((0, false), PUnit.unit) else bif decide (r > 6) then
 bif l15_2 != l6_2 then
 some ((1, false), PUnit.unit) else some ((0, false), PUnit.unit) else some ((0, false), PUnit.unit) else bif decide (r > 6) then
 bif l15_2 != l6_2 then
 some ((1, false), PUnit.unit) else some ((0, false), PUnit.unit) else some ((0, false), PUnit.unit) else bif decide (r > 2) then
 bif l10_2 != l1_2 then
 some ((1, false), PUnit.unit) else bif decide (r > 3) then
 bif l11_2 != l2_2 then
 some ((1, false), PUnit.unit) else bif one then
 bif decide (r > 4) then
 bif l12_2 != l3_2 then
 some ((1, false), PUnit.unit) else bif decide (r > 6) then
 bif l15_2 != l6_2 then
 some ((1, false), PUnit.unit) else some ((0, false), PUnit.unit) else some ((0, false), PUnit.unit) else bif decide (r > 6) then
 bif l15_2 != l6_2 then
 some ((1, false), PUnit.unit) else some ((0, false), PUnit.unit) else some ((0, false), PUnit.unit) else bif decide (r > 6) then
 bif l15_2 != l6_2 then
 some ((1, false), PUnit.unit) else some ((0, false), PUnit.unit) else some ((0, false), PUnit.unit) else bif one then
 bif decide (r > 4) then
 bif l12_2 != l3_2 then
 some ((1, false), PUnit.unit) else bif decide (r > 6) then
 bif l15_2 != l6_2 then
 some ((1, false), PUnit.unit) else some ((0, false), PUnit.unit) else some ((0, false), PUnit.unit) else bif decide (r > 6) then
 bif l15_2 != l6_2 then
 some ((1, false), PUnit.unit) else some ((0, false), PUnit.unit) else some ((0, false), PUnit.unit) else bif decide (r > 6) then
 bif l15_2 != l6_2 then
 some ((1, false), PUnit.unit) else some ((0, false), PUnit.unit) else some ((0, false), PUnit.unit) else bif decide (r > 3) then
 bif l11_2 != l2_2 then
 some ((1, false), PUnit.unit) else bif one then
 bif decide (r > 4) then
 bif l12_2 != l3_2 then
 some ((1, false), PUnit.unit) else bif decide (r > 6) then
 bif l15_2 != l6_2 then
 some ((1, false), PUnit.unit) else some ((0, false), PUnit.unit) else some ((0, false), PUnit.unit) else bif decide (r > 6) then
 bif l15_2 != l6_2 then
 some ((1, false), PUnit.unit) else some ((0, false), PUnit.unit) else some ((0, false), PUnit.unit) else bif decide (r > 6) then
 bif l15_2 != l6_2 then
 some ((1, false), PUnit.unit) else some ((0, false), PUnit.unit) else some ((0, false), PUnit.unit) else bif one then
 bif decide (r > 4) then
 bif l12_2 != l3_2 then
 some ((1, false), PUnit.unit) else bif decide (r > 6) then
 bif l15_2 != l6_2 then
 some ((1, false), PUnit.unit) else some ((0, false), PUnit.unit) else some ((0, false), PUnit.unit) else bif decide (r > 6) then
 bif l15_2 != l6_2 then
 some ((1, false), PUnit.unit) else some ((0, false), PUnit.unit) else some ((0, false), PUnit.unit) else bif decide (r > 6) then
 bif l15_2 != l6_2 then
 some ((1, false), PUnit.unit) else some ((0, false), PUnit.unit) else some ((0, false), PUnit.unit)
theorem r2c3e (x7 : F7.FT) (l0 : Int) (l1_2 : Int) (l2_2 : Int) (l3_2 : Int) (l4_2 : Int) (l5_2 : Int) (l6_2 : Int) (l7_2 : Int) (l8_2 : Int) (l9_2 : Int) (l10_2 : Int) (l11_2 : Int) (l12_2 : Int) (l13_2 : Int) (l14_2 : Int) (l15_2 : Int) (l16_2 : Int) (l17_2 : Int) (l18_2 : Int) (l19_2 : Int) (l20_2 : Int) (l21_2 : Int) (l22_2 : Int) (l23_2 : Int) (l24_2 : Int) (l25_2 : Int) (l26_2 : Int) (one : Bool) (r : Int) : unitF (tabC Tryd.prog (tab x7) (pls x7) 100 10) 100 .none (u2 fun _ _ => none) (codeAt [1, 1, 1, 0, 1, 0, 0, 1, 1, 0, 0, 1, 1, 0, 0, 1, 1, 0, 0, 1, 1, 1, 1] (bodyOf Tryd.prog 3)) ((l0, l1_2, l2_2, l3_2, l4_2, l5_2, l6_2, l7_2, l8_2, l9_2, l10_2, l11_2, l12_2, l13_2, l14_2, l15_2, l16_2, l17_2, l18_2, l19_2, l20_2, l21_2, l22_2, l23_2, l24_2, l25_2, l26_2), one, (1 : Int), (0 : Int), r) () = r2c3P x7 ((l0, l1_2, l2_2, l3_2, l4_2, l5_2, l6_2, l7_2, l8_2, l9_2, l10_2, l11_2, l12_2, l13_2, l14_2, l15_2, l16_2, l17_2, l18_2, l19_2, l20_2, l21_2, l22_2, l23_2, l24_2, l25_2, l26_2), one, (1 : Int), (0 : Int), r) () := by kernel_rfl
def r2c4P (x7 : F7.FT) : G2 := fun ((l0, l1_2, l2_2, l3_2, l4_2, l5_2, l6_2, l7_2, l8_2, l9_2, l10_2, l11_2, l12_2, l13_2, l14_2, l15_2, l16_2, l17_2, l18_2, l19_2, l20_2, l21_2, l22_2, l23_2, l24_2, l25_2, l26_2), one, _, _, r) () => bif decide (r > 1) then
 bif l9_2 != l9_2 then
 some ((1, false), PUnit.unit) else bif decide (r > 2) then
 bif l10_2 != l10_2 then
 some ((1, false), PUnit.unit) else bif decide (r > 3) then
 bif l11_2 != l11_2 then
 some ((1, false), PUnit.unit) else bif one then
 bif decide (r > 4) then
 bif l12_2 != l12_2 then
 some ((1, false), PUnit.unit) else bif decide (r > 6) then
 bif l15_2 != l15_2 then
 some ((1, false), PUnit.unit) else some ((0, false), PUnit.unit) else some ((0, false), PUnit.unit) else bif decide (r > 6) then
 bif l15_2 != l15_2 then
 some ((1, false), PUnit.unit) else some ((0, false), PUnit.unit) else some ((0, false), PUnit.unit) else bif decide (r > 6) then
 bif l15_2 != l15_2 then
 some ((1, false), PUnit.unit) else some ((0, false), PUnit.unit) else some ((0, false), PUnit.unit) else bif one then
 bif decide (r > 4) then
 bif l12_2 != l12_2 then
 some ((1, false), PUnit.unit) else bif decide (r > 6) then
 bif l15_2 != l15_2 then
 some ((1, false), PUnit.unit) else some ((0, false), PUnit.unit) else some ((0, false), PUnit.unit) else bif decide (r > 6) then
 bif l15_2 != l15_2 then
 some ((1, false), PUnit.unit) else some ((0, false), PUnit.unit) else some ((0, false), PUnit.unit) else bif decide (r > 6) then
 bif l15_2 != l15_2 then
 some ((1, false), PUnit.unit) else some ((0, false), PUnit.unit) else some ((0, false), PUnit.unit) else bif decide (r > 3) then
 bif l11_2 != l11_2 then
 some ((1, false), PUnit.unit) else bif one then
 bif decide (r > 4) then
 bif l12_2 != l12_2 then
 some ((1, false), PUnit.unit) else bif decide (r > 6) then
 bif l15_2 != l15_2 then
 some ((1, false), PUnit.unit) else some ((0, false), PUnit.unit) else some ((0, false), PUnit.unit) else bif decide (r > 6) then
 bif l15_2 != l15_2 then
 some ((1, false), PUnit.unit) else some ((0, false), PUnit.unit) else some ((0, false), PUnit.unit) else bif decide (r > 6) then
 bif l15_2 != l15_2 then
 some ((1, false), PUnit.unit) else some ((0, false), PUnit.unit) else some ((0, false), PUnit.unit) else bif one then
 bif decide (r > 4) then
 bif l12_2 != l12_2 then
 some ((1, false), PUnit.unit) else bif decide (r > 6) then
 bif l15_2 != l15_2 then
 some ((1, false), PUnit.unit) else some ((0, false), PUnit.unit) else some ((0, false), PUnit.unit) else bif decide (r > 6) then
 bif l15_2 != l15_2 then
 some ((1, false), PUnit.unit) else some ((0, false), PUnit.unit) else some ((0, false), PUnit.unit) else bif decide (r > 6) then
 bif l15_2 != l15_2 then
 some ((1, false), PUnit.unit) else some ((0, false), PUnit.unit) else some ((0, false), PUnit.unit) else bif decide (r > 2) then
 bif l10_2 != l10_2 then
 some ((1, false), PUnit.unit) else bif decide (r > 3) then
 bif l11_2 != l11_2 then
 some ((1, false), PUnit.unit) else bif one then
 bif decide (r > 4) then
 bif l12_2 != l12_2 then
 some ((1, false), PUnit.unit) else bif decide (r > 6) then
 bif l15_2 != l15_2 then
 some ((1, false), PUnit.unit) else some ((0, false), PUnit.unit) else some ((0, false), PUnit.unit) else bif decide (r > 6) then
 bif l15_2 != l15_2 then
 some ((1, false), PUnit.unit) else some ((0, false), PUnit.unit) else some ((0, false), PUnit.unit) else bif decide (r > 6) then
 bif l15_2 != l15_2 then
 some ((1, false), PUnit.unit) else some ((0, false), PUnit.unit) else some ((0, false), PUnit.unit) else bif one then
 bif decide (r > 4) then
 bif l12_2 != l12_2 then
 some ((1, false), PUnit.unit) else bif decide (r > 6) then
 bif l15_2 != l15_2 then
 some ((1, false), PUnit.unit) else some ((0, false), PUnit.unit) else some ((0, false), PUnit.unit) else bif decide (r > 6) then
 bif l15_2 != l15_2 then
 some ((1, false), PUnit.unit) else some ((0, false), PUnit.unit) else some ((0, false), PUnit.unit) else bif decide (r > 6) then
 bif l15_2 != l15_2 then
 some ((1, false), PUnit.unit) else some ((0, false), PUnit.unit) else some ((0, false), PUnit.unit) else bif decide (r > 3) then
 bif l11_2 != l11_2 then
 some ((1, false), PUnit.unit) else bif one then
 bif decide (r > 4) then
 bif l12_2 != l12_2 then
 some ((1, false), PUnit.unit) else bif decide (r > 6) then
 bif l15_2 != l15_2 then
 some ((1, false), PUnit.unit) else some ((0, false), PUnit.unit) else some ((0, false), PUnit.unit) else bif decide (r > 6) then
 bif l15_2 != l15_2 then
 some ((1, false), PUnit.unit) else some ((0, false), PUnit.unit) else some ((0, false), PUnit.unit) else bif decide (r > 6) then
 bif l15_2 != l15_2 then
 some ((1, false), PUnit.unit) else some ((0, false), PUnit.unit) else some ((0, false), PUnit.unit) else bif one then
 bif decide (r > 4) then
 bif l12_2 != l12_2 then
 some ((1, false), PUnit.unit) else bif decide (r > 6) then
 bif l15_2 != l15_2 then
 some ((1, false), PUnit.unit) else some ((0, false), PUnit.unit) else some ((0, false), PUnit.unit) else bif decide (r > 6) then
 bif l15_2 != l15_2 then
 some ((1, false), PUnit.unit) else some ((0, false), PUnit.unit) else some ((0, false), PUnit.unit) else bif decide (r > 6) then
 bif l15_2 != l15_2 then
 some ((1, false), PUnit.unit) else some ((0, false), PUnit.unit) else some ((0, false), PUnit.unit)
theorem r2c4e (x7 : F7.FT) (l0 : Int) (l1_2 : Int) (l2_2 : Int) (l3_2 : Int) (l4_2 : Int) (l5_2 : Int) (l6_2 : Int) (l7_2 : Int) (l8_2 : Int) (l9_2 : Int) (l10_2 : Int) (l11_2 : Int) (l12_2 : Int) (l13_2 : Int) (l14_2 : Int) (l15_2 : Int) (l16_2 : Int) (l17_2 : Int) (l18_2 : Int) (l19_2 : Int) (l20_2 : Int) (l21_2 : Int) (l22_2 : Int) (l23_2 : Int) (l24_2 : Int) (l25_2 : Int) (l26_2 : Int) (one : Bool) (r : Int) : unitF (tabC Tryd.prog (tab x7) (pls x7) 100 10) 100 .none (u2 fun _ _ => none) (codeAt [1, 1, 1, 0, 1, 0, 0, 1, 1, 0, 0, 1, 1, 0, 0, 1, 1, 0, 0, 1, 1, 1, 1] (bodyOf Tryd.prog 3)) ((l0, l1_2, l2_2, l3_2, l4_2, l5_2, l6_2, l7_2, l8_2, l9_2, l10_2, l11_2, l12_2, l13_2, l14_2, l15_2, l16_2, l17_2, l18_2, l19_2, l20_2, l21_2, l22_2, l23_2, l24_2, l25_2, l26_2), one, (1 : Int), (1 : Int), r) () = r2c4P x7 ((l0, l1_2, l2_2, l3_2, l4_2, l5_2, l6_2, l7_2, l8_2, l9_2, l10_2, l11_2, l12_2, l13_2, l14_2, l15_2, l16_2, l17_2, l18_2, l19_2, l20_2, l21_2, l22_2, l23_2, l24_2, l25_2, l26_2), one, (1 : Int), (1 : Int), r) () := by kernel_rfl
def r2c5P (x7 : F7.FT) : G2 := fun ((l0, l1_2, l2_2, l3_2, l4_2, l5_2, l6_2, l7_2, l8_2, l9_2, l10_2, l11_2, l12_2, l13_2, l14_2, l15_2, l16_2, l17_2, l18_2, l19_2, l20_2, l21_2, l22_2, l23_2, l24_2, l25_2, l26_2), one, _, _, r) () => bif decide (r > 1) then
 bif l9_2 != l18_2 then
 some ((1, false), PUnit.unit) else bif decide (r > 2) then
 bif l10_2 != l19_2 then
 some ((1, false), PUnit.unit) else bif decide (r > 3) then
 bif l11_2 != l20_2 then
 some ((1, false), PUnit.unit) else bif one then
 bif decide (r > 4) then
 bif l12_2 != l21_2 then
 some ((1, false), PUnit.unit) else bif decide (r > 6) then
 bif l15_2 != l24_2 then
 some ((1, false), PUnit.unit) else some ((0, false), PUnit.unit) else some ((0, false), PUnit.unit) else bif decide (r > 6) then
 bif l15_2 != l24_2 then
 some ((1, false), PUnit.unit) else some ((0, false), PUnit.unit) else some ((0, false), PUnit.unit) else bif decide (r > 6) then
 bif l15_2 != l24_2 then
 some ((1, false), PUnit.unit) else some ((0, false), PUnit.unit) else some ((0, false), PUnit.unit) else bif one then
 bif decide (r > 4) then
 bif l12_2 != l21_2 then
 some ((1, false), PUnit.unit) else bif decide (r > 6) then
 bif l15_2 != l24_2 then
 some ((1, false), PUnit.unit) else some ((0, false), PUnit.unit) else some ((0, false), PUnit.unit) else bif decide (r > 6) then
 bif l15_2 != l24_2 then
 some ((1, false), PUnit.unit) else some ((0, false), PUnit.unit) else some ((0, false), PUnit.unit) else bif decide (r > 6) then
 bif l15_2 != l24_2 then
 some ((1, false), PUnit.unit) else some ((0, false), PUnit.unit) else some ((0, false), PUnit.unit) else bif decide (r > 3) then
 bif l11_2 != l20_2 then
 some ((1, false), PUnit.unit) else bif one then
 bif decide (r > 4) then
 bif l12_2 != l21_2 then
 some ((1, false), PUnit.unit) else bif decide (r > 6) then
 bif l15_2 != l24_2 then
 some ((1, false), PUnit.unit) else some ((0, false), PUnit.unit) else some ((0, false), PUnit.unit) else bif decide (r > 6) then
 bif l15_2 != l24_2 then
 some ((1, false), PUnit.unit) else some ((0, false), PUnit.unit) else some ((0, false), PUnit.unit) else bif decide (r > 6) then
 bif l15_2 != l24_2 then
 some ((1, false), PUnit.unit) else some ((0, false), PUnit.unit) else some ((0, false), PUnit.unit) else bif one then
 bif decide (r > 4) then
 bif l12_2 != l21_2 then
 some ((1, false), PUnit.unit) else bif decide (r > 6) then
 bif l15_2 != l24_2 then
 some ((1, false), PUnit.unit) else some ((0, false), PUnit.unit) else some ((0, false), PUnit.unit) else bif decide (r > 6) then
 bif l15_2 != l24_2 then
 some ((1, false), PUnit.unit) else some ((0, false), PUnit.unit) else some ((0, false), PUnit.unit) else bif decide (r > 6) then
 bif l15_2 != l24_2 then
 some ((1, false), PUnit.unit) else some ((0, false), PUnit.unit) else some ((0, false), PUnit.unit) else bif decide (r > 2) then
 bif l10_2 != l19_2 then
 some ((1, false), PUnit.unit) else bif decide (r > 3) then
 bif l11_2 != l20_2 then
 some ((1, false), PUnit.unit) else bif one then
 bif decide (r > 4) then
 bif l12_2 != l21_2 then
 some ((1, false), PUnit.unit) else bif decide (r > 6) then
 bif l15_2 != l24_2 then
 some ((1, false), PUnit.unit) else some ((0, false), PUnit.unit) else some ((0, false), PUnit.unit) else bif decide (r > 6) then
 bif l15_2 != l24_2 then
 some ((1, false), PUnit.unit) else some ((0, false), PUnit.unit) else some ((0, false), PUnit.unit) else bif decide (r > 6) then
 bif l15_2 != l24_2 then
 some ((1, false), PUnit.unit) else some ((0, false), PUnit.unit) else some ((0, false), PUnit.unit) else bif one then
 bif decide (r > 4) then
 bif l12_2 != l21_2 then
 some ((1, false), PUnit.unit) else bif decide (r > 6) then
 bif l15_2 != l24_2 then
 some ((1, false), PUnit.unit) else some ((0, false), PUnit.unit) else some ((0, false), PUnit.unit) else bif decide (r > 6) then
 bif l15_2 != l24_2 then
 some ((1, false), PUnit.unit) else some ((0, false), PUnit.unit) else some ((0, false), PUnit.unit) else bif decide (r > 6) then
 bif l15_2 != l24_2 then
 some ((1, false), PUnit.unit) else some ((0, false), PUnit.unit) else some ((0, false), PUnit.unit) else bif decide (r > 3) then
 bif l11_2 != l20_2 then
 some ((1, false), PUnit.unit) else bif one then
 bif decide (r > 4) then
 bif l12_2 != l21_2 then
 some ((1, false), PUnit.unit) else bif decide (r > 6) then
 bif l15_2 != l24_2 then
 some ((1, false), PUnit.unit) else some ((0, false), PUnit.unit) else some ((0, false), PUnit.unit) else bif decide (r > 6) then
 bif l15_2 != l24_2 then
 some ((1, false), PUnit.unit) else some ((0, false), PUnit.unit) else some ((0, false), PUnit.unit) else bif decide (r > 6) then
 bif l15_2 != l24_2 then
 some ((1, false), PUnit.unit) else some ((0, false), PUnit.unit) else some ((0, false), PUnit.unit) else bif one then
 bif decide (r > 4) then
 bif l12_2 != l21_2 then
 some ((1, false), PUnit.unit) else bif decide (r > 6) then
 bif l15_2 != l24_2 then
 some ((1, false), PUnit.unit) else some ((0, false), PUnit.unit) else some ((0, false), PUnit.unit) else bif decide (r > 6) then
 bif l15_2 != l24_2 then
 some ((1, false), PUnit.unit) else some ((0, false), PUnit.unit) else some ((0, false), PUnit.unit) else bif decide (r > 6) then
 bif l15_2 != l24_2 then
 some ((1, false), PUnit.unit) else some ((0, false), PUnit.unit) else some ((0, false), PUnit.unit)
theorem r2c5e (x7 : F7.FT) (l0 : Int) (l1_2 : Int) (l2_2 : Int) (l3_2 : Int) (l4_2 : Int) (l5_2 : Int) (l6_2 : Int) (l7_2 : Int) (l8_2 : Int) (l9_2 : Int) (l10_2 : Int) (l11_2 : Int) (l12_2 : Int) (l13_2 : Int) (l14_2 : Int) (l15_2 : Int) (l16_2 : Int) (l17_2 : Int) (l18_2 : Int) (l19_2 : Int) (l20_2 : Int) (l21_2 : Int) (l22_2 : Int) (l23_2 : Int) (l24_2 : Int) (l25_2 : Int) (l26_2 : Int) (one : Bool) (r : Int) : unitF (tabC Tryd.prog (tab x7) (pls x7) 100 10) 100 .none (u2 fun _ _ => none) (codeAt [1, 1, 1, 0, 1, 0, 0, 1, 1, 0, 0, 1, 1, 0, 0, 1, 1, 0, 0, 1, 1, 1, 1] (bodyOf Tryd.prog 3)) ((l0, l1_2, l2_2, l3_2, l4_2, l5_2, l6_2, l7_2, l8_2, l9_2, l10_2, l11_2, l12_2, l13_2, l14_2, l15_2, l16_2, l17_2, l18_2, l19_2, l20_2, l21_2, l22_2, l23_2, l24_2, l25_2, l26_2), one, (1 : Int), (2 : Int), r) () = r2c5P x7 ((l0, l1_2, l2_2, l3_2, l4_2, l5_2, l6_2, l7_2, l8_2, l9_2, l10_2, l11_2, l12_2, l13_2, l14_2, l15_2, l16_2, l17_2, l18_2, l19_2, l20_2, l21_2, l22_2, l23_2, l24_2, l25_2, l26_2), one, (1 : Int), (2 : Int), r) () := by kernel_rfl
def r2c6P (x7 : F7.FT) : G2 := fun ((l0, l1_2, l2_2, l3_2, l4_2, l5_2, l6_2, l7_2, l8_2, l9_2, l10_2, l11_2, l12_2, l13_2, l14_2, l15_2, l16_2, l17_2, l18_2, l19_2, l20_2, l21_2, l22_2, l23_2, l24_2, l25_2, l26_2), one, _, _, r) () => bif decide (r > 1) then
 bif l18_2 != l0 then
 some ((1, false), PUnit.unit) else bif decide (r > 2) then
 bif l19_2 != l1_2 then
 some ((1, false), PUnit.unit) else bif decide (r > 3) then
 bif l20_2 != l2_2 then
 some ((1, false), PUnit.unit) else bif one then
 bif decide (r > 4) then
 bif l21_2 != l3_2 then
 some ((1, false), PUnit.unit) else bif decide (r > 6) then
 bif l24_2 != l6_2 then
 some ((1, false), PUnit.unit) else some ((0, false), PUnit.unit) else some ((0, false), PUnit.unit) else bif decide (r > 6) then
 bif l24_2 != l6_2 then
 some ((1, false), PUnit.unit) else some ((0, false), PUnit.unit) else some ((0, false), PUnit.unit) else bif decide (r > 6) then
 bif l24_2 != l6_2 then
 some ((1, false), PUnit.unit) else some ((0, false), PUnit.unit) else some ((0, false), PUnit.unit) else bif one then
 bif decide (r > 4) then
 bif l21_2 != l3_2 then
 some ((1, false), PUnit.unit) else bif decide (r > 6) then
 bif l24_2 != l6_2 then
 some ((1, false), PUnit.unit) else some ((0, false), PUnit.unit) else some ((0, false), PUnit.unit) else bif decide (r > 6) then
 bif l24_2 != l6_2 then
 some ((1, false), PUnit.unit) else some ((0, false), PUnit.unit) else some ((0, false), PUnit.unit) else bif decide (r > 6) then
 bif l24_2 != l6_2 then
 some ((1, false), PUnit.unit) else some ((0, false), PUnit.unit) else some ((0, false), PUnit.unit) else bif decide (r > 3) then
 bif l20_2 != l2_2 then
 some ((1, false), PUnit.unit) else bif one then
 bif decide (r > 4) then
 bif l21_2 != l3_2 then
 some ((1, false), PUnit.unit) else bif decide (r > 6) then
 bif l24_2 != l6_2 then
 some ((1, false), PUnit.unit) else some ((0, false), PUnit.unit) else some ((0, false), PUnit.unit) else bif decide (r > 6) then
 bif l24_2 != l6_2 then
 some ((1, false), PUnit.unit) else some ((0, false), PUnit.unit) else some ((0, false), PUnit.unit) else bif decide (r > 6) then
 bif l24_2 != l6_2 then
 some ((1, false), PUnit.unit) else some ((0, false), PUnit.unit) else some ((0, false), PUnit.unit) else bif one then
 bif decide (r > 4) then
 bif l21_2 != l3_2 then
 some ((1, false), PUnit.unit) else bif decide (r > 6) then
 bif l24_2 != l6_2 then
 some ((1, false), PUnit.unit) else some ((0, false), PUnit.unit) else some ((0, false), PUnit.unit) else bif decide (r > 6) then
 bif l24_2 != l6_2 then
 some ((1, false), PUnit.unit) else some ((0, false), PUnit.unit) else some ((0, false), PUnit.unit) else bif decide (r > 6) then
 bif l24_2 != l6_2 then
 some ((1, false), PUnit.unit) else some ((0, false), PUnit.unit) else some ((0, false), PUnit.unit) else bif decide (r > 2) then
 bif l19_2 != l1_2 then
 some ((1, false), PUnit.unit) else bif decide (r > 3) then
 bif l20_2 != l2_2 then
 some ((1, false), PUnit.unit) else bif one then
 bif decide (r > 4) then
 bif l21_2 != l3_2 then
 some ((1, false), PUnit.unit) else bif decide (r > 6) then
 bif l24_2 != l6_2 then
 some ((1, false), PUnit.unit) else some ((0, false), PUnit.unit) else some ((0, false), PUnit.unit) else bif decide (r > 6) then
 bif l24_2 != l6_2 then
 some ((1, false), PUnit.unit) else some ((0, false), PUnit.unit) else some ((0, false), PUnit.unit) else bif decide (r > 6) then
 bif l24_2 != l6_2 then
 some ((1, false), PUnit.unit) else some ((0, false), PUnit.unit) else some ((0, false), PUnit.unit) else bif one then
 bif decide (r > 4) then
 bif l21_2 != l3_2 then
 some ((1, false), PUnit.unit) else bif decide (r > 6) then
 bif l24_2 != l6_2 then
 some ((1, false), PUnit.unit) else some ((0, false), PUnit.unit) else some ((0, false), PUnit.unit) else bif decide (r > 6) then
 bif l24_2 != l6_2 then
 some ((1, false), PUnit.unit) else some ((0, false), PUnit.unit) else some ((0, false), PUnit.unit) else bif decide (r > 6) then
 bif l24_2 != l6_2 then
 some ((1, false), PUnit.unit) else some ((0, false), PUnit.unit) else some ((0, false), PUnit.unit) else bif decide (r > 3) then
 bif l20_2 != l2_2 then
 some ((1, false), PUnit.unit) else bif one then
 bif decide (r > 4) then
 bif l21_2 != l3_2 then
 some ((1, false), PUnit.unit) else bif decide (r > 6) then
 bif l24_2 != l6_2 then
 some ((1, false), PUnit.unit) else some ((0, false), PUnit.unit) else some ((0, false), PUnit.unit) else bif decide (r > 6) then
 bif l24_2 != l6_2 then
 some ((1, false), PUnit.unit) else some ((0, false), PUnit.unit) else some ((0, false), PUnit.unit) else bif decide (r > 6) then
 bif l24_2 != l6_2 then
 some ((1, false), PUnit.unit) else some ((0, false), PUnit.unit) else some ((0, false), PUnit.unit) else bif one then
 bif decide (r > 4) then
 bif l21_2 != l3_2 then
 some ((1, false), PUnit.unit) else bif decide (r > 6) then
 bif l24_2 != l6_2 then
 some ((1, false), PUnit.unit) else some ((0, false), PUnit.unit) else some ((0, false), PUnit.unit) else bif decide (r > 6) then
 bif l24_2 != l6_2 then
 some ((1, false), PUnit.unit) else some ((0, false), PUnit.unit) else some ((0, false), PUnit.unit) else bif decide (r > 6) then
 bif l24_2 != l6_2 then
 some ((1, false), PUnit.unit) else some ((0, false), PUnit.unit) else some ((0, false), PUnit.unit)
theorem r2c6e (x7 : F7.FT) (l0 : Int) (l1_2 : Int) (l2_2 : Int) (l3_2 : Int) (l4_2 : Int) (l5_2 : Int) (l6_2 : Int) (l7_2 : Int) (l8_2 : Int) (l9_2 : Int) (l10_2 : Int) (l11_2 : Int) (l12_2 : Int) (l13_2 : Int) (l14_2 : Int) (l15_2 : Int) (l16_2 : Int) (l17_2 : Int) (l18_2 : Int) (l19_2 : Int) (l20_2 : Int) (l21_2 : Int) (l22_2 : Int) (l23_2 : Int) (l24_2 : Int) (l25_2 : Int) (l26_2 : Int) (one : Bool) (r : Int) : unitF (tabC Tryd.prog (tab x7) (pls x7) 100 10) 100 .none (u2 fun _ _ => none) (codeAt [1, 1, 1, 0, 1, 0, 0, 1, 1, 0, 0, 1, 1, 0, 0, 1, 1, 0, 0, 1, 1, 1, 1] (bodyOf Tryd.prog 3)) ((l0, l1_2, l2_2, l3_2, l4_2, l5_2, l6_2, l7_2, l8_2, l9_2, l10_2, l11_2, l12_2, l13_2, l14_2, l15_2, l16_2, l17_2, l18_2, l19_2, l20_2, l21_2, l22_2, l23_2, l24_2, l25_2, l26_2), one, (2 : Int), (0 : Int), r) () = r2c6P x7 ((l0, l1_2, l2_2, l3_2, l4_2, l5_2, l6_2, l7_2, l8_2, l9_2, l10_2, l11_2, l12_2, l13_2, l14_2, l15_2, l16_2, l17_2, l18_2, l19_2, l20_2, l21_2, l22_2, l23_2, l24_2, l25_2, l26_2), one, (2 : Int), (0 : Int), r) () := by kernel_rfl
def r2c7P (x7 : F7.FT) : G2 := fun ((l0, l1_2, l2_2, l3_2, l4_2, l5_2, l6_2, l7_2, l8_2, l9_2, l10_2, l11_2, l12_2, l13_2, l14_2, l15_2, l16_2, l17_2, l18_2, l19_2, l20_2, l21_2, l22_2, l23_2, l24_2, l25_2, l26_2), one, _, _, r) () => bif decide (r > 1) then
 bif l18_2 != l9_2 then
 some ((1, false), PUnit.unit) else bif decide (r > 2) then
 bif l19_2 != l10_2 then
 some ((1, false), PUnit.unit) else bif decide (r > 3) then
 bif l20_2 != l11_2 then
 some ((1, false), PUnit.unit) else bif one then
 bif decide (r > 4) then
 bif l21_2 != l12_2 then
 some ((1, false), PUnit.unit) else bif decide (r > 6) then
 bif l24_2 != l15_2 then
 some ((1, false), PUnit.unit) else some ((0, false), PUnit.unit) else some ((0, false), PUnit.unit) else bif decide (r > 6) then
 bif l24_2 != l15_2 then
 some ((1, false), PUnit.unit) else some ((0, false), PUnit.unit) else some ((0, false), PUnit.unit) else bif decide (r > 6) then
 bif l24_2 != l15_2 then
 some ((1, false), PUnit.unit) else some ((0, false), PUnit.unit) else some ((0, false), PUnit.unit) else bif one then
 bif decide (r > 4) then
 bif l21_2 != l12_2 then
 some ((1, false), PUnit.unit) else bif decide (r > 6) then
 bif l24_2 != l15_2 then
 some ((1, false), PUnit.unit) else some ((0, false), PUnit.unit) else some ((0, false), PUnit.unit) else bif decide (r > 6) then
 bif l24_2 != l15_2 then
 some ((1, false), PUnit.unit) else some ((0, false), PUnit.unit) else some ((0, false), PUnit.unit) else bif decide (r > 6) then
 bif l24_2 != l15_2 then
 some ((1, false), PUnit.unit) else some ((0, false), PUnit.unit) else some ((0, false), PUnit.unit) else bif decide (r > 3) then
 bif l20_2 != l11_2 then
 some ((1, false), PUnit.unit) else bif one then
 bif decide (r > 4) then
 bif l21_2 != l12_2 then
 some ((1, false), PUnit.unit) else bif decide (r > 6) then
 bif l24_2 != l15_2 then
 some ((1, false), PUnit.unit) else some ((0, false), PUnit.unit) else some ((0, false), PUnit.unit) else bif decide (r > 6) then
 bif l24_2 != l15_2 then
 some ((1, false), PUnit.unit) else some ((0, false), PUnit.unit) else some ((0, false), PUnit.unit) else bif decide (r > 6) then
 bif l24_2 != l15_2 then
 some ((1, false), PUnit.unit) else some ((0, false), PUnit.unit) else some ((0, false), PUnit.unit) else bif one then
 bif decide (r > 4) then
 bif l21_2 != l12_2 then
 some ((1, false), PUnit.unit) else bif decide (r > 6) then
 bif l24_2 != l15_2 then
 some ((1, false), PUnit.unit) else some ((0, false), PUnit.unit) else some ((0, false), PUnit.unit) else bif decide (r > 6) then
 bif l24_2 != l15_2 then
 some ((1, false), PUnit.unit) else some ((0, false), PUnit.unit) else some ((0, false), PUnit.unit) else bif decide (r > 6) then
 bif l24_2 != l15_2 then
 some ((1, false), PUnit.unit) else some ((0, false), PUnit.unit) else some ((0, false), PUnit.unit) else bif decide (r > 2) then
 bif l19_2 != l10_2 then
 some ((1, false), PUnit.unit) else bif decide (r > 3) then
 bif l20_2 != l11_2 then
 some ((1, false), PUnit.unit) else bif one then
 bif decide (r > 4) then
 bif l21_2 != l12_2 then
 some ((1, false), PUnit.unit) else bif decide (r > 6) then
 bif l24_2 != l15_2 then
 some ((1, false), PUnit.unit) else some ((0, false), PUnit.unit) else some ((0, false), PUnit.unit) else bif decide (r > 6) then
 bif l24_2 != l15_2 then
 some ((1, false), PUnit.unit) else some ((0, false), PUnit.unit) else some ((0, false), PUnit.unit) else bif decide (r > 6) then
 bif l24_2 != l15_2 then
 some ((1, false), PUnit.unit) else some ((0, false), PUnit.unit) else some ((0, false), PUnit.unit) else bif one then
 bif decide (r > 4) then
 bif l21_2 != l12_2 then
 some ((1, false), PUnit.unit) else bif decide (r > 6) then
 bif l24_2 != l15_2 then
 some ((1, false), PUnit.unit) else some ((0, false), PUnit.unit) else some ((0, false), PUnit.unit) else bif decide (r > 6) then
 bif l24_2 != l15_2 then
 some ((1, false), PUnit.unit) else some ((0, false), PUnit.unit) else some ((0, false), PUnit.unit) else bif decide (r > 6) then
 bif l24_2 != l15_2 then
 some ((1, false), PUnit.unit) else some ((0, false), PUnit.unit) else some ((0, false), PUnit.unit) else bif decide (r > 3) then
 bif l20_2 != l11_2 then
 some ((1, false), PUnit.unit) else bif one then
 bif decide (r > 4) then
 bif l21_2 != l12_2 then
 some ((1, false), PUnit.unit) else bif decide (r > 6) then
 bif l24_2 != l15_2 then
 some ((1, false), PUnit.unit) else some ((0, false), PUnit.unit) else some ((0, false), PUnit.unit) else bif decide (r > 6) then
 bif l24_2 != l15_2 then
 some ((1, false), PUnit.unit) else some ((0, false), PUnit.unit) else some ((0, false), PUnit.unit) else bif decide (r > 6) then
 bif l24_2 != l15_2 then
 some ((1, false), PUnit.unit) else some ((0, false), PUnit.unit) else some ((0, false), PUnit.unit) else bif one then
 bif decide (r > 4) then
 bif l21_2 != l12_2 then
 some ((1, false), PUnit.unit) else bif decide (r > 6) then
 bif l24_2 != l15_2 then
 some ((1, false), PUnit.unit) else some ((0, false), PUnit.unit) else some ((0, false), PUnit.unit) else bif decide (r > 6) then
 bif l24_2 != l15_2 then
 some ((1, false), PUnit.unit) else some ((0, false), PUnit.unit) else some ((0, false), PUnit.unit) else bif decide (r > 6) then
 bif l24_2 != l15_2 then
 some ((1, false), PUnit.unit) else some ((0, false), PUnit.unit) else some ((0, false), PUnit.unit)
theorem r2c7e (x7 : F7.FT) (l0 : Int) (l1_2 : Int) (l2_2 : Int) (l3_2 : Int) (l4_2 : Int) (l5_2 : Int) (l6_2 : Int) (l7_2 : Int) (l8_2 : Int) (l9_2 : Int) (l10_2 : Int) (l11_2 : Int) (l12_2 : Int) (l13_2 : Int) (l14_2 : Int) (l15_2 : Int) (l16_2 : Int) (l17_2 : Int) (l18_2 : Int) (l19_2 : Int) (l20_2 : Int) (l21_2 : Int) (l22_2 : Int) (l23_2 : Int) (l24_2 : Int) (l25_2 : Int) (l26_2 : Int) (one : Bool) (r : Int) : unitF (tabC Tryd.prog (tab x7) (pls x7) 100 10) 100 .none (u2 fun _ _ => none) (codeAt [1, 1, 1, 0, 1, 0, 0, 1, 1, 0, 0, 1, 1, 0, 0, 1, 1, 0, 0, 1, 1, 1, 1] (bodyOf Tryd.prog 3)) ((l0, l1_2, l2_2, l3_2, l4_2, l5_2, l6_2, l7_2, l8_2, l9_2, l10_2, l11_2, l12_2, l13_2, l14_2, l15_2, l16_2, l17_2, l18_2, l19_2, l20_2, l21_2, l22_2, l23_2, l24_2, l25_2, l26_2), one, (2 : Int), (1 : Int), r) () = r2c7P x7 ((l0, l1_2, l2_2, l3_2, l4_2, l5_2, l6_2, l7_2, l8_2, l9_2, l10_2, l11_2, l12_2, l13_2, l14_2, l15_2, l16_2, l17_2, l18_2, l19_2, l20_2, l21_2, l22_2, l23_2, l24_2, l25_2, l26_2), one, (2 : Int), (1 : Int), r) () := by kernel_rfl
def r2c8P (x7 : F7.FT) : G2 := fun ((l0, l1_2, l2_2, l3_2, l4_2, l5_2, l6_2, l7_2, l8_2, l9_2, l10_2, l11_2, l12_2, l13_2, l14_2, l15_2, l16_2, l17_2, l18_2, l19_2, l20_2, l21_2, l22_2, l23_2, l24_2, l25_2, l26_2), one, _, _, r) () => bif decide (r > 1) then
 bif l18_2 != l18_2 then
 some ((1, false), PUnit.unit) else bif decide (r > 2) then
 bif l19_2 != l19_2 then
 some ((1, false), PUnit.unit) else bif decide (r > 3) then
 bif l20_2 != l20_2 then
 some ((1, false), PUnit.unit) else bif one then
 bif decide (r > 4) then
 bif l21_2 != l21_2 then
 some ((1, false), PUnit.unit) else bif decide (r > 6) then
 bif l24_2 != l24_2 then
 some ((1, false), PUnit.unit) else some ((0, false), PUnit.unit) else some ((0, false), PUnit.unit) else bif decide (r > 6) then
 bif l24_2 != l24_2 then
 some ((1, false), PUnit.unit) else some ((0, false), PUnit.unit) else some ((0, false), PUnit.unit) else bif decide (r > 6) then
 bif l24_2 != l24_2 then
 some ((1, false), PUnit.unit) else some ((0, false), PUnit.unit) else some ((0, false), PUnit.unit) else bif one then
 bif decide (r > 4) then
 bif l21_2 != l21_2 then
 some ((1, false), PUnit.unit) else bif decide (r > 6) then
 bif l24_2 != l24_2 then
 some ((1, false), PUnit.unit) else some ((0, false), PUnit.unit) else some ((0, false), PUnit.unit) else bif decide (r > 6) then
 bif l24_2 != l24_2 then
 some ((1, false), PUnit.unit) else some ((0, false), PUnit.unit) else some ((0, false), PUnit.unit) else bif decide (r > 6) then
 bif l24_2 != l24_2 then
 some ((1, false), PUnit.unit) else some ((0, false), PUnit.unit) else some ((0, false), PUnit.unit) else bif decide (r > 3) then
 bif l20_2 != l20_2 then
 some ((1, false), PUnit.unit) else bif one then
 bif decide (r > 4) then
 bif l21_2 != l21_2 then
 some ((1, false), PUnit.unit) else bif decide (r > 6) then
 bif l24_2 != l24_2 then
 some ((1, false), PUnit.unit) else some ((0, false), PUnit.unit) else some ((0, false), PUnit.unit) else bif decide (r > 6) then
 bif l24_2 != l24_2 then
 some ((1, false), PUnit.unit) else some ((0, false), PUnit.unit) else some ((0, false), PUnit.unit) else bif decide (r > 6) then
 bif l24_2 != l24_2 then
 some ((1, false), PUnit.unit) else some ((0, false), PUnit.unit) else some ((0, false), PUnit.unit) else bif one then
 bif decide (r > 4) then
 bif l21_2 != l21_2 then
 some ((1, false), PUnit.unit) else bif decide (r > 6) then
 bif l24_2 != l24_2 then
 some ((1, false), PUnit.unit) else some ((0, false), PUnit.unit) else some ((0, false), PUnit.unit) else bif decide (r > 6) then
 bif l24_2 != l24_2 then
 some ((1, false), PUnit.unit) else some ((0, false), PUnit.unit) else some ((0, false), PUnit.unit) else bif decide (r > 6) then
 bif l24_2 != l24_2 then
 some ((1, false), PUnit.unit) else some ((0, false), PUnit.unit) else some ((0, false), PUnit.unit) else bif decide (r > 2) then
 bif l19_2 != l19_2 then
 some ((1, false), PUnit.unit) else bif decide (r > 3) then
 bif l20_2 != l20_2 then
 some ((1, false), PUnit.unit) else bif one then
 bif decide (r > 4) then
 bif l21_2 != l21_2 then
 some ((1, false), PUnit.unit) else bif decide (r > 6) then
 bif l24_2 != l24_2 then
 some ((1, false), PUnit.unit) else some ((0, false), PUnit.unit) else some ((0, false), PUnit.unit) else bif decide (r > 6) then
 bif l24_2 != l24_2 then
 some ((1, false), PUnit.unit) else some ((0, false), PUnit.unit) else some ((0, false), PUnit.unit) else bif decide (r > 6) then
 bif l24_2 != l24_2 then
 some ((1, false), PUnit.unit) else some ((0, false), PUnit.unit) else some ((0, false), PUnit.unit) else bif one then
 bif decide (r > 4) then
 bif l21_2 != l21_2 then
 some ((1, false), PUnit.unit) else bif decide (r > 6) then
 bif l24_2 != l24_2 then
 some ((1, false), PUnit.unit) else some ((0, false), PUnit.unit) else some ((0, false), PUnit.unit) else bif decide (r > 6) then
 bif l24_2 != l24_2 then
 some ((1, false), PUnit.unit) else some ((0, false), PUnit.unit) else some ((0, false), PUnit.unit) else bif decide (r > 6) then
 bif l24_2 != l24_2 then
 some ((1, false), PUnit.unit) else some ((0, false), PUnit.unit) else some ((0, false), PUnit.unit) else bif decide (r > 3) then
 bif l20_2 != l20_2 then
 some ((1, false), PUnit.unit) else bif one then
 bif decide (r > 4) then
 bif l21_2 != l21_2 then
 some ((1, false), PUnit.unit) else bif decide (r > 6) then
 bif l24_2 != l24_2 then
 some ((1, false), PUnit.unit) else some ((0, false), PUnit.unit) else some ((0, false), PUnit.unit) else bif decide (r > 6) then
 bif l24_2 != l24_2 then
 some ((1, false), PUnit.unit) else some ((0, false), PUnit.unit) else some ((0, false), PUnit.unit) else bif decide (r > 6) then
 bif l24_2 != l24_2 then
 some ((1, false), PUnit.unit) else some ((0, false), PUnit.unit) else some ((0, false), PUnit.unit) else bif one then
 bif decide (r > 4) then
 bif l21_2 != l21_2 then
 some ((1, false), PUnit.unit) else bif decide (r > 6) then
 bif l24_2 != l24_2 then
 some ((1, false), PUnit.unit) else some ((0, false), PUnit.unit) else some ((0, false), PUnit.unit) else bif decide (r > 6) then
 bif l24_2 != l24_2 then
 some ((1, false), PUnit.unit) else some ((0, false), PUnit.unit) else some ((0, false), PUnit.unit) else bif decide (r > 6) then
 bif l24_2 != l24_2 then
 some ((1, false), PUnit.unit) else some ((0, false), PUnit.unit) else some ((0, false), PUnit.unit)
theorem r2c8e (x7 : F7.FT) (l0 : Int) (l1_2 : Int) (l2_2 : Int) (l3_2 : Int) (l4_2 : Int) (l5_2 : Int) (l6_2 : Int) (l7_2 : Int) (l8_2 : Int) (l9_2 : Int) (l10_2 : Int) (l11_2 : Int) (l12_2 : Int) (l13_2 : Int) (l14_2 : Int) (l15_2 : Int) (l16_2 : Int) (l17_2 : Int) (l18_2 : Int) (l19_2 : Int) (l20_2 : Int) (l21_2 : Int) (l22_2 : Int) (l23_2 : Int) (l24_2 : Int) (l25_2 : Int) (l26_2 : Int) (one : Bool) (r : Int) : unitF (tabC Tryd.prog (tab x7) (pls x7) 100 10) 100 .none (u2 fun _ _ => none) (codeAt [1, 1, 1, 0, 1, 0, 0, 1, 1, 0, 0, 1, 1, 0, 0, 1, 1, 0, 0, 1, 1, 1, 1] (bodyOf Tryd.prog 3)) ((l0, l1_2, l2_2, l3_2, l4_2, l5_2, l6_2, l7_2, l8_2, l9_2, l10_2, l11_2, l12_2, l13_2, l14_2, l15_2, l16_2, l17_2, l18_2, l19_2, l20_2, l21_2, l22_2, l23_2, l24_2, l25_2, l26_2), one, (2 : Int), (2 : Int), r) () = r2c8P x7 ((l0, l1_2, l2_2, l3_2, l4_2, l5_2, l6_2, l7_2, l8_2, l9_2, l10_2, l11_2, l12_2, l13_2, l14_2, l15_2, l16_2, l17_2, l18_2, l19_2, l20_2, l21_2, l22_2, l23_2, l24_2, l25_2, l26_2), one, (2 : Int), (2 : Int), r) () := by kernel_rfl
def r2P (x7 : F7.FT) : G2 := fun ((l0, l1_2, l2_2, l3_2, l4_2, l5_2, l6_2, l7_2, l8_2, l9_2, l10_2, l11_2, l12_2, l13_2, l14_2, l15_2, l16_2, l17_2, l18_2, l19_2, l20_2, l21_2, l22_2, l23_2, l24_2, l25_2, l26_2), one, i, j, r) () => if i = 0 ∧ j = 0 then
 r2c0P x7 ((l0, l1_2, l2_2, l3_2, l4_2, l5_2, l6_2, l7_2, l8_2, l9_2, l10_2, l11_2, l12_2, l13_2, l14_2, l15_2, l16_2, l17_2, l18_2, l19_2, l20_2, l21_2, l22_2, l23_2, l24_2, l25_2, l26_2), one, i, j, r) () else if i = 0 ∧ j = 1 then
 r2c1P x7 ((l0, l1_2, l2_2, l3_2, l4_2, l5_2, l6_2, l7_2, l8_2, l9_2, l10_2, l11_2, l12_2, l13_2, l14_2, l15_2, l16_2, l17_2, l18_2, l19_2, l20_2, l21_2, l22_2, l23_2, l24_2, l25_2, l26_2), one, i, j, r) () else if i = 0 ∧ j = 2 then
 r2c2P x7 ((l0, l1_2, l2_2, l3_2, l4_2, l5_2, l6_2, l7_2, l8_2, l9_2, l10_2, l11_2, l12_2, l13_2, l14_2, l15_2, l16_2, l17_2, l18_2, l19_2, l20_2, l21_2, l22_2, l23_2, l24_2, l25_2, l26_2), one, i, j, r) () else if i = 1 ∧ j = 0 then
 r2c3P x7 ((l0, l1_2, l2_2, l3_2, l4_2, l5_2, l6_2, l7_2, l8_2, l9_2, l10_2, l11_2, l12_2, l13_2, l14_2, l15_2, l16_2, l17_2, l18_2, l19_2, l20_2, l21_2, l22_2, l23_2, l24_2, l25_2, l26_2), one, i, j, r) () else if i = 1 ∧ j = 1 then
 r2c4P x7 ((l0, l1_2, l2_2, l3_2, l4_2, l5_2, l6_2, l7_2, l8_2, l9_2, l10_2, l11_2, l12_2, l13_2, l14_2, l15_2, l16_2, l17_2, l18_2, l19_2, l20_2, l21_2, l22_2, l23_2, l24_2, l25_2, l26_2), one, i, j, r) () else if i = 1 ∧ j = 2 then
 r2c5P x7 ((l0, l1_2, l2_2, l3_2, l4_2, l5_2, l6_2, l7_2, l8_2, l9_2, l10_2, l11_2, l12_2, l13_2, l14_2, l15_2, l16_2, l17_2, l18_2, l19_2, l20_2, l21_2, l22_2, l23_2, l24_2, l25_2, l26_2), one, i, j, r) () else if i = 2 ∧ j = 0 then
 r2c6P x7 ((l0, l1_2, l2_2, l3_2, l4_2, l5_2, l6_2, l7_2, l8_2, l9_2, l10_2, l11_2, l12_2, l13_2, l14_2, l15_2, l16_2, l17_2, l18_2, l19_2, l20_2, l21_2, l22_2, l23_2, l24_2, l25_2, l26_2), one, i, j, r) () else if i = 2 ∧ j = 1 then
 r2c7P x7 ((l0, l1_2, l2_2, l3_2, l4_2, l5_2, l6_2, l7_2, l8_2, l9_2, l10_2, l11_2, l12_2, l13_2, l14_2, l15_2, l16_2, l17_2, l18_2, l19_2, l20_2, l21_2, l22_2, l23_2, l24_2, l25_2, l26_2), one, i, j, r) () else if i = 2 ∧ j = 2 then
 r2c8P x7 ((l0, l1_2, l2_2, l3_2, l4_2, l5_2, l6_2, l7_2, l8_2, l9_2, l10_2, l11_2, l12_2, l13_2, l14_2, l15_2, l16_2, l17_2, l18_2, l19_2, l20_2, l21_2, l22_2, l23_2, l24_2, l25_2, l26_2), one, i, j, r) () else none
theorem r2le (x7 : F7.FT) (kd : (Int × Int × Int × Int × Int × Int × Int × Int × Int × Int × Int × Int × Int × Int × Int × Int × Int × Int × Int × Int × Int × Int × Int × Int × Int × Int × Int) × Bool × Int × Int × Int) (d : Unit) (r : Den o2 × Den (posts i2)) (h : r2P x7 kd d = some r) : unitF (tabC Tryd.prog (tab x7) (pls x7) 100 10) 100 .none (u2 fun _ _ => none) (codeAt [1, 1, 1, 0, 1, 0, 0, 1, 1, 0, 0, 1, 1, 0, 0, 1, 1, 0, 0, 1, 1, 1, 1] (bodyOf Tryd.prog 3)) kd d = some r := by
  obtain ⟨⟨l0, l1_2, l2_2, l3_2, l4_2, l5_2, l6_2, l7_2, l8_2, l9_2, l10_2, l11_2, l12_2, l13_2, l14_2, l15_2, l16_2, l17_2, l18_2, l19_2, l20_2, l21_2, l22_2, l23_2, l24_2, l25_2, l26_2⟩, one, i, j, r⟩ := kd
  obtain ⟨⟩ := d
  unfold r2P at h
  simp only at h
  split at h
  · rename_i hc
    obtain ⟨rfl, rfl⟩ := hc
    rw [r2c0e]; exact h
  split at h
  · rename_i hc
    obtain ⟨rfl, rfl⟩ := hc
    rw [r2c1e]; exact h
  split at h
  · rename_i hc
    obtain ⟨rfl, rfl⟩ := hc
    rw [r2c2e]; exact h
  split at h
  · rename_i hc
    obtain ⟨rfl, rfl⟩ := hc
    rw [r2c3e]; exact h
  split at h
  · rename_i hc
    obtain ⟨rfl, rfl⟩ := hc
    rw [r2c4e]; exact h
  split at h
  · rename_i hc
    obtain ⟨rfl, rfl⟩ := hc
    rw [r2c5e]; exact h
  split at h
  · rename_i hc
    obtain ⟨rfl, rfl⟩ := hc
    rw [r2c6e]; exact h
  split at h
  · rename_i hc
    obtain ⟨rfl, rfl⟩ := hc
    rw [r2c7e]; exact h
  split at h
  · rename_i hc
    obtain ⟨rfl, rfl⟩ := hc
    rw [r2c8e]; exact h
  cases h
noncomputable def r2 : G2 := r2P F7.f
noncomputable def l2 : G2 := r2
theorem ok2 : UnOk Tryd.prog (u2 l2) (codeAt [1, 1, 1, 0, 1, 0, 0, 1, 1, 0, 0, 1, 1, 0, 0, 1, 1, 0, 0, 1, 1, 1, 1] (bodyOf Tryd.prog 3)) := fun a w kd d Rk Ps F R r h0 h1 h2 h3 h4 h5 h6 h7 =>
  Code.wp_mono (fun _ _ _ h => ⟨h.so⟩) ((blockT (u := u2 (unitF (tabC Tryd.prog (tab F7.f) (pls F7.f) 100 10) 100 .none (u2 fun _ _ => none) (codeAt [1, 1, 1, 0, 1, 0, 0, 1, 1, 0, 0, 1, 1, 0, 0, 1, 1, 0, 0, 1, 1, 1, 1] (bodyOf Tryd.prog 3)))) (p := .none) (fuel := 100) (depth := 10) mixed tabS plsP trivial (fun _ _ => rfl)) a w kd d Rk Ps F R r h0 h1 h2 h3 h4 h5 h6 (r2le F7.f kd d r h7))
def fP (x7 : F7.FT) (l1 : G1) (l2 : G2) : FT := fun ((l0, l1_2, l2_2, l3_2, l4_2, l5_2, l6_2, l7_2, l8_2, l9_2, l10_2, l11_2, l12_2, l13_2, l14_2, l15_2, l16_2, l17_2, l18_2, l19_2, l20_2, l21_2, l22_2, l23_2, l24_2, l25_2, l26_2), one, n) => bif one then
 (x7 ((l0, l1_2, l2_2, l3_2, n, l5_2, l6_2, l7_2, l8_2), (l0, l1_2, l2_2, l3_2, n, l5_2, l6_2, l7_2, l8_2), one)).bind fun r0 => (x7 ((l0, l1_2, l2_2, l3_2, n, l5_2, l6_2, l7_2, l8_2), (l0, l1_2, l2_2, l3_2, n, l5_2, l6_2, l7_2, l8_2), one)).bind fun r1 => (l1 (0, 0, r0.fst.fst, r0.fst.snd, r1.fst.fst, r1.fst.snd) PUnit.unit).bind fun r2 => bif decide (r2.fst.fst = 0) then
 (l2 ((l0, l1_2, l2_2, l3_2, n, l5_2, l6_2, l7_2, l8_2, l9_2, l10_2, l11_2, l12_2, n, l14_2, l15_2, l16_2, l17_2, l18_2, l19_2, l20_2, l21_2, n, l23_2, l24_2, l25_2, l26_2), one, 0, 0, r0.fst.snd) PUnit.unit).bind fun r3 => bif decide (r3.fst.fst = 0) then
 (x7 ((l0, l1_2, l2_2, l3_2, n, l5_2, l6_2, l7_2, l8_2), (l9_2, l10_2, l11_2, l12_2, n, l14_2, l15_2, l16_2, l17_2), one)).bind fun r4 => (x7 ((l9_2, l10_2, l11_2, l12_2, n, l14_2, l15_2, l16_2, l17_2), (l0, l1_2, l2_2, l3_2, n, l5_2, l6_2, l7_2, l8_2), one)).bind fun r5 => (l1 (0, 1, r4.fst.fst, r4.fst.snd, r5.fst.fst, r5.fst.snd) PUnit.unit).bind fun r6 => bif decide (r6.fst.fst = 0) then
 (l2 ((l0, l1_2, l2_2, l3_2, n, l5_2, l6_2, l7_2, l8_2, l9_2, l10_2, l11_2, l12_2, n, l14_2, l15_2, l16_2, l17_2, l18_2, l19_2, l20_2, l21_2, n, l23_2, l24_2, l25_2, l26_2), one, 0, 1, r4.fst.snd) PUnit.unit).bind fun r7 => bif decide (r7.fst.fst = 0) then
 (x7 ((l0, l1_2, l2_2, l3_2, n, l5_2, l6_2, l7_2, l8_2), (l18_2, l19_2, l20_2, l21_2, n, l23_2, l24_2, l25_2, l26_2), one)).bind fun r8 => (x7 ((l18_2, l19_2, l20_2, l21_2, n, l23_2, l24_2, l25_2, l26_2), (l0, l1_2, l2_2, l3_2, n, l5_2, l6_2, l7_2, l8_2), one)).bind fun r9 => (l1 (0, 2, r8.fst.fst, r8.fst.snd, r9.fst.fst, r9.fst.snd) PUnit.unit).bind fun r10 => bif decide (r10.fst.fst = 0) then
 (l2 ((l0, l1_2, l2_2, l3_2, n, l5_2, l6_2, l7_2, l8_2, l9_2, l10_2, l11_2, l12_2, n, l14_2, l15_2, l16_2, l17_2, l18_2, l19_2, l20_2, l21_2, n, l23_2, l24_2, l25_2, l26_2), one, 0, 2, r8.fst.snd) PUnit.unit).bind fun r11 => bif decide (r11.fst.fst = 0) then
 (x7 ((l9_2, l10_2, l11_2, l12_2, n, l14_2, l15_2, l16_2, l17_2), (l0, l1_2, l2_2, l3_2, n, l5_2, l6_2, l7_2, l8_2), one)).bind fun r12 => (x7 ((l0, l1_2, l2_2, l3_2, n, l5_2, l6_2, l7_2, l8_2), (l9_2, l10_2, l11_2, l12_2, n, l14_2, l15_2, l16_2, l17_2), one)).bind fun r13 => (l1 (1, 0, r12.fst.fst, r12.fst.snd, r13.fst.fst, r13.fst.snd) PUnit.unit).bind fun r14 => bif decide (r14.fst.fst = 0) then
 (l2 ((l0, l1_2, l2_2, l3_2, n, l5_2, l6_2, l7_2, l8_2, l9_2, l10_2, l11_2, l12_2, n, l14_2, l15_2, l16_2, l17_2, l18_2, l19_2, l20_2, l21_2, n, l23_2, l24_2, l25_2, l26_2), one, 1, 0, r12.fst.snd) PUnit.unit).bind fun r15 => bif decide (r15.fst.fst = 0) then
 (x7 ((l9_2, l10_2, l11_2, l12_2, n, l14_2, l15_2, l16_2, l17_2), (l9_2, l10_2, l11_2, l12_2, n, l14_2, l15_2, l16_2, l17_2), one)).bind fun r16 => (x7 ((l9_2, l10_2, l11_2, l12_2, n, l14_2, l15_2, l16_2, l17_2), (l9_2, l10_2, l11_2, l12_2, n, l14_2, l15_2, l16_2, l17_2), one)).bind fun r17 => (l1 (1, 1, r16.fst.fst, r16.fst.snd, r17.fst.fst, r17.fst.snd) PUnit.unit).bind fun r18 => bif decide (r18.fst.fst = 0) then
 (l2 ((l0, l1_2, l2_2, l3_2, n, l5_2, l6_2, l7_2, l8_2, l9_2, l10_2, l11_2, l12_2, n, l14_2, l15_2, l16_2, l17_2, l18_2, l19_2, l20_2, l21_2, n, l23_2, l24_2, l25_2, l26_2), one, 1, 1, r16.fst.snd) PUnit.unit).bind fun r19 => bif decide (r19.fst.fst = 0) then
 (x7 ((l9_2, l10_2, l11_2, l12_2, n, l14_2, l15_2, l16_2, l17_2), (l18_2, l19_2, l20_2, l21_2, n, l23_2, l24_2, l25_2, l26_2), one)).bind fun r20 => (x7 ((l18_2, l19_2, l20_2, l21_2, n, l23_2, l24_2, l25_2, l26_2), (l9_2, l10_2, l11_2, l12_2, n, l14_2, l15_2, l16_2, l17_2), one)).bind fun r21 => (l1 (1, 2, r20.fst.fst, r20.fst.snd, r21.fst.fst, r21.fst.snd) PUnit.unit).bind fun r22 => bif decide (r22.fst.fst = 0) then
 (l2 ((l0, l1_2, l2_2, l3_2, n, l5_2, l6_2, l7_2, l8_2, l9_2, l10_2, l11_2, l12_2, n, l14_2, l15_2, l16_2, l17_2, l18_2, l19_2, l20_2, l21_2, n, l23_2, l24_2, l25_2, l26_2), one, 1, 2, r20.fst.snd) PUnit.unit).bind fun r23 => bif decide (r23.fst.fst = 0) then
 (x7 ((l18_2, l19_2, l20_2, l21_2, n, l23_2, l24_2, l25_2, l26_2), (l0, l1_2, l2_2, l3_2, n, l5_2, l6_2, l7_2, l8_2), one)).bind fun r24 => (x7 ((l0, l1_2, l2_2, l3_2, n, l5_2, l6_2, l7_2, l8_2), (l18_2, l19_2, l20_2, l21_2, n, l23_2, l24_2, l25_2, l26_2), one)).bind fun r25 => (l1 (2, 0, r24.fst.fst, r24.fst.snd, r25.fst.fst, r25.fst.snd) PUnit.unit).bind fun r26 => bif decide (r26.fst.fst = 0) then
 (l2 ((l0, l1_2, l2_2, l3_2, n, l5_2, l6_2, l7_2, l8_2, l9_2, l10_2, l11_2, l12_2, n, l14_2, l15_2, l16_2, l17_2, l18_2, l19_2, l20_2, l21_2, n, l23_2, l24_2, l25_2, l26_2), one, 2, 0, r24.fst.snd) PUnit.unit).bind fun r27 => bif decide (r27.fst.fst = 0) then
 (x7 ((l18_2, l19_2, l20_2, l21_2, n, l23_2, l24_2, l25_2, l26_2), (l9_2, l10_2, l11_2, l12_2, n, l14_2, l15_2, l16_2, l17_2), one)).bind fun r28 => (x7 ((l9_2, l10_2, l11_2, l12_2, n, l14_2, l15_2, l16_2, l17_2), (l18_2, l19_2, l20_2, l21_2, n, l23_2, l24_2, l25_2, l26_2), one)).bind fun r29 => (l1 (2, 1, r28.fst.fst, r28.fst.snd, r29.fst.fst, r29.fst.snd) PUnit.unit).bind fun r30 => bif decide (r30.fst.fst = 0) then
 (l2 ((l0, l1_2, l2_2, l3_2, n, l5_2, l6_2, l7_2, l8_2, l9_2, l10_2, l11_2, l12_2, n, l14_2, l15_2, l16_2, l17_2, l18_2, l19_2, l20_2, l21_2, n, l23_2, l24_2, l25_2, l26_2), one, 2, 1, r28.fst.snd) PUnit.unit).bind fun r31 => bif decide (r31.fst.fst = 0) then
 (x7 ((l18_2, l19_2, l20_2, l21_2, n, l23_2, l24_2, l25_2, l26_2), (l18_2, l19_2, l20_2, l21_2, n, l23_2, l24_2, l25_2, l26_2), one)).bind fun r32 => (x7 ((l18_2, l19_2, l20_2, l21_2, n, l23_2, l24_2, l25_2, l26_2), (l18_2, l19_2, l20_2, l21_2, n, l23_2, l24_2, l25_2, l26_2), one)).bind fun r33 => (l1 (2, 2, r32.fst.fst, r32.fst.snd, r33.fst.fst, r33.fst.snd) PUnit.unit).bind fun r34 => bif decide (r34.fst.fst = 0) then
 (l2 ((l0, l1_2, l2_2, l3_2, n, l5_2, l6_2, l7_2, l8_2, l9_2, l10_2, l11_2, l12_2, n, l14_2, l15_2, l16_2, l17_2, l18_2, l19_2, l20_2, l21_2, n, l23_2, l24_2, l25_2, l26_2), one, 2, 2, r32.fst.snd) PUnit.unit).bind fun r35 => bif decide (r35.fst.fst = 0) then
 (x7 ((l0, l1_2, l2_2, l3_2, n, l5_2, l6_2, l7_2, l8_2), (l9_2, l10_2, l11_2, l12_2, n, l14_2, l15_2, l16_2, l17_2), one)).bind fun r36 => bif decide (r36.fst.fst ≤ 0) then
 (x7 ((l9_2, l10_2, l11_2, l12_2, n, l14_2, l15_2, l16_2, l17_2), (l18_2, l19_2, l20_2, l21_2, n, l23_2, l24_2, l25_2, l26_2), one)).bind fun r37 => bif decide (r37.fst.fst ≤ 0) then
 (x7 ((l0, l1_2, l2_2, l3_2, n, l5_2, l6_2, l7_2, l8_2), (l18_2, l19_2, l20_2, l21_2, n, l23_2, l24_2, l25_2, l26_2), one)).bind fun r38 => bif decide (r38.fst.fst > 0) then
 some (false, PUnit.unit) else (x7 ((l0, l1_2, l2_2, l3_2, n, l5_2, l6_2, l7_2, l8_2), (l9_2, l10_2, l11_2, l12_2, n, l14_2, l15_2, l16_2, l17_2), one)).bind fun r39 => bif r39.fst.fst == 0 then
 (x7 ((l9_2, l10_2, l11_2, l12_2, n, l14_2, l15_2, l16_2, l17_2), (l18_2, l19_2, l20_2, l21_2, n, l23_2, l24_2, l25_2, l26_2), one)).bind fun r40 => bif r40.fst.fst == 0 then
 (x7 ((l0, l1_2, l2_2, l3_2, n, l5_2, l6_2, l7_2, l8_2), (l18_2, l19_2, l20_2, l21_2, n, l23_2, l24_2, l25_2, l26_2), one)).bind fun r41 => bif r41.fst.fst != 0 then
 some (false, PUnit.unit) else some (true, PUnit.unit) else some (true, PUnit.unit) else some (true, PUnit.unit) else (x7 ((l0, l1_2, l2_2, l3_2, n, l5_2, l6_2, l7_2, l8_2), (l9_2, l10_2, l11_2, l12_2, n, l14_2, l15_2, l16_2, l17_2), one)).bind fun r38 => bif r38.fst.fst == 0 then
 (x7 ((l9_2, l10_2, l11_2, l12_2, n, l14_2, l15_2, l16_2, l17_2), (l18_2, l19_2, l20_2, l21_2, n, l23_2, l24_2, l25_2, l26_2), one)).bind fun r39 => bif r39.fst.fst == 0 then
 (x7 ((l0, l1_2, l2_2, l3_2, n, l5_2, l6_2, l7_2, l8_2), (l18_2, l19_2, l20_2, l21_2, n, l23_2, l24_2, l25_2, l26_2), one)).bind fun r40 => bif r40.fst.fst != 0 then
 some (false, PUnit.unit) else some (true, PUnit.unit) else some (true, PUnit.unit) else some (true, PUnit.unit) else (x7 ((l0, l1_2, l2_2, l3_2, n, l5_2, l6_2, l7_2, l8_2), (l9_2, l10_2, l11_2, l12_2, n, l14_2, l15_2, l16_2, l17_2), one)).bind fun r37 => bif r37.fst.fst == 0 then
 (x7 ((l9_2, l10_2, l11_2, l12_2, n, l14_2, l15_2, l16_2, l17_2), (l18_2, l19_2, l20_2, l21_2, n, l23_2, l24_2, l25_2, l26_2), one)).bind fun r38 => bif r38.fst.fst == 0 then
 (x7 ((l0, l1_2, l2_2, l3_2, n, l5_2, l6_2, l7_2, l8_2), (l18_2, l19_2, l20_2, l21_2, n, l23_2, l24_2, l25_2, l26_2), one)).bind fun r39 => bif r39.fst.fst != 0 then
 some (false, PUnit.unit) else some (true, PUnit.unit) else some (true, PUnit.unit) else some (true, PUnit.unit) else bif decide (r35.fst.fst = 1) then
 some (r35.fst.snd, PUnit.unit) else none else bif decide (r34.fst.fst = 1) then
 some (r34.fst.snd, PUnit.unit) else none else bif decide (r31.fst.fst = 1) then
 some (r31.fst.snd, PUnit.unit) else none else bif decide (r30.fst.fst = 1) then
 some (r30.fst.snd, PUnit.unit) else none else bif decide (r27.fst.fst = 1) then
 some (r27.fst.snd, PUnit.unit) else none else bif decide (r26.fst.fst = 1) then
 some (r26.fst.snd, PUnit.unit) else none else bif decide (r23.fst.fst = 1) then
 some (r23.fst.snd, PUnit.unit) else none else bif decide (r22.fst.fst = 1) then
 some (r22.fst.snd, PUnit.unit) else none else bif decide (r19.fst.fst = 1) then
 some (r19.fst.snd, PUnit.unit) else none else bif decide (r18.fst.fst = 1) then
 some (r18.fst.snd, PUnit.unit) else none else bif decide (r15.fst.fst = 1) then
 some (r15.fst.snd, PUnit.unit) else none else bif decide (r14.fst.fst = 1) then
 some (r14.fst.snd, PUnit.unit) else none else bif decide (r11.fst.fst = 1) then
 some (r11.fst.snd, PUnit.unit) else none else bif decide (r10.fst.fst = 1) then
 some (r10.fst.snd, PUnit.unit) else none else bif decide (r7.fst.fst = 1) then
 some (r7.fst.snd, PUnit.unit) else none else bif decide (r6.fst.fst = 1) then
 some (r6.fst.snd, PUnit.unit) else none else bif decide (r3.fst.fst = 1) then
 some (r3.fst.snd, PUnit.unit) else none else bif decide (r2.fst.fst = 1) then
 some (r2.fst.snd, PUnit.unit) else none else (x7 ((l0, l1_2, l2_2, l3_2, l4_2, l5_2, l6_2, l7_2, l8_2), (l0, l1_2, l2_2, l3_2, l4_2, l5_2, l6_2, l7_2, l8_2), one)).bind fun r0 => (x7 ((l0, l1_2, l2_2, l3_2, l4_2, l5_2, l6_2, l7_2, l8_2), (l0, l1_2, l2_2, l3_2, l4_2, l5_2, l6_2, l7_2, l8_2), one)).bind fun r1 => (l1 (0, 0, r0.fst.fst, r0.fst.snd, r1.fst.fst, r1.fst.snd) PUnit.unit).bind fun r2 => bif decide (r2.fst.fst = 0) then
 (l2 ((l0, l1_2, l2_2, l3_2, l4_2, l5_2, l6_2, l7_2, l8_2, l9_2, l10_2, l11_2, l12_2, l13_2, l14_2, l15_2, l16_2, l17_2, l18_2, l19_2, l20_2, l21_2, l22_2, l23_2, l24_2, l25_2, l26_2), one, 0, 0, r0.fst.snd) PUnit.unit).bind fun r3 => bif decide (r3.fst.fst = 0) then
 (x7 ((l0, l1_2, l2_2, l3_2, l4_2, l5_2, l6_2, l7_2, l8_2), (l9_2, l10_2, l11_2, l12_2, l13_2, l14_2, l15_2, l16_2, l17_2), one)).bind fun r4 => (x7 ((l9_2, l10_2, l11_2, l12_2, l13_2, l14_2, l15_2, l16_2, l17_2), (l0, l1_2, l2_2, l3_2, l4_2, l5_2, l6_2, l7_2, l8_2), one)).bind fun r5 => (l1 (0, 1, r4.fst.fst, r4.fst.snd, r5.fst.fst, r5.fst.snd) PUnit.unit).bind fun r6 => bif decide (r6.fst.fst = 0) then
 (l2 ((l0, l1_2, l2_2, l3_2, l4_2, l5_2, l6_2, l7_2, l8_2, l9_2, l10_2, l11_2, l12_2, l13_2, l14_2, l15_2, l16_2, l17_2, l18_2, l19_2, l20_2, l21_2, l22_2, l23_2, l24_2, l25_2, l26_2), one, 0, 1, r4.fst.snd) PUnit.unit).bind fun r7 => bif decide (r7.fst.fst = 0) then
 (x7 ((l0, l1_2, l2_2, l3_2, l4_2, l5_2, l6_2, l7_2, l8_2), (l18_2, l19_2, l20_2, l21_2, l22_2, l23_2, l24_2, l25_2, l26_2), one)).bind fun r8 => (x7 ((l18_2, l19_2, l20_2, l21_2, l22_2, l23_2, l24_2, l25_2, l26_2), (l0, l1_2, l2_2, l3_2, l4_2, l5_2, l6_2, l7_2, l8_2), one)).bind fun r9 => (l1 (0, 2, r8.fst.fst, r8.fst.snd, r9.fst.fst, r9.fst.snd) PUnit.unit).bind fun r10 => bif decide (r10.fst.fst = 0) then
 (l2 ((l0, l1_2, l2_2, l3_2, l4_2, l5_2, l6_2, l7_2, l8_2, l9_2, l10_2, l11_2, l12_2, l13_2, l14_2, l15_2, l16_2, l17_2, l18_2, l19_2, l20_2, l21_2, l22_2, l23_2, l24_2, l25_2, l26_2), one, 0, 2, r8.fst.snd) PUnit.unit).bind fun r11 => bif decide (r11.fst.fst = 0) then
 (x7 ((l9_2, l10_2, l11_2, l12_2, l13_2, l14_2, l15_2, l16_2, l17_2), (l0, l1_2, l2_2, l3_2, l4_2, l5_2, l6_2, l7_2, l8_2), one)).bind fun r12 => (x7 ((l0, l1_2, l2_2, l3_2, l4_2, l5_2, l6_2, l7_2, l8_2), (l9_2, l10_2, l11_2, l12_2, l13_2, l14_2, l15_2, l16_2, l17_2), one)).bind fun r13 => (l1 (1, 0, r12.fst.fst, r12.fst.snd, r13.fst.fst, r13.fst.snd) PUnit.unit).bind fun r14 => bif decide (r14.fst.fst = 0) then
 (l2 ((l0, l1_2, l2_2, l3_2, l4_2, l5_2, l6_2, l7_2, l8_2, l9_2, l10_2, l11_2, l12_2, l13_2, l14_2, l15_2, l16_2, l17_2, l18_2, l19_2, l20_2, l21_2, l22_2, l23_2, l24_2, l25_2, l26_2), one, 1, 0, r12.fst.snd) PUnit.unit).bind fun r15 => bif decide (r15.fst.fst = 0) then
 (x7 ((l9_2, l10_2, l11_2, l12_2, l13_2, l14_2, l15_2, l16_2, l17_2), (l9_2, l10_2, l11_2, l12_2, l13_2, l14_2, l15_2, l16_2, l17_2), one)).bind fun r16 => (x7 ((l9_2, l10_2, l11_2, l12_2, l13_2, l14_2, l15_2, l16_2, l17_2), (l9_2, l10_2, l11_2, l12_2, l13_2, l14_2, l15_2, l16_2, l17_2), one)).bind fun r17 => (l1 (1, 1, r16.fst.fst, r16.fst.snd, r17.fst.fst, r17.fst.snd) PUnit.unit).bind fun r18 => bif decide (r18.fst.fst = 0) then
 (l2 ((l0, l1_2, l2_2, l3_2, l4_2, l5_2, l6_2, l7_2, l8_2, l9_2, l10_2, l11_2, l12_2, l13_2, l14_2, l15_2, l16_2, l17_2, l18_2, l19_2, l20_2, l21_2, l22_2, l23_2, l24_2, l25_2, l26_2), one, 1, 1, r16.fst.snd) PUnit.unit).bind fun r19 => bif decide (r19.fst.fst = 0) then
 (x7 ((l9_2, l10_2, l11_2, l12_2, l13_2, l14_2, l15_2, l16_2, l17_2), (l18_2, l19_2, l20_2, l21_2, l22_2, l23_2, l24_2, l25_2, l26_2), one)).bind fun r20 => (x7 ((l18_2, l19_2, l20_2, l21_2, l22_2, l23_2, l24_2, l25_2, l26_2), (l9_2, l10_2, l11_2, l12_2, l13_2, l14_2, l15_2, l16_2, l17_2), one)).bind fun r21 => (l1 (1, 2, r20.fst.fst, r20.fst.snd, r21.fst.fst, r21.fst.snd) PUnit.unit).bind fun r22 => bif decide (r22.fst.fst = 0) then
 (l2 ((l0, l1_2, l2_2, l3_2, l4_2, l5_2, l6_2, l7_2, l8_2, l9_2, l10_2, l11_2, l12_2, l13_2, l14_2, l15_2, l16_2, l17_2, l18_2, l19_2, l20_2, l21_2, l22_2, l23_2, l24_2, l25_2, l26_2), one, 1, 2, r20.fst.snd) PUnit.unit).bind fun r23 => bif decide (r23.fst.fst = 0) then
 (x7 ((l18_2, l19_2, l20_2, l21_2, l22_2, l23_2, l24_2, l25_2, l26_2), (l0, l1_2, l2_2, l3_2, l4_2, l5_2, l6_2, l7_2, l8_2), one)).bind fun r24 => (x7 ((l0, l1_2, l2_2, l3_2, l4_2, l5_2, l6_2, l7_2, l8_2), (l18_2, l19_2, l20_2, l21_2, l22_2, l23_2, l24_2, l25_2, l26_2), one)).bind fun r25 => (l1 (2, 0, r24.fst.fst, r24.fst.snd, r25.fst.fst, r25.fst.snd) PUnit.unit).bind fun r26 => bif decide (r26.fst.fst = 0) then
 (l2 ((l0, l1_2, l2_2, l3_2, l4_2, l5_2, l6_2, l7_2, l8_2, l9_2, l10_2, l11_2, l12_2, l13_2, l14_2, l15_2, l16_2, l17_2, l18_2, l19_2, l20_2, l21_2, l22_2, l23_2, l24_2, l25_2, l26_2), one, 2, 0, r24.fst.snd) PUnit.unit).bind fun r27 => bif decide (r27.fst.fst = 0) then
 (x7 ((l18_2, l19_2, l20_2, l21_2, l22_2, l23_2, l24_2, l25_2, l26_2), (l9_2, l10_2, l11_2, l12_2, l13_2, l14_2, l15_2, l16_2, l17_2), one)).bind fun r28 => (x7 ((l9_2, l10_2, l11_2, l12_2, l13_2, l14_2, l15_2, l16_2, l17_2), (l18_2, l19_2, l20_2, l21_2, l22_2, l23_2, l24_2, l25_2, l26_2), one)).bind fun r29 => (l1 (2, 1, r28.fst.fst, r28.fst.snd, r29.fst.fst, r29.fst.snd) PUnit.unit).bind fun r30 => bif decide (r30.fst.fst = 0) then
 (l2 ((l0, l1_2, l2_2, l3_2, l4_2, l5_2, l6_2, l7_2, l8_2, l9_2, l10_2, l11_2, l12_2, l13_2, l14_2, l15_2, l16_2, l17_2, l18_2, l19_2, l20_2, l21_2, l22_2, l23_2, l24_2, l25_2, l26_2), one, 2, 1, r28.fst.snd) PUnit.unit).bind fun r31 => bif decide (r31.fst.fst = 0) then
 (x7 ((l18_2, l19_2, l20_2, l21_2, l22_2, l23_2, l24_2, l25_2, l26_2), (l18_2, l19_2, l20_2, l21_2, l22_2, l23_2, l24_2, l25_2, l26_2), one)).bind fun r32 => (x7 ((l18_2, l19_2, l20_2, l21_2, l22_2, l23_2, l24_2, l25_2, l26_2), (l18_2, l19_2, l20_2, l21_2, l22_2, l23_2, l24_2, l25_2, l26_2), one)).bind fun r33 => (l1 (2, 2, r32.fst.fst, r32.fst.snd, r33.fst.fst, r33.fst.snd) PUnit.unit).bind fun r34 => bif decide (r34.fst.fst = 0) then
 (l2 ((l0, l1_2, l2_2, l3_2, l4_2, l5_2, l6_2, l7_2, l8_2, l9_2, l10_2, l11_2, l12_2, l13_2, l14_2, l15_2, l16_2, l17_2, l18_2, l19_2, l20_2, l21_2, l22_2, l23_2, l24_2, l25_2, l26_2), one, 2, 2, r32.fst.snd) PUnit.unit).bind fun r35 => bif decide (r35.fst.fst = 0) then
 (x7 ((l0, l1_2, l2_2, l3_2, l4_2, l5_2, l6_2, l7_2, l8_2), (l9_2, l10_2, l11_2, l12_2, l13_2, l14_2, l15_2, l16_2, l17_2), one)).bind fun r36 => bif decide (r36.fst.fst ≤ 0) then
 (x7 ((l9_2, l10_2, l11_2, l12_2, l13_2, l14_2, l15_2, l16_2, l17_2), (l18_2, l19_2, l20_2, l21_2, l22_2, l23_2, l24_2, l25_2, l26_2), one)).bind fun r37 => bif decide (r37.fst.fst ≤ 0) then
 (x7 ((l0, l1_2, l2_2, l3_2, l4_2, l5_2, l6_2, l7_2, l8_2), (l18_2, l19_2, l20_2, l21_2, l22_2, l23_2, l24_2, l25_2, l26_2), one)).bind fun r38 => bif decide (r38.fst.fst > 0) then
 some (false, PUnit.unit) else (x7 ((l0, l1_2, l2_2, l3_2, l4_2, l5_2, l6_2, l7_2, l8_2), (l9_2, l10_2, l11_2, l12_2, l13_2, l14_2, l15_2, l16_2, l17_2), one)).bind fun r39 => bif r39.fst.fst == 0 then
 (x7 ((l9_2, l10_2, l11_2, l12_2, l13_2, l14_2, l15_2, l16_2, l17_2), (l18_2, l19_2, l20_2, l21_2, l22_2, l23_2, l24_2, l25_2, l26_2), one)).bind fun r40 => bif r40.fst.fst == 0 then
 (x7 ((l0, l1_2, l2_2, l3_2, l4_2, l5_2, l6_2, l7_2, l8_2), (l18_2, l19_2, l20_2, l21_2, l22_2, l23_2, l24_2, l25_2, l26_2), one)).bind fun r41 => bif r41.fst.fst != 0 then
 some (false, PUnit.unit) else some (true, PUnit.unit) else some (true, PUnit.unit) else some (true, PUnit.unit) else (x7 ((l0, l1_2, l2_2, l3_2, l4_2, l5_2, l6_2, l7_2, l8_2), (l9_2, l10_2, l11_2, l12_2, l13_2, l14_2, l15_2, l16_2, l17_2), one)).bind fun r38 => bif r38.fst.fst == 0 then
 (x7 ((l9_2, l10_2, l11_2, l12_2, l13_2, l14_2, l15_2, l16_2, l17_2), (l18_2, l19_2, l20_2, l21_2, l22_2, l23_2, l24_2, l25_2, l26_2), one)).bind fun r39 => bif r39.fst.fst == 0 then
 (x7 ((l0, l1_2, l2_2, l3_2, l4_2, l5_2, l6_2, l7_2, l8_2), (l18_2, l19_2, l20_2, l21_2, l22_2, l23_2, l24_2, l25_2, l26_2), one)).bind fun r40 => bif r40.fst.fst != 0 then
 some (false, PUnit.unit) else some (true, PUnit.unit) else some (true, PUnit.unit) else some (true, PUnit.unit) else (x7 ((l0, l1_2, l2_2, l3_2, l4_2, l5_2, l6_2, l7_2, l8_2), (l9_2, l10_2, l11_2, l12_2, l13_2, l14_2, l15_2, l16_2, l17_2), one)).bind fun r37 => bif r37.fst.fst == 0 then
 (x7 ((l9_2, l10_2, l11_2, l12_2, l13_2, l14_2, l15_2, l16_2, l17_2), (l18_2, l19_2, l20_2, l21_2, l22_2, l23_2, l24_2, l25_2, l26_2), one)).bind fun r38 => bif r38.fst.fst == 0 then
 (x7 ((l0, l1_2, l2_2, l3_2, l4_2, l5_2, l6_2, l7_2, l8_2), (l18_2, l19_2, l20_2, l21_2, l22_2, l23_2, l24_2, l25_2, l26_2), one)).bind fun r39 => bif r39.fst.fst != 0 then
 some (false, PUnit.unit) else some (true, PUnit.unit) else some (true, PUnit.unit) else some (true, PUnit.unit) else bif decide (r35.fst.fst = 1) then
 some (r35.fst.snd, PUnit.unit) else none else bif decide (r34.fst.fst = 1) then
 some (r34.fst.snd, PUnit.unit) else none else bif decide (r31.fst.fst = 1) then
 some (r31.fst.snd, PUnit.unit) else none else bif decide (r30.fst.fst = 1) then
 some (r30.fst.snd, PUnit.unit) else none else bif decide (r27.fst.fst = 1) then
 some (r27.fst.snd, PUnit.unit) else none else bif decide (r26.fst.fst = 1) then
 some (r26.fst.snd, PUnit.unit) else none else bif decide (r23.fst.fst = 1) then
 some (r23.fst.snd, PUnit.unit) else none else bif decide (r22.fst.fst = 1) then
 some (r22.fst.snd, PUnit.unit) else none else bif decide (r19.fst.fst = 1) then
 some (r19.fst.snd, PUnit.unit) else none else bif decide (r18.fst.fst = 1) then
 some (r18.fst.snd, PUnit.unit) else none else bif decide (r15.fst.fst = 1) then
 some (r15.fst.snd, PUnit.unit) else none else bif decide (r14.fst.fst = 1) then
 some (r14.fst.snd, PUnit.unit) else none else bif decide (r11.fst.fst = 1) then
 some (r11.fst.snd, PUnit.unit) else none else bif decide (r10.fst.fst = 1) then
 some (r10.fst.snd, PUnit.unit) else none else bif decide (r7.fst.fst = 1) then
 some (r7.fst.snd, PUnit.unit) else none else bif decide (r6.fst.fst = 1) then
 some (r6.fst.snd, PUnit.unit) else none else bif decide (r3.fst.fst = 1) then
 some (r3.fst.snd, PUnit.unit) else none else bif decide (r2.fst.fst = 1) then
 some (r2.fst.snd, PUnit.unit) else none
theorem fe (x7 : F7.FT) (l1 : G1) (l2 : G2) (d : (Int × Int × Int × Int × Int × Int × Int × Int × Int × Int × Int × Int × Int × Int × Int × Int × Int × Int × Int × Int × Int × Int × Int × Int × Int × Int × Int) × Bool × Int) : bodyF (tabC Tryd.prog (tab x7) ((3, (.node .none (.node .none (.node .none (.node (.node .none (.node (.node (.node .none (.node .none (.node (.node (.node .none (.node .none (.node (.node (.node .none (.node .none (.node (.node (.node .none (.node .none (.node .none (.node (.unit (u1 l1)) (.unit (u2 l2)))))) .none) .none))) .none) .none))) .none) .none))) .none) .none)) .none))))) :: pls x7) 100 10) 100 3 i o d = fP x7 l1 l2 d := by kernel_rfl
noncomputable def f : FT := fP F7.f l1 l2
def plan (l1 : G1) (l2 : G2) : Plan := (.node .none (.node .none (.node .none (.node (.node .none (.node (.node (.node .none (.node .none (.node (.node (.node .none (.node .none (.node (.node (.node .none (.node .none (.node (.node (.node .none (.node .none (.node .none (.node (.unit (u1 l1)) (.unit (u2 l2)))))) .none) .none))) .none) .none))) .none) .none))) .none) .none)) .none))))
theorem planOk : PlanOk Tryd.prog (plan l1 l2) (bodyOf Tryd.prog 3) := (planOk_of (plan l1 l2) _ [([1, 1, 1, 0, 1, 0, 0, 1, 1, 0, 0, 1, 1, 0, 0, 1, 1, 0, 0, 1, 1, 1, 0], u1 l1), ([1, 1, 1, 0, 1, 0, 0, 1, 1, 0, 0, 1, 1, 0, 0, 1, 1, 0, 0, 1, 1, 1, 1], u2 l2)] rfl ⟨ok1, ok2, trivial⟩)
theorem meets : MeetsF Tryd.prog 3 ⟨i, o, f⟩ :=
  funcT (fuel := 100) (depth := 10) (pl := (3, plan l1 l2) :: pls F7.f) mixed tabS ⟨planOk, plsP⟩ (fun d => fe F7.f l1 l2 d)
theorem spec : SpecOk Tryd.prog (fun _ => none) 3 (specF ⟨i, o, f⟩) := specF_ok (by kernel_rfl) meets
end Go.Proofs.YtaniibilgdhdiaaDoor.F3
