/- What comes of function 4 of this program, consulate.consulatelaw01.ScrollLays, as the engine gives it. -/
import Derived.Test.YtkleakkhbfdipaaChecked
import Derived.Test.YtkleakkhbfdipaaZN
import Derived.Test.YtkleakkhbfdipaaX1
namespace Go.Proofs.Ytkleakkhbfdipaa.F4
open Go Go.Proofs Go.Proofs.Ytkleakkhbfdipaa Go.RowKit Go.Proofs.Ytkleakkhbfdipaa.Sx
set_option linter.unusedVariables false
set_option maxRecDepth 100000
def tab (x22 : F22.FT) (x34 : F34.FT) (x24 : F24.FT) (x55 : F55.FT) (x28 : F28.FT) (x30 : F30.FT) (x31 : F31.FT) (x33 : F33.FT) (l25_1 : F25.G1) (l26_1 : F26.G1) (l29_1 : F29.G1) : List (FuncId × Sx.Spec) := [(22, specF ⟨F22.i, F22.o, x22⟩), (34, specF ⟨F34.i, F34.o, x34⟩), (24, specF ⟨F24.i, F24.o, x24⟩), (55, specF ⟨F55.i, F55.o, x55⟩), (28, specF ⟨F28.i, F28.o, x28⟩), (30, specF ⟨F30.i, F30.o, x30⟩), (31, specF ⟨F31.i, F31.o, x31⟩), (33, specF ⟨F33.i, F33.o, x33⟩), (21, pureS saysS)]
def pls (x22 : F22.FT) (x34 : F34.FT) (x24 : F24.FT) (x55 : F55.FT) (x28 : F28.FT) (x30 : F30.FT) (x31 : F31.FT) (x33 : F33.FT) (l25_1 : F25.G1) (l26_1 : F26.G1) (l29_1 : F29.G1) : List (FuncId × Plan) := [(25, F25.plan l25_1), (26, F26.plan l26_1), (29, F29.plan l29_1)]
@[reducible] def k1 : Sh := .pt true 28 (.sc (.int .i64) (.sc (.int .i64) .nil)) .nil
@[reducible] def i1 : Sh := .pt true 72 (.sl true 5 (.sc (.int .u8) .nil) (.sl true 83 (.sc (.int .i64) (.sc (.int .i64) .nil)) (.sc (.int .i64) (.sc .bool .nil)))) (.pt true 45 (.sl true 5 (.sc (.int .u8) .nil) (.sl true 84 (.sc (.int .i64) (.sc (.int .i64) .nil)) (.sc (.int .i64) .nil))) .nil)
@[reducible] def o1 : Sh := .nil
abbrev G1 := ((Int × Int)) → ((List (Int) × (List (Int × Int)) × Int × Bool) × (List (Int) × (List (Int × Int)) × Int)) → Option (Unit × ((List (Int) × (List (Int × Int)) × Int × Bool) × (List (Int) × (List (Int × Int)) × Int)))
def u1 (F : G1) : Un := ⟨157, [6], k1, [3, 4], i1, [], o1, [3, 4, 15, 16, 17], [(.normal, [])], F⟩
@[reducible] def k2 : Sh := .pt true 28 (.sc (.int .i64) (.sc (.int .i64) .nil)) .nil
@[reducible] def i2 : Sh := .pt true 72 (.sl true 5 (.sc (.int .u8) .nil) (.sl true 83 (.sc (.int .i64) (.sc (.int .i64) .nil)) (.sc (.int .i64) (.sc .bool .nil)))) (.pt true 45 (.sl true 5 (.sc (.int .u8) .nil) (.sl true 84 (.sc (.int .i64) (.sc (.int .i64) .nil)) (.sc (.int .i64) .nil))) .nil)
@[reducible] def o2 : Sh := .nil
abbrev G2 := ((Int × Int)) → ((List (Int) × (List (Int × Int)) × Int × Bool) × (List (Int) × (List (Int × Int)) × Int)) → Option (Unit × ((List (Int) × (List (Int × Int)) × Int × Bool) × (List (Int) × (List (Int × Int)) × Int)))
def u2 (F : G2) : Un := ⟨157, [6], k2, [3, 4], i2, [], o2, [3, 4, 15, 16, 17], [(.normal, [])], F⟩
@[reducible] def k3 : Sh := .pt true 28 (.sc (.int .i64) (.sc (.int .i64) .nil)) .nil
@[reducible] def i3 : Sh := .pt true 72 (.sl true 5 (.sc (.int .u8) .nil) (.sl true 83 (.sc (.int .i64) (.sc (.int .i64) .nil)) (.sc (.int .i64) (.sc .bool .nil)))) (.pt true 45 (.sl true 5 (.sc (.int .u8) .nil) (.sl true 84 (.sc (.int .i64) (.sc (.int .i64) .nil)) (.sc (.int .i64) .nil))) .nil)
@[reducible] def o3 : Sh := .nil
abbrev G3 := ((Int × Int)) → ((List (Int) × (List (Int × Int)) × Int × Bool) × (List (Int) × (List (Int × Int)) × Int)) → Option (Unit × ((List (Int) × (List (Int × Int)) × Int × Bool) × (List (Int) × (List (Int × Int)) × Int)))
def u3 (F : G3) : Un := ⟨157, [6], k3, [3, 4], i3, [], o3, [3, 4, 15, 16, 17], [(.normal, [])], F⟩
@[reducible] def k4 : Sh := .sc (.int .i64) .nil
@[reducible] def i4 : Sh := .pt true 45 (.sl true 5 (.sc (.int .u8) .nil) (.sl true 84 (.sc (.int .i64) (.sc (.int .i64) .nil)) (.sc (.int .i64) .nil))) (.sc (.int .i64) .nil)
@[reducible] def o4 : Sh := .nil
abbrev G4 := Int → ((List (Int) × (List (Int × Int)) × Int) × Int) → Option (Unit × ((List (Int) × (List (Int × Int)) × Int)))
def u4 (F : G4) : Un := ⟨157, [81], k4, [4, 82], i4, [], o4, [3, 4, 15, 16, 17, 81], [(.exit 3, [])], F⟩
@[reducible] def k5 : Sh := .pt true 28 (.sc (.int .i64) (.sc (.int .i64) .nil)) .nil
@[reducible] def i5 : Sh := .pt true 72 (.sl true 5 (.sc (.int .u8) .nil) (.sl true 83 (.sc (.int .i64) (.sc (.int .i64) .nil)) (.sc (.int .i64) (.sc .bool .nil)))) (.pt true 45 (.sl true 5 (.sc (.int .u8) .nil) (.sl true 84 (.sc (.int .i64) (.sc (.int .i64) .nil)) (.sc (.int .i64) .nil))) .nil)
@[reducible] def o5 : Sh := .nil
abbrev G5 := ((Int × Int)) → ((List (Int) × (List (Int × Int)) × Int × Bool) × (List (Int) × (List (Int × Int)) × Int)) → Option (Unit × ((List (Int) × (List (Int × Int)) × Int × Bool) × (List (Int) × (List (Int × Int)) × Int)))
def u5 (F : G5) : Un := ⟨157, [6], k5, [3, 4], i5, [], o5, [3, 4, 15, 16, 17], [(.normal, [])], F⟩
@[reducible] def k6 : Sh := .pt true 28 (.sc (.int .i64) (.sc (.int .i64) .nil)) .nil
@[reducible] def i6 : Sh := .pt true 72 (.sl true 5 (.sc (.int .u8) .nil) (.sl true 83 (.sc (.int .i64) (.sc (.int .i64) .nil)) (.sc (.int .i64) (.sc .bool .nil)))) (.pt true 45 (.sl true 5 (.sc (.int .u8) .nil) (.sl true 84 (.sc (.int .i64) (.sc (.int .i64) .nil)) (.sc (.int .i64) .nil))) .nil)
@[reducible] def o6 : Sh := .nil
abbrev G6 := ((Int × Int)) → ((List (Int) × (List (Int × Int)) × Int × Bool) × (List (Int) × (List (Int × Int)) × Int)) → Option (Unit × ((List (Int) × (List (Int × Int)) × Int × Bool) × (List (Int) × (List (Int × Int)) × Int)))
def u6 (F : G6) : Un := ⟨157, [6], k6, [3, 4], i6, [], o6, [3, 4, 15, 16, 17], [(.normal, [])], F⟩
@[reducible] def k7 : Sh := .nil
@[reducible] def i7 : Sh := .pt true 72 (.sl true 5 (.sc (.int .u8) .nil) (.sl true 83 (.sc (.int .i64) (.sc (.int .i64) .nil)) (.sc (.int .i64) (.sc .bool .nil)))) (.pt true 45 (.sl true 5 (.sc (.int .u8) .nil) (.sl true 84 (.sc (.int .i64) (.sc (.int .i64) .nil)) (.sc (.int .i64) .nil))) .nil)
@[reducible] def o7 : Sh := .nil
abbrev G7 := Unit → ((List (Int) × (List (Int × Int)) × Int × Bool) × (List (Int) × (List (Int × Int)) × Int)) → Option (Unit × ((List (Int) × (List (Int × Int)) × Int × Bool) × (List (Int) × (List (Int × Int)) × Int)))
def u7 (F : G7) : Un := ⟨157, [], k7, [3, 4], i7, [], o7, [3, 4, 15, 16, 17], [(.normal, [])], F⟩
@[reducible] def k8 : Sh := .pt true 28 (.sc (.int .i64) (.sc (.int .i64) .nil)) .nil
@[reducible] def i8 : Sh := .pt true 72 (.sl true 5 (.sc (.int .u8) .nil) (.sl true 83 (.sc (.int .i64) (.sc (.int .i64) .nil)) (.sc (.int .i64) (.sc .bool .nil)))) (.pt true 45 (.sl true 5 (.sc (.int .u8) .nil) (.sl true 84 (.sc (.int .i64) (.sc (.int .i64) .nil)) (.sc (.int .i64) .nil))) .nil)
@[reducible] def o8 : Sh := .nil
abbrev G8 := ((Int × Int)) → ((List (Int) × (List (Int × Int)) × Int × Bool) × (List (Int) × (List (Int × Int)) × Int)) → Option (Unit × ((List (Int) × (List (Int × Int)) × Int × Bool) × (List (Int) × (List (Int × Int)) × Int)))
def u8 (F : G8) : Un := ⟨157, [6], k8, [3, 4], i8, [], o8, [3, 4, 15, 16, 17], [(.normal, [])], F⟩
@[reducible] def k9 : Sh := .pt true 28 (.sc (.int .i64) (.sc (.int .i64) .nil)) (.sc (.int .i64) .nil)
@[reducible] def i9 : Sh := .pt true 72 (.sl true 5 (.sc (.int .u8) .nil) (.sl true 83 (.sc (.int .i64) (.sc (.int .i64) .nil)) (.sc (.int .i64) (.sc .bool .nil)))) (.pt true 45 (.sl true 5 (.sc (.int .u8) .nil) (.sl true 84 (.sc (.int .i64) (.sc (.int .i64) .nil)) (.sc (.int .i64) .nil))) .nil)
@[reducible] def o9 : Sh := .nil
abbrev G9 := ((Int × Int) × Int) → ((List (Int) × (List (Int × Int)) × Int × Bool) × (List (Int) × (List (Int × Int)) × Int)) → Option (Unit × ((List (Int) × (List (Int × Int)) × Int × Bool) × (List (Int) × (List (Int × Int)) × Int)))
def u9 (F : G9) : Un := ⟨157, [6, 25], k9, [3, 4], i9, [], o9, [3, 4, 15, 16, 17], [(.normal, [])], F⟩
@[reducible] def k10 : Sh := .nil
@[reducible] def i10 : Sh := .pt true 72 (.sl true 5 (.sc (.int .u8) .nil) (.sl true 83 (.sc (.int .i64) (.sc (.int .i64) .nil)) (.sc (.int .i64) (.sc .bool .nil)))) (.pt true 45 (.sl true 5 (.sc (.int .u8) .nil) (.sl true 84 (.sc (.int .i64) (.sc (.int .i64) .nil)) (.sc (.int .i64) .nil))) .nil)
@[reducible] def o10 : Sh := .sc (.int .i64) (.sc .bool .nil)
abbrev G10 := Unit → ((List (Int) × (List (Int × Int)) × Int × Bool) × (List (Int) × (List (Int × Int)) × Int)) → Option ((Int × Bool) × ((List (Int) × (List (Int × Int)) × Int × Bool) × (List (Int) × (List (Int × Int)) × Int)))
def u10 (F : G10) : Un := ⟨157, [], k10, [3, 4], i10, [2], o10, [3, 4, 15, 16, 17], [(.normal, [false]), (.ret, [true])], F⟩
@[reducible] def k11 : Sh := .sl false 28 (.sc (.int .i64) (.sc (.int .i64) .nil)) (.sc (.int .i64) .nil)
@[reducible] def i11 : Sh := .pt true 72 (.sl true 5 (.sc (.int .u8) .nil) (.sl true 83 (.sc (.int .i64) (.sc (.int .i64) .nil)) (.sc (.int .i64) (.sc .bool .nil)))) (.pt true 45 (.sl true 5 (.sc (.int .u8) .nil) (.sl true 84 (.sc (.int .i64) (.sc (.int .i64) .nil)) (.sc (.int .i64) .nil))) (.sc (.int .i64) .nil))
@[reducible] def o11 : Sh := .sc (.int .i64) (.sc .bool .nil)
abbrev G11 := ((List (Int × Int)) × Int) → ((List (Int) × (List (Int × Int)) × Int × Bool) × (List (Int) × (List (Int × Int)) × Int) × Int) → Option ((Int × Bool) × ((List (Int) × (List (Int × Int)) × Int × Bool) × (List (Int) × (List (Int × Int)) × Int)))
def u11 (F : G11) : Un := ⟨157, [15, 16], k11, [3, 4, 17], i11, [2], o11, [3, 4, 15, 16], [(.exit 0, [false]), (.ret, [true])], F⟩
@[reducible] def i : Sh := .sl false 28 (.sc (.int .i64) (.sc (.int .i64) .nil)) .nil
@[reducible] def o : Sh := .sc .bool .nil
abbrev FT := ((List (Int × Int))) → Option (Bool × Unit)
theorem tabS : AllS Try.prog (tab F22.f F34.f F24.f F55.f F28.f F30.f F31.f F33.f F25.l1 F26.l1 F29.l1) := ⟨F22.spec, F34.spec, F24.spec, F55.spec, F28.spec, F30.spec, F31.spec, F33.spec, says_ok (by kernel_rfl) KA.tells, trivial⟩
theorem plsP : AllP Try.prog (pls F22.f F34.f F24.f F55.f F28.f F30.f F31.f F33.f F25.l1 F26.l1 F29.l1) := ⟨F25.planOk, F26.planOk, F29.planOk, trivial⟩
theorem mixed : Try.prog.follows .mixedOrders = true := by kernel_rfl
def r1P (x22 : F22.FT) (x34 : F34.FT) (x24 : F24.FT) (x55 : F55.FT) (x28 : F28.FT) (x30 : F30.FT) (x31 : F31.FT) (x33 : F33.FT) (l25_1 : F25.G1) (l26_1 : F26.G1) (l29_1 : F29.G1) : G1 := fun (a0, a1) ((w0, w1, w2, w3), (v0, v1, v2)) =>
    (x34 (w0, w1, w2, w3)).bind fun r0 =>
      bif r0.fst == (0 : Int) then
        bif decide (r0.snd.fst.length + (1 : Nat) / OfNat.ofNat (1 : Nat) ≤ (1073741824 : Nat)) then
          bif decide ((0 : Nat) + r0.snd.fst.length ≤ r0.snd.fst.length) then
            (x24 ((v0, v1, v2), IntKind.i64.wrap (IntKind.u8.wrap a1), (1 : Int))).bind fun r1 =>
              bif
                  decide
                      ((0 : Nat) + (r0.snd.fst.length + (1 : Nat) / OfNat.ofNat (1 : Nat)) ≤
                        (List.take r0.snd.fst.length (List.drop (0 : Nat) r0.snd.fst) ++ [IntKind.u8.wrap a1]).length) &&
                    true then
                bif decide ((0 : Nat) + r0.snd.snd.fst.length ≤ r0.snd.snd.fst.length) && true then
                  some
                    (PUnit.unit,
                      (List.take (r0.snd.fst.length + (1 : Nat) / OfNat.ofNat (1 : Nat))
                          (List.drop (0 : Nat)
                            (List.take r0.snd.fst.length (List.drop (0 : Nat) r0.snd.fst) ++ [IntKind.u8.wrap a1])),
                        List.take r0.snd.snd.fst.length (List.drop (0 : Nat) r0.snd.snd.fst), r0.snd.snd.snd.fst,
                        r0.snd.snd.snd.snd),
                      r1.snd)
                else none
              else none
          else none
        else none
      else
        (x24 ((v0, v1, v2), IntKind.i64.wrap (IntKind.u8.wrap a1), (1 : Int))).bind fun r1 =>
          some (PUnit.unit, r0.snd, r1.snd)
theorem r1e (x22 : F22.FT) (x34 : F34.FT) (x24 : F24.FT) (x55 : F55.FT) (x28 : F28.FT) (x30 : F30.FT) (x31 : F31.FT) (x33 : F33.FT) (l25_1 : F25.G1) (l26_1 : F26.G1) (l29_1 : F29.G1) (kd : (Int × Int)) (d : (List (Int) × (List (Int × Int)) × Int × Bool) × (List (Int) × (List (Int × Int)) × Int)) : unitF (tabC Try.prog (tab x22 x34 x24 x55 x28 x30 x31 x33 l25_1 l26_1 l29_1) (pls x22 x34 x24 x55 x28 x30 x31 x33 l25_1 l26_1 l29_1) 100 12) 100 .none (u1 fun _ _ => none) (codeAt [1, 1, 0, 1, 0, 0, 1, 1, 0, 0, 1, 1, 0, 1, 0, 1, 0] (bodyOf Try.prog 4)) kd d = r1P x22 x34 x24 x55 x28 x30 x31 x33 l25_1 l26_1 l29_1 kd d := by kernel_rfl
noncomputable def r1 : G1 := r1P F22.f F34.f F24.f F55.f F28.f F30.f F31.f F33.f F25.l1 F26.l1 F29.l1
noncomputable def l1 : G1 := r1
theorem ok1 : UnOk Try.prog (u1 l1) (codeAt [1, 1, 0, 1, 0, 0, 1, 1, 0, 0, 1, 1, 0, 1, 0, 1, 0] (bodyOf Try.prog 4)) :=
  blockT (p := .none) (fuel := 100) (depth := 12) mixed tabS plsP trivial (fun kd d => r1e F22.f F34.f F24.f F55.f F28.f F30.f F31.f F33.f F25.l1 F26.l1 F29.l1 kd d)
def r2P (x22 : F22.FT) (x34 : F34.FT) (x24 : F24.FT) (x55 : F55.FT) (x28 : F28.FT) (x30 : F30.FT) (x31 : F31.FT) (x33 : F33.FT) (l25_1 : F25.G1) (l26_1 : F26.G1) (l29_1 : F29.G1) : G2 := fun (a0, a1) ((w0, w1, w2, w3), (v0, v1, v2)) =>
    (l25_1 ([IntKind.u16.wrap a1], (1 : Int)) ((w0, w1, w2, w3), (0 : Int))).bind fun r0 =>
      (x24 ((v0, v1, v2), IntKind.i64.wrap (IntKind.u16.wrap a1), (2 : Int))).bind fun r1 =>
        some (PUnit.unit, r0.snd, r1.snd)
theorem r2e (x22 : F22.FT) (x34 : F34.FT) (x24 : F24.FT) (x55 : F55.FT) (x28 : F28.FT) (x30 : F30.FT) (x31 : F31.FT) (x33 : F33.FT) (l25_1 : F25.G1) (l26_1 : F26.G1) (l29_1 : F29.G1) (kd : (Int × Int)) (d : (List (Int) × (List (Int × Int)) × Int × Bool) × (List (Int) × (List (Int × Int)) × Int)) : unitF (tabC Try.prog (tab x22 x34 x24 x55 x28 x30 x31 x33 l25_1 l26_1 l29_1) (pls x22 x34 x24 x55 x28 x30 x31 x33 l25_1 l26_1 l29_1) 100 12) 100 .none (u2 fun _ _ => none) (codeAt [1, 1, 0, 1, 0, 0, 1, 1, 0, 0, 1, 1, 0, 1, 0, 1, 1, 1, 0] (bodyOf Try.prog 4)) kd d = r2P x22 x34 x24 x55 x28 x30 x31 x33 l25_1 l26_1 l29_1 kd d := by kernel_rfl
noncomputable def r2 : G2 := r2P F22.f F34.f F24.f F55.f F28.f F30.f F31.f F33.f F25.l1 F26.l1 F29.l1
noncomputable def l2 : G2 := r2
theorem ok2 : UnOk Try.prog (u2 l2) (codeAt [1, 1, 0, 1, 0, 0, 1, 1, 0, 0, 1, 1, 0, 1, 0, 1, 1, 1, 0] (bodyOf Try.prog 4)) :=
  blockT (p := .none) (fuel := 100) (depth := 12) mixed tabS plsP trivial (fun kd d => r2e F22.f F34.f F24.f F55.f F28.f F30.f F31.f F33.f F25.l1 F26.l1 F29.l1 kd d)
def r3P (x22 : F22.FT) (x34 : F34.FT) (x24 : F24.FT) (x55 : F55.FT) (x28 : F28.FT) (x30 : F30.FT) (x31 : F31.FT) (x33 : F33.FT) (l25_1 : F25.G1) (l26_1 : F26.G1) (l29_1 : F29.G1) : G3 := fun (a0, a1) ((w0, w1, w2, w3), (v0, v1, v2)) =>
    (l26_1 ([IntKind.u32.wrap a1], (1 : Int)) ((w0, w1, w2, w3), (0 : Int))).bind fun r0 =>
      (x24 ((v0, v1, v2), IntKind.i64.wrap (IntKind.u32.wrap a1), (4 : Int))).bind fun r1 =>
        some (PUnit.unit, r0.snd, r1.snd)
theorem r3e (x22 : F22.FT) (x34 : F34.FT) (x24 : F24.FT) (x55 : F55.FT) (x28 : F28.FT) (x30 : F30.FT) (x31 : F31.FT) (x33 : F33.FT) (l25_1 : F25.G1) (l26_1 : F26.G1) (l29_1 : F29.G1) (kd : (Int × Int)) (d : (List (Int) × (List (Int × Int)) × Int × Bool) × (List (Int) × (List (Int × Int)) × Int)) : unitF (tabC Try.prog (tab x22 x34 x24 x55 x28 x30 x31 x33 l25_1 l26_1 l29_1) (pls x22 x34 x24 x55 x28 x30 x31 x33 l25_1 l26_1 l29_1) 100 12) 100 .none (u3 fun _ _ => none) (codeAt [1, 1, 0, 1, 0, 0, 1, 1, 0, 0, 1, 1, 0, 1, 0, 1, 1, 1, 1, 1, 0] (bodyOf Try.prog 4)) kd d = r3P x22 x34 x24 x55 x28 x30 x31 x33 l25_1 l26_1 l29_1 kd d := by kernel_rfl
noncomputable def r3 : G3 := r3P F22.f F34.f F24.f F55.f F28.f F30.f F31.f F33.f F25.l1 F26.l1 F29.l1
noncomputable def l3 : G3 := r3
theorem ok3 : UnOk Try.prog (u3 l3) (codeAt [1, 1, 0, 1, 0, 0, 1, 1, 0, 0, 1, 1, 0, 1, 0, 1, 1, 1, 1, 1, 0] (bodyOf Try.prog 4)) :=
  blockT (p := .none) (fuel := 100) (depth := 12) mixed tabS plsP trivial (fun kd d => r3e F22.f F34.f F24.f F55.f F28.f F30.f F31.f F33.f F25.l1 F26.l1 F29.l1 kd d)
def r4P (x22 : F22.FT) (x34 : F34.FT) (x24 : F24.FT) (x55 : F55.FT) (x28 : F28.FT) (x30 : F30.FT) (x31 : F31.FT) (x33 : F33.FT) (l25_1 : F25.G1) (l26_1 : F26.G1) (l29_1 : F29.G1) : Int → ((List (Int) × (List (Int × Int)) × Int) × Int) → Option (((List (Int) × (List (Int × Int)) × Int) × Int) ⊕ (Unit × ((List (Int) × (List (Int × Int)) × Int)))) := fun t81 ((v0, v1, v2), t82) =>
    bif decide (t82 < t81) then
      (x24 ((v0, v1, v2), (0 : Int), (1 : Int))).bind fun r0 =>
        some (Sum.inl (r0.snd, IntKind.i64.wrap (t82 + (1 : Int))))
    else some (Sum.inr (PUnit.unit, v0, v1, v2))
theorem r4e (x22 : F22.FT) (x34 : F34.FT) (x24 : F24.FT) (x55 : F55.FT) (x28 : F28.FT) (x30 : F30.FT) (x31 : F31.FT) (x33 : F33.FT) (l25_1 : F25.G1) (l26_1 : F26.G1) (l29_1 : F29.G1) (kd : Int) (d : (List (Int) × (List (Int × Int)) × Int) × Int) : roundF (tabC Try.prog (tab x22 x34 x24 x55 x28 x30 x31 x33 l25_1 l26_1 l29_1) (pls x22 x34 x24 x55 x28 x30 x31 x33 l25_1 l26_1 l29_1) 100 12) 100 .none (u4 fun _ _ => none) (codeAt [1, 1, 0, 1, 0, 0, 1, 1, 0, 0, 1, 1, 0, 1, 0, 1, 1, 1, 1, 1, 1, 1, 0, 1, 1, 1, 0, 0] (bodyOf Try.prog 4)) kd d = r4P x22 x34 x24 x55 x28 x30 x31 x33 l25_1 l26_1 l29_1 kd d := by kernel_rfl
noncomputable def r4 : Int → ((List (Int) × (List (Int × Int)) × Int) × Int) → Option (((List (Int) × (List (Int × Int)) × Int) × Int) ⊕ (Unit × ((List (Int) × (List (Int × Int)) × Int)))) := r4P F22.f F34.f F24.f F55.f F28.f F30.f F31.f F33.f F25.l1 F26.l1 F29.l1
noncomputable def l4 : G4 := fun kd d => iterO (r4 kd) d
theorem ok4 : UnOk Try.prog (u4 l4) (codeAt [1, 1, 0, 1, 0, 0, 1, 1, 0, 0, 1, 1, 0, 1, 0, 1, 1, 1, 1, 1, 1, 1, 0, 1, 1, 1, 0] (bodyOf Try.prog 4)) :=
  loopT (p := .none) (c := codeAt [1, 1, 0, 1, 0, 0, 1, 1, 0, 0, 1, 1, 0, 1, 0, 1, 1, 1, 1, 1, 1, 1, 0, 1, 1, 1, 0, 0] (bodyOf Try.prog 4)) (fuel := 100) (depth := 12) mixed tabS plsP (by kernel_rfl) trivial (by kernel_rfl) (fun kd d => r4e F22.f F34.f F24.f F55.f F28.f F30.f F31.f F33.f F25.l1 F26.l1 F29.l1 kd d) rfl
def r5P (x22 : F22.FT) (x34 : F34.FT) (x24 : F24.FT) (x55 : F55.FT) (x28 : F28.FT) (x30 : F30.FT) (x31 : F31.FT) (x33 : F33.FT) (l25_1 : F25.G1) (l26_1 : F26.G1) (l29_1 : F29.G1) (l4 : G4) : G5 := fun (a0, a1) ((w0, w1, w2, w3), (v0, v1, v2)) =>
    bif
        decide
          ((0 : Int) ≤ IntKind.i64.wrap ((IntKind.u64.wrap a1).tmod (301 : Int)) ∧
            IntKind.i64.wrap ((IntKind.u64.wrap a1).tmod (301 : Int)) ≤
                IntKind.i64.wrap ((IntKind.u64.wrap a1).tmod (301 : Int)) ∧
              IntKind.i64.wrap ((IntKind.u64.wrap a1).tmod (301 : Int)) ≤ (1073741824 : Int) ∧
                (↑(OfNat.ofNat (1 : Nat)) : Int) * IntKind.i64.wrap ((IntKind.u64.wrap a1).tmod (301 : Int)) ≤
                  (281474976710656 : Int)) then
      (x34 (w0, w1, w2, w3)).bind fun r0 =>
        bif r0.fst == (0 : Int) then
          bif
              decide
                ((0 : Nat) + (IntKind.i64.wrap ((IntKind.u64.wrap a1).tmod (301 : Int))).toNat ≤
                  (List.replicate (IntKind.i64.wrap ((IntKind.u64.wrap a1).tmod (301 : Int))).toNat
                      (0 : Int)).length) then
            bif
                decide
                  (r0.snd.fst.length +
                      (List.take (IntKind.i64.wrap ((IntKind.u64.wrap a1).tmod (301 : Int))).toNat
                          (List.drop (0 : Nat)
                            (List.replicate (IntKind.i64.wrap ((IntKind.u64.wrap a1).tmod (301 : Int))).toNat
                              (0 : Int)))).length ≤
                    (1073741824 : Nat)) then
              bif decide ((0 : Nat) + r0.snd.fst.length ≤ r0.snd.fst.length) then
                (l4 (↑(IntKind.i64.wrap ((IntKind.u64.wrap a1).tmod (301 : Int))).toNat : Int)
                      ((v0, v1, v2), (0 : Int))).bind
                  fun r1 =>
                  bif
                      decide
                          ((0 : Nat) +
                              (r0.snd.fst.length +
                                (List.take (IntKind.i64.wrap ((IntKind.u64.wrap a1).tmod (301 : Int))).toNat
                                    (List.drop (0 : Nat)
                                      (List.replicate (IntKind.i64.wrap ((IntKind.u64.wrap a1).tmod (301 : Int))).toNat
                                        (0 : Int)))).length) ≤
                            (List.take r0.snd.fst.length (List.drop (0 : Nat) r0.snd.fst) ++
                                List.take (IntKind.i64.wrap ((IntKind.u64.wrap a1).tmod (301 : Int))).toNat
                                  (List.drop (0 : Nat)
                                    (List.replicate (IntKind.i64.wrap ((IntKind.u64.wrap a1).tmod (301 : Int))).toNat
                                      (0 : Int)))).length) &&
                        true then
                    bif decide ((0 : Nat) + r0.snd.snd.fst.length ≤ r0.snd.snd.fst.length) && true then
                      some
                        (PUnit.unit,
                          (List.take
                              (r0.snd.fst.length +
                                (List.take (IntKind.i64.wrap ((IntKind.u64.wrap a1).tmod (301 : Int))).toNat
                                    (List.drop (0 : Nat)
                                      (List.replicate (IntKind.i64.wrap ((IntKind.u64.wrap a1).tmod (301 : Int))).toNat
                                        (0 : Int)))).length)
                              (List.drop (0 : Nat)
                                (List.take r0.snd.fst.length (List.drop (0 : Nat) r0.snd.fst) ++
                                  List.take (IntKind.i64.wrap ((IntKind.u64.wrap a1).tmod (301 : Int))).toNat
                                    (List.drop (0 : Nat)
                                      (List.replicate (IntKind.i64.wrap ((IntKind.u64.wrap a1).tmod (301 : Int))).toNat
                                        (0 : Int))))),
                            List.take r0.snd.snd.fst.length (List.drop (0 : Nat) r0.snd.snd.fst), r0.snd.snd.snd.fst,
                            r0.snd.snd.snd.snd),
                          r1.snd)
                    else none
                  else none
              else none
            else none
          else none
        else
          (l4 (↑(IntKind.i64.wrap ((IntKind.u64.wrap a1).tmod (301 : Int))).toNat : Int) ((v0, v1, v2), (0 : Int))).bind
            fun r1 => some (PUnit.unit, r0.snd, r1.snd)
    else none
theorem r5e (x22 : F22.FT) (x34 : F34.FT) (x24 : F24.FT) (x55 : F55.FT) (x28 : F28.FT) (x30 : F30.FT) (x31 : F31.FT) (x33 : F33.FT) (l25_1 : F25.G1) (l26_1 : F26.G1) (l29_1 : F29.G1) (l4 : G4) (kd : (Int × Int)) (d : (List (Int) × (List (Int × Int)) × Int × Bool) × (List (Int) × (List (Int × Int)) × Int)) : unitF (tabC Try.prog (tab x22 x34 x24 x55 x28 x30 x31 x33 l25_1 l26_1 l29_1) (pls x22 x34 x24 x55 x28 x30 x31 x33 l25_1 l26_1 l29_1) 100 12) 100 (.node .none (.node .none (.node .none (.node (.unit (u4 l4)) .none)))) (u5 fun _ _ => none) (codeAt [1, 1, 0, 1, 0, 0, 1, 1, 0, 0, 1, 1, 0, 1, 0, 1, 1, 1, 1, 1, 1, 1, 0] (bodyOf Try.prog 4)) kd d = r5P x22 x34 x24 x55 x28 x30 x31 x33 l25_1 l26_1 l29_1 l4 kd d := by kernel_rfl
noncomputable def r5 : G5 := r5P F22.f F34.f F24.f F55.f F28.f F30.f F31.f F33.f F25.l1 F26.l1 F29.l1 l4
noncomputable def l5 : G5 := r5
theorem ok5 : UnOk Try.prog (u5 l5) (codeAt [1, 1, 0, 1, 0, 0, 1, 1, 0, 0, 1, 1, 0, 1, 0, 1, 1, 1, 1, 1, 1, 1, 0] (bodyOf Try.prog 4)) :=
  blockT (p := (.node .none (.node .none (.node .none (.node (.unit (u4 l4)) .none))))) (fuel := 100) (depth := 12) mixed tabS plsP (planOk_of (.node .none (.node .none (.node .none (.node (.unit (u4 l4)) .none)))) _ [([1, 1, 1, 0], u4 l4)] rfl ⟨ok4, trivial⟩) (fun kd d => r5e F22.f F34.f F24.f F55.f F28.f F30.f F31.f F33.f F25.l1 F26.l1 F29.l1 l4 kd d)
def r6P (x22 : F22.FT) (x34 : F34.FT) (x24 : F24.FT) (x55 : F55.FT) (x28 : F28.FT) (x30 : F30.FT) (x31 : F31.FT) (x33 : F33.FT) (l25_1 : F25.G1) (l26_1 : F26.G1) (l29_1 : F29.G1) : G6 := fun (a0, a1) ((w0, w1, w2, w3), (v0, v1, v2)) =>
    bif a1 != (1 : Int) then
      (x55 ((w0, w1, w2, w3), a1 != (2 : Int), (1 : Int))).bind fun r0 =>
        bif r0.fst then (x28 ((v0, v1, v2), a1)).bind fun r1 => some (PUnit.unit, r0.snd, r1.snd)
        else
          bif decide (r0.snd.snd.fst.length + (2 : Nat) / OfNat.ofNat (2 : Nat) ≤ (1073741824 : Nat)) then
            bif decide ((0 : Nat) + r0.snd.snd.fst.length ≤ r0.snd.snd.fst.length) then
              bif
                  decide
                    ((0 : Int) ≤ a1 ∧
                      a1 ≤ a1 ∧
                        a1 ≤ (1073741824 : Int) ∧ (↑(OfNat.ofNat (1 : Nat)) : Int) * a1 ≤ (281474976710656 : Int)) then
                bif decide ((0 : Nat) + r0.snd.fst.length ≤ r0.snd.fst.length) && true then
                  bif
                      decide
                          ((0 : Nat) + (r0.snd.snd.fst.length + (2 : Nat) / OfNat.ofNat (2 : Nat)) ≤
                            (List.take r0.snd.snd.fst.length (List.drop (0 : Nat) r0.snd.snd.fst) ++
                                [((↑r0.snd.fst.length : Int), a1)]).length) &&
                        true then
                    (x34
                          (List.take r0.snd.fst.length (List.drop (0 : Nat) r0.snd.fst),
                            List.take (r0.snd.snd.fst.length + (2 : Nat) / OfNat.ofNat (2 : Nat))
                              (List.drop (0 : Nat)
                                (List.take r0.snd.snd.fst.length (List.drop (0 : Nat) r0.snd.snd.fst) ++
                                  [((↑r0.snd.fst.length : Int), a1)])),
                            r0.snd.snd.snd.fst, r0.snd.snd.snd.snd)).bind
                      fun r1 =>
                      bif r1.fst == (0 : Int) then
                        bif decide ((0 : Nat) + a1.toNat ≤ (List.replicate a1.toNat (0 : Int)).length) then
                          bif
                              decide
                                (r1.snd.fst.length +
                                    (List.take a1.toNat
                                        (List.drop (0 : Nat) (List.replicate a1.toNat (0 : Int)))).length ≤
                                  (1073741824 : Nat)) then
                            bif decide ((0 : Nat) + r1.snd.fst.length ≤ r1.snd.fst.length) then
                              (x28 ((v0, v1, v2), a1)).bind fun r2 =>
                                bif
                                    decide
                                        ((0 : Nat) +
                                            (r1.snd.fst.length +
                                              (List.take a1.toNat
                                                  (List.drop (0 : Nat) (List.replicate a1.toNat (0 : Int)))).length) ≤
                                          (List.take r1.snd.fst.length (List.drop (0 : Nat) r1.snd.fst) ++
                                              List.take a1.toNat
                                                (List.drop (0 : Nat) (List.replicate a1.toNat (0 : Int)))).length) &&
                                      true then
                                  bif decide ((0 : Nat) + r1.snd.snd.fst.length ≤ r1.snd.snd.fst.length) && true then
                                    some
                                      (PUnit.unit,
                                        (List.take
                                            (r1.snd.fst.length +
                                              (List.take a1.toNat
                                                  (List.drop (0 : Nat) (List.replicate a1.toNat (0 : Int)))).length)
                                            (List.drop (0 : Nat)
                                              (List.take r1.snd.fst.length (List.drop (0 : Nat) r1.snd.fst) ++
                                                List.take a1.toNat
                                                  (List.drop (0 : Nat) (List.replicate a1.toNat (0 : Int))))),
                                          List.take r1.snd.snd.fst.length (List.drop (0 : Nat) r1.snd.snd.fst),
                                          r1.snd.snd.snd.fst, r1.snd.snd.snd.snd),
                                        r2.snd)
                                  else none
                                else none
                            else none
                          else none
                        else none
                      else (x28 ((v0, v1, v2), a1)).bind fun r2 => some (PUnit.unit, r1.snd, r2.snd)
                  else none
                else none
              else none
            else none
          else none
    else
      (x55 ((w0, w1, w2, w3), false, (1 : Int))).bind fun r0 =>
        bif r0.fst then (x28 ((v0, v1, v2), a1)).bind fun r1 => some (PUnit.unit, r0.snd, r1.snd)
        else
          bif decide (r0.snd.snd.fst.length + (2 : Nat) / OfNat.ofNat (2 : Nat) ≤ (1073741824 : Nat)) then
            bif decide ((0 : Nat) + r0.snd.snd.fst.length ≤ r0.snd.snd.fst.length) then
              bif
                  decide
                    ((0 : Int) ≤ a1 ∧
                      a1 ≤ a1 ∧
                        a1 ≤ (1073741824 : Int) ∧ (↑(OfNat.ofNat (1 : Nat)) : Int) * a1 ≤ (281474976710656 : Int)) then
                bif decide ((0 : Nat) + r0.snd.fst.length ≤ r0.snd.fst.length) && true then
                  bif
                      decide
                          ((0 : Nat) + (r0.snd.snd.fst.length + (2 : Nat) / OfNat.ofNat (2 : Nat)) ≤
                            (List.take r0.snd.snd.fst.length (List.drop (0 : Nat) r0.snd.snd.fst) ++
                                [((↑r0.snd.fst.length : Int), a1)]).length) &&
                        true then
                    (x34
                          (List.take r0.snd.fst.length (List.drop (0 : Nat) r0.snd.fst),
                            List.take (r0.snd.snd.fst.length + (2 : Nat) / OfNat.ofNat (2 : Nat))
                              (List.drop (0 : Nat)
                                (List.take r0.snd.snd.fst.length (List.drop (0 : Nat) r0.snd.snd.fst) ++
                                  [((↑r0.snd.fst.length : Int), a1)])),
                            r0.snd.snd.snd.fst, r0.snd.snd.snd.snd)).bind
                      fun r1 =>
                      bif r1.fst == (0 : Int) then
                        bif decide ((0 : Nat) + a1.toNat ≤ (List.replicate a1.toNat (0 : Int)).length) then
                          bif
                              decide
                                (r1.snd.fst.length +
                                    (List.take a1.toNat
                                        (List.drop (0 : Nat) (List.replicate a1.toNat (0 : Int)))).length ≤
                                  (1073741824 : Nat)) then
                            bif decide ((0 : Nat) + r1.snd.fst.length ≤ r1.snd.fst.length) then
                              (x28 ((v0, v1, v2), a1)).bind fun r2 =>
                                bif
                                    decide
                                        ((0 : Nat) +
                                            (r1.snd.fst.length +
                                              (List.take a1.toNat
                                                  (List.drop (0 : Nat) (List.replicate a1.toNat (0 : Int)))).length) ≤
                                          (List.take r1.snd.fst.length (List.drop (0 : Nat) r1.snd.fst) ++
                                              List.take a1.toNat
                                                (List.drop (0 : Nat) (List.replicate a1.toNat (0 : Int)))).length) &&
                                      true then
                                  bif decide ((0 : Nat) + r1.snd.snd.fst.length ≤ r1.snd.snd.fst.length) && true then
                                    some
                                      (PUnit.unit,
                                        (List.take
                                            (r1.snd.fst.length +
                                              (List.take a1.toNat
                                                  (List.drop (0 : Nat) (List.replicate a1.toNat (0 : Int)))).length)
                                            (List.drop (0 : Nat)
                                              (List.take r1.snd.fst.length (List.drop (0 : Nat) r1.snd.fst) ++
                                                List.take a1.toNat
                                                  (List.drop (0 : Nat) (List.replicate a1.toNat (0 : Int))))),
                                          List.take r1.snd.snd.fst.length (List.drop (0 : Nat) r1.snd.snd.fst),
                                          r1.snd.snd.snd.fst, r1.snd.snd.snd.snd),
                                        r2.snd)
                                  else none
                                else none
                            else none
                          else none
                        else none
                      else (x28 ((v0, v1, v2), a1)).bind fun r2 => some (PUnit.unit, r1.snd, r2.snd)
                  else none
                else none
              else none
            else none
          else none
theorem r6e (x22 : F22.FT) (x34 : F34.FT) (x24 : F24.FT) (x55 : F55.FT) (x28 : F28.FT) (x30 : F30.FT) (x31 : F31.FT) (x33 : F33.FT) (l25_1 : F25.G1) (l26_1 : F26.G1) (l29_1 : F29.G1) (kd : (Int × Int)) (d : (List (Int) × (List (Int × Int)) × Int × Bool) × (List (Int) × (List (Int × Int)) × Int)) : unitF (tabC Try.prog (tab x22 x34 x24 x55 x28 x30 x31 x33 l25_1 l26_1 l29_1) (pls x22 x34 x24 x55 x28 x30 x31 x33 l25_1 l26_1 l29_1) 100 12) 100 .none (u6 fun _ _ => none) (codeAt [1, 1, 0, 1, 0, 0, 1, 1, 0, 0, 1, 1, 0, 1, 0, 1, 1, 1, 1, 1, 1, 1, 1, 1, 0] (bodyOf Try.prog 4)) kd d = r6P x22 x34 x24 x55 x28 x30 x31 x33 l25_1 l26_1 l29_1 kd d := by kernel_rfl
noncomputable def r6 : G6 := r6P F22.f F34.f F24.f F55.f F28.f F30.f F31.f F33.f F25.l1 F26.l1 F29.l1
noncomputable def l6 : G6 := r6
theorem ok6 : UnOk Try.prog (u6 l6) (codeAt [1, 1, 0, 1, 0, 0, 1, 1, 0, 0, 1, 1, 0, 1, 0, 1, 1, 1, 1, 1, 1, 1, 1, 1, 0] (bodyOf Try.prog 4)) :=
  blockT (p := .none) (fuel := 100) (depth := 12) mixed tabS plsP trivial (fun kd d => r6e F22.f F34.f F24.f F55.f F28.f F30.f F31.f F33.f F25.l1 F26.l1 F29.l1 kd d)
def r7P (x22 : F22.FT) (x34 : F34.FT) (x24 : F24.FT) (x55 : F55.FT) (x28 : F28.FT) (x30 : F30.FT) (x31 : F31.FT) (x33 : F33.FT) (l25_1 : F25.G1) (l26_1 : F26.G1) (l29_1 : F29.G1) : G7 := fun () ((w0, w1, w2, w3), (v0, v1, v2)) =>
    (x34 (w0, w1, w2, w3)).bind fun r0 =>
      bif r0.fst == (0 : Int) then
        bif decide ((0 : Nat) + r0.snd.fst.length ≤ r0.snd.fst.length) && true then
          bif decide ((0 : Nat) + r0.snd.snd.fst.length ≤ r0.snd.snd.fst.length) && true then
            (x55
                  ((List.take r0.snd.fst.length (List.drop (0 : Nat) r0.snd.fst),
                      List.take r0.snd.snd.fst.length (List.drop (0 : Nat) r0.snd.snd.fst), r0.snd.snd.snd.fst,
                      r0.snd.snd.snd.snd),
                    (↑r0.snd.snd.fst.length : Int) == (0 : Int), (26 : Int))).bind
              fun r1 =>
              bif r1.fst then (x30 (v0, v1, v2)).bind fun r2 => some (PUnit.unit, r1.snd, r2.snd)
              else
                bif
                    decide
                      ((0 : Int) ≤ IntKind.i64.wrap ((↑r1.snd.snd.fst.length : Int) - (1 : Int)) ∧
                        IntKind.i64.wrap ((↑r1.snd.snd.fst.length : Int) - (1 : Int)) < (↑r1.snd.snd.fst.length : Int) ∧
                          (0 : Nat) < r1.snd.snd.fst.length) then
                  bif
                      decide
                        ((0 : Nat) + (IntKind.i64.wrap ((↑r1.snd.snd.fst.length : Int) - (1 : Int))).toNat <
                          r1.snd.snd.fst.length) then
                    bif
                        decide
                          ((0 : Int) ≤
                            IntKind.i64.wrap
                              ((8 : Int) *
                                (r1.snd.snd.fst.getD
                                    ((0 : Nat) + (IntKind.i64.wrap ((↑r1.snd.snd.fst.length : Int) - (1 : Int))).toNat)
                                    ((0 : Int), (0 : Int))).snd)) then
                      bif decide ((0 : Nat) + r1.snd.fst.length ≤ r1.snd.fst.length) && true then
                        bif decide ((0 : Nat) + r1.snd.snd.fst.length ≤ r1.snd.snd.fst.length) && true then
                          (x55
                                ((List.take r1.snd.fst.length (List.drop (0 : Nat) r1.snd.fst),
                                    List.take r1.snd.snd.fst.length (List.drop (0 : Nat) r1.snd.snd.fst),
                                    r1.snd.snd.snd.fst, r1.snd.snd.snd.snd),
                                  decide
                                    (IntKind.i64.wrap
                                        (IntKind.i64.wrap
                                            ((↑r1.snd.fst.length : Int) -
                                              (r1.snd.snd.fst.getD
                                                  ((0 : Nat) +
                                                    (IntKind.i64.wrap ((↑r1.snd.snd.fst.length : Int) - (1 : Int))).toNat)
                                                  ((0 : Int), (0 : Int))).fst) -
                                          (r1.snd.snd.fst.getD
                                              ((0 : Nat) +
                                                (IntKind.i64.wrap ((↑r1.snd.snd.fst.length : Int) - (1 : Int))).toNat)
                                              ((0 : Int), (0 : Int))).snd) ≥
                                      IntKind.i64.wrap
                                        ((1 : Int) *
                                          (2 : Int) ^
                                            min
                                              (IntKind.i64.wrap
                                                  ((8 : Int) *
                                                    (r1.snd.snd.fst.getD
                                                        ((0 : Nat) +
                                                          (IntKind.i64.wrap
                                                              ((↑r1.snd.snd.fst.length : Int) - (1 : Int))).toNat)
                                                        ((0 : Int), (0 : Int))).snd)).toNat
                                              (64 : Nat))),
                                  (3 : Int))).bind
                            fun r2 =>
                            bif r2.fst then (x30 (v0, v1, v2)).bind fun r3 => some (PUnit.unit, r2.snd, r3.snd)
                            else
                              (l29_1
                                    ((r1.snd.snd.fst.getD
                                          ((0 : Nat) +
                                            (IntKind.i64.wrap ((↑r1.snd.snd.fst.length : Int) - (1 : Int))).toNat)
                                          ((0 : Int), (0 : Int))).fst,
                                      (r1.snd.snd.fst.getD
                                          ((0 : Nat) +
                                            (IntKind.i64.wrap ((↑r1.snd.snd.fst.length : Int) - (1 : Int))).toNat)
                                          ((0 : Int), (0 : Int))).snd)
                                    (r2.snd,
                                      IntKind.i64.wrap
                                        (IntKind.i64.wrap
                                            ((↑r1.snd.fst.length : Int) -
                                              (r1.snd.snd.fst.getD
                                                  ((0 : Nat) +
                                                    (IntKind.i64.wrap ((↑r1.snd.snd.fst.length : Int) - (1 : Int))).toNat)
                                                  ((0 : Int), (0 : Int))).fst) -
                                          (r1.snd.snd.fst.getD
                                              ((0 : Nat) +
                                                (IntKind.i64.wrap ((↑r1.snd.snd.fst.length : Int) - (1 : Int))).toNat)
                                              ((0 : Int), (0 : Int))).snd),
                                      IntKind.i64.wrap
                                        ((r1.snd.snd.fst.getD
                                              ((0 : Nat) +
                                                (IntKind.i64.wrap ((↑r1.snd.snd.fst.length : Int) - (1 : Int))).toNat)
                                              ((0 : Int), (0 : Int))).snd -
                                          (1 : Int)))).bind
                                fun r3 =>
                                bif
                                    decide
                                      ((0 : Int) ≤
                                          (some (IntKind.i64.wrap ((↑r1.snd.snd.fst.length : Int) - (1 : Int)))).getD
                                            (↑r3.snd.snd.fst.length : Int) ∧
                                        (some (IntKind.i64.wrap ((↑r1.snd.snd.fst.length : Int) - (1 : Int)))).getD
                                              (↑r3.snd.snd.fst.length : Int) ≤
                                            (↑r3.snd.snd.fst.length : Int) ∧
                                          (0 : Nat) + r3.snd.snd.fst.length ≤ r3.snd.snd.fst.length) then
                                  (x30 (v0, v1, v2)).bind fun r4 =>
                                    bif decide ((0 : Nat) + r3.snd.fst.length ≤ r3.snd.fst.length) && true then
                                      bif
                                          decide
                                              ((0 : Nat) +
                                                  ((some
                                                          (IntKind.i64.wrap
                                                            ((↑r1.snd.snd.fst.length : Int) - (1 : Int)))).getD
                                                      (↑r3.snd.snd.fst.length : Int)).toNat ≤
                                                r3.snd.snd.fst.length) &&
                                            true then
                                        some
                                          (PUnit.unit,
                                            (List.take r3.snd.fst.length (List.drop (0 : Nat) r3.snd.fst),
                                              List.take
                                                ((some
                                                        (IntKind.i64.wrap
                                                          ((↑r1.snd.snd.fst.length : Int) - (1 : Int)))).getD
                                                    (↑r3.snd.snd.fst.length : Int)).toNat
                                                (List.drop (0 : Nat) r3.snd.snd.fst),
                                              r3.snd.snd.snd.fst, r3.snd.snd.snd.snd),
                                            r4.snd)
                                      else none
                                    else none
                                else none
                        else none
                      else none
                    else none
                  else none
                else none
          else none
        else none
      else
        (x55 (r0.snd, false, (26 : Int))).bind fun r1 =>
          bif r1.fst then (x30 (v0, v1, v2)).bind fun r2 => some (PUnit.unit, r1.snd, r2.snd)
          else
            bif
                decide
                  ((0 : Int) ≤ IntKind.i64.wrap ((↑r1.snd.snd.fst.length : Int) - (1 : Int)) ∧
                    IntKind.i64.wrap ((↑r1.snd.snd.fst.length : Int) - (1 : Int)) < (↑r1.snd.snd.fst.length : Int) ∧
                      (0 : Nat) < r1.snd.snd.fst.length) then
              bif
                  decide
                    ((0 : Nat) + (IntKind.i64.wrap ((↑r1.snd.snd.fst.length : Int) - (1 : Int))).toNat <
                      r1.snd.snd.fst.length) then
                bif
                    decide
                      ((0 : Int) ≤
                        IntKind.i64.wrap
                          ((8 : Int) *
                            (r1.snd.snd.fst.getD
                                ((0 : Nat) + (IntKind.i64.wrap ((↑r1.snd.snd.fst.length : Int) - (1 : Int))).toNat)
                                ((0 : Int), (0 : Int))).snd)) then
                  bif decide ((0 : Nat) + r1.snd.fst.length ≤ r1.snd.fst.length) && true then
                    bif decide ((0 : Nat) + r1.snd.snd.fst.length ≤ r1.snd.snd.fst.length) && true then
                      (x55
                            ((List.take r1.snd.fst.length (List.drop (0 : Nat) r1.snd.fst),
                                List.take r1.snd.snd.fst.length (List.drop (0 : Nat) r1.snd.snd.fst), r1.snd.snd.snd.fst,
                                r1.snd.snd.snd.snd),
                              decide
                                (IntKind.i64.wrap
                                    (IntKind.i64.wrap
                                        ((↑r1.snd.fst.length : Int) -
                                          (r1.snd.snd.fst.getD
                                              ((0 : Nat) +
                                                (IntKind.i64.wrap ((↑r1.snd.snd.fst.length : Int) - (1 : Int))).toNat)
                                              ((0 : Int), (0 : Int))).fst) -
                                      (r1.snd.snd.fst.getD
                                          ((0 : Nat) +
                                            (IntKind.i64.wrap ((↑r1.snd.snd.fst.length : Int) - (1 : Int))).toNat)
                                          ((0 : Int), (0 : Int))).snd) ≥
                                  IntKind.i64.wrap
                                    ((1 : Int) *
                                      (2 : Int) ^
                                        min
                                          (IntKind.i64.wrap
                                              ((8 : Int) *
                                                (r1.snd.snd.fst.getD
                                                    ((0 : Nat) +
                                                      (IntKind.i64.wrap
                                                          ((↑r1.snd.snd.fst.length : Int) - (1 : Int))).toNat)
                                                    ((0 : Int), (0 : Int))).snd)).toNat
                                          (64 : Nat))),
                              (3 : Int))).bind
                        fun r2 =>
                        bif r2.fst then (x30 (v0, v1, v2)).bind fun r3 => some (PUnit.unit, r2.snd, r3.snd)
                        else
                          (l29_1
                                ((r1.snd.snd.fst.getD
                                      ((0 : Nat) + (IntKind.i64.wrap ((↑r1.snd.snd.fst.length : Int) - (1 : Int))).toNat)
                                      ((0 : Int), (0 : Int))).fst,
                                  (r1.snd.snd.fst.getD
                                      ((0 : Nat) + (IntKind.i64.wrap ((↑r1.snd.snd.fst.length : Int) - (1 : Int))).toNat)
                                      ((0 : Int), (0 : Int))).snd)
                                (r2.snd,
                                  IntKind.i64.wrap
                                    (IntKind.i64.wrap
                                        ((↑r1.snd.fst.length : Int) -
                                          (r1.snd.snd.fst.getD
                                              ((0 : Nat) +
                                                (IntKind.i64.wrap ((↑r1.snd.snd.fst.length : Int) - (1 : Int))).toNat)
                                              ((0 : Int), (0 : Int))).fst) -
                                      (r1.snd.snd.fst.getD
                                          ((0 : Nat) +
                                            (IntKind.i64.wrap ((↑r1.snd.snd.fst.length : Int) - (1 : Int))).toNat)
                                          ((0 : Int), (0 : Int))).snd),
                                  IntKind.i64.wrap
                                    ((r1.snd.snd.fst.getD
                                          ((0 : Nat) +
                                            (IntKind.i64.wrap ((↑r1.snd.snd.fst.length : Int) - (1 : Int))).toNat)
                                          ((0 : Int), (0 : Int))).snd -
                                      (1 : Int)))).bind
                            fun r3 =>
                            bif
                                decide
                                  ((0 : Int) ≤
                                      (some (IntKind.i64.wrap ((↑r1.snd.snd.fst.length : Int) - (1 : Int)))).getD
                                        (↑r3.snd.snd.fst.length : Int) ∧
                                    (some (IntKind.i64.wrap ((↑r1.snd.snd.fst.length : Int) - (1 : Int)))).getD
                                          (↑r3.snd.snd.fst.length : Int) ≤
                                        (↑r3.snd.snd.fst.length : Int) ∧
                                      (0 : Nat) + r3.snd.snd.fst.length ≤ r3.snd.snd.fst.length) then
                              (x30 (v0, v1, v2)).bind fun r4 =>
                                bif decide ((0 : Nat) + r3.snd.fst.length ≤ r3.snd.fst.length) && true then
                                  bif
                                      decide
                                          ((0 : Nat) +
                                              ((some (IntKind.i64.wrap ((↑r1.snd.snd.fst.length : Int) - (1 : Int)))).getD
                                                  (↑r3.snd.snd.fst.length : Int)).toNat ≤
                                            r3.snd.snd.fst.length) &&
                                        true then
                                    some
                                      (PUnit.unit,
                                        (List.take r3.snd.fst.length (List.drop (0 : Nat) r3.snd.fst),
                                          List.take
                                            ((some (IntKind.i64.wrap ((↑r1.snd.snd.fst.length : Int) - (1 : Int)))).getD
                                                (↑r3.snd.snd.fst.length : Int)).toNat
                                            (List.drop (0 : Nat) r3.snd.snd.fst),
                                          r3.snd.snd.snd.fst, r3.snd.snd.snd.snd),
                                        r4.snd)
                                  else none
                                else none
                            else none
                    else none
                  else none
                else none
              else none
            else none
theorem r7e (x22 : F22.FT) (x34 : F34.FT) (x24 : F24.FT) (x55 : F55.FT) (x28 : F28.FT) (x30 : F30.FT) (x31 : F31.FT) (x33 : F33.FT) (l25_1 : F25.G1) (l26_1 : F26.G1) (l29_1 : F29.G1) (kd : Unit) (d : (List (Int) × (List (Int × Int)) × Int × Bool) × (List (Int) × (List (Int × Int)) × Int)) : unitF (tabC Try.prog (tab x22 x34 x24 x55 x28 x30 x31 x33 l25_1 l26_1 l29_1) (pls x22 x34 x24 x55 x28 x30 x31 x33 l25_1 l26_1 l29_1) 100 12) 100 .none (u7 fun _ _ => none) (codeAt [1, 1, 0, 1, 0, 0, 1, 1, 0, 0, 1, 1, 0, 1, 0, 1, 1, 1, 1, 1, 1, 1, 1, 1, 1, 1, 0] (bodyOf Try.prog 4)) kd d = r7P x22 x34 x24 x55 x28 x30 x31 x33 l25_1 l26_1 l29_1 kd d := by kernel_rfl
noncomputable def r7 : G7 := r7P F22.f F34.f F24.f F55.f F28.f F30.f F31.f F33.f F25.l1 F26.l1 F29.l1
noncomputable def l7 : G7 := r7
theorem ok7 : UnOk Try.prog (u7 l7) (codeAt [1, 1, 0, 1, 0, 0, 1, 1, 0, 0, 1, 1, 0, 1, 0, 1, 1, 1, 1, 1, 1, 1, 1, 1, 1, 1, 0] (bodyOf Try.prog 4)) :=
  blockT (p := .none) (fuel := 100) (depth := 12) mixed tabS plsP trivial (fun kd d => r7e F22.f F34.f F24.f F55.f F28.f F30.f F31.f F33.f F25.l1 F26.l1 F29.l1 kd d)
def r8P (x22 : F22.FT) (x34 : F34.FT) (x24 : F24.FT) (x55 : F55.FT) (x28 : F28.FT) (x30 : F30.FT) (x31 : F31.FT) (x33 : F33.FT) (l25_1 : F25.G1) (l26_1 : F26.G1) (l29_1 : F29.G1) : G8 := fun (a0, a1) ((w0, w1, w2, w3), (v0, v1, v2)) =>
    bif IntKind.i64.wrap (a0 - (7 : Int)) != (1 : Int) then
      (x55 ((w0, w1, w2, w3), IntKind.i64.wrap (a0 - (7 : Int)) != (2 : Int), (1 : Int))).bind fun r0 =>
        bif r0.fst then
          (x28 ((v0, v1, v2), IntKind.i64.wrap (a0 - (7 : Int)))).bind fun r1 => some (PUnit.unit, r0.snd, r1.snd)
        else
          bif decide (r0.snd.snd.fst.length + (2 : Nat) / OfNat.ofNat (2 : Nat) ≤ (1073741824 : Nat)) then
            bif decide ((0 : Nat) + r0.snd.snd.fst.length ≤ r0.snd.snd.fst.length) then
              bif
                  decide
                    ((0 : Int) ≤ IntKind.i64.wrap (a0 - (7 : Int)) ∧
                      IntKind.i64.wrap (a0 - (7 : Int)) ≤ IntKind.i64.wrap (a0 - (7 : Int)) ∧
                        IntKind.i64.wrap (a0 - (7 : Int)) ≤ (1073741824 : Int) ∧
                          (↑(OfNat.ofNat (1 : Nat)) : Int) * IntKind.i64.wrap (a0 - (7 : Int)) ≤
                            (281474976710656 : Int)) then
                bif decide ((0 : Nat) + r0.snd.fst.length ≤ r0.snd.fst.length) && true then
                  bif
                      decide
                          ((0 : Nat) + (r0.snd.snd.fst.length + (2 : Nat) / OfNat.ofNat (2 : Nat)) ≤
                            (List.take r0.snd.snd.fst.length (List.drop (0 : Nat) r0.snd.snd.fst) ++
                                [((↑r0.snd.fst.length : Int), IntKind.i64.wrap (a0 - (7 : Int)))]).length) &&
                        true then
                    (x34
                          (List.take r0.snd.fst.length (List.drop (0 : Nat) r0.snd.fst),
                            List.take (r0.snd.snd.fst.length + (2 : Nat) / OfNat.ofNat (2 : Nat))
                              (List.drop (0 : Nat)
                                (List.take r0.snd.snd.fst.length (List.drop (0 : Nat) r0.snd.snd.fst) ++
                                  [((↑r0.snd.fst.length : Int), IntKind.i64.wrap (a0 - (7 : Int)))])),
                            r0.snd.snd.snd.fst, r0.snd.snd.snd.snd)).bind
                      fun r1 =>
                      bif r1.fst == (0 : Int) then
                        bif
                            decide
                              ((0 : Nat) + (IntKind.i64.wrap (a0 - (7 : Int))).toNat ≤
                                (List.replicate (IntKind.i64.wrap (a0 - (7 : Int))).toNat (0 : Int)).length) then
                          bif
                              decide
                                (r1.snd.fst.length +
                                    (List.take (IntKind.i64.wrap (a0 - (7 : Int))).toNat
                                        (List.drop (0 : Nat)
                                          (List.replicate (IntKind.i64.wrap (a0 - (7 : Int))).toNat (0 : Int)))).length ≤
                                  (1073741824 : Nat)) then
                            bif decide ((0 : Nat) + r1.snd.fst.length ≤ r1.snd.fst.length) then
                              (x28 ((v0, v1, v2), IntKind.i64.wrap (a0 - (7 : Int)))).bind fun r2 =>
                                bif
                                    decide
                                        ((0 : Nat) +
                                            (r1.snd.fst.length +
                                              (List.take (IntKind.i64.wrap (a0 - (7 : Int))).toNat
                                                  (List.drop (0 : Nat)
                                                    (List.replicate (IntKind.i64.wrap (a0 - (7 : Int))).toNat
                                                      (0 : Int)))).length) ≤
                                          (List.take r1.snd.fst.length (List.drop (0 : Nat) r1.snd.fst) ++
                                              List.take (IntKind.i64.wrap (a0 - (7 : Int))).toNat
                                                (List.drop (0 : Nat)
                                                  (List.replicate (IntKind.i64.wrap (a0 - (7 : Int))).toNat
                                                    (0 : Int)))).length) &&
                                      true then
                                  bif decide ((0 : Nat) + r1.snd.snd.fst.length ≤ r1.snd.snd.fst.length) && true then
                                    some
                                      (PUnit.unit,
                                        (List.take
                                            (r1.snd.fst.length +
                                              (List.take (IntKind.i64.wrap (a0 - (7 : Int))).toNat
                                                  (List.drop (0 : Nat)
                                                    (List.replicate (IntKind.i64.wrap (a0 - (7 : Int))).toNat
                                                      (0 : Int)))).length)
                                            (List.drop (0 : Nat)
                                              (List.take r1.snd.fst.length (List.drop (0 : Nat) r1.snd.fst) ++
                                                List.take (IntKind.i64.wrap (a0 - (7 : Int))).toNat
                                                  (List.drop (0 : Nat)
                                                    (List.replicate (IntKind.i64.wrap (a0 - (7 : Int))).toNat
                                                      (0 : Int))))),
                                          List.take r1.snd.snd.fst.length (List.drop (0 : Nat) r1.snd.snd.fst),
                                          r1.snd.snd.snd.fst, r1.snd.snd.snd.snd),
                                        r2.snd)
                                  else none
                                else none
                            else none
                          else none
                        else none
                      else
                        (x28 ((v0, v1, v2), IntKind.i64.wrap (a0 - (7 : Int)))).bind fun r2 =>
                          some (PUnit.unit, r1.snd, r2.snd)
                  else none
                else none
              else none
            else none
          else none
    else
      (x55 ((w0, w1, w2, w3), false, (1 : Int))).bind fun r0 =>
        bif r0.fst then
          (x28 ((v0, v1, v2), IntKind.i64.wrap (a0 - (7 : Int)))).bind fun r1 => some (PUnit.unit, r0.snd, r1.snd)
        else
          bif decide (r0.snd.snd.fst.length + (2 : Nat) / OfNat.ofNat (2 : Nat) ≤ (1073741824 : Nat)) then
            bif decide ((0 : Nat) + r0.snd.snd.fst.length ≤ r0.snd.snd.fst.length) then
              bif
                  decide
                    ((0 : Int) ≤ IntKind.i64.wrap (a0 - (7 : Int)) ∧
                      IntKind.i64.wrap (a0 - (7 : Int)) ≤ IntKind.i64.wrap (a0 - (7 : Int)) ∧
                        IntKind.i64.wrap (a0 - (7 : Int)) ≤ (1073741824 : Int) ∧
                          (↑(OfNat.ofNat (1 : Nat)) : Int) * IntKind.i64.wrap (a0 - (7 : Int)) ≤
                            (281474976710656 : Int)) then
                bif decide ((0 : Nat) + r0.snd.fst.length ≤ r0.snd.fst.length) && true then
                  bif
                      decide
                          ((0 : Nat) + (r0.snd.snd.fst.length + (2 : Nat) / OfNat.ofNat (2 : Nat)) ≤
                            (List.take r0.snd.snd.fst.length (List.drop (0 : Nat) r0.snd.snd.fst) ++
                                [((↑r0.snd.fst.length : Int), IntKind.i64.wrap (a0 - (7 : Int)))]).length) &&
                        true then
                    (x34
                          (List.take r0.snd.fst.length (List.drop (0 : Nat) r0.snd.fst),
                            List.take (r0.snd.snd.fst.length + (2 : Nat) / OfNat.ofNat (2 : Nat))
                              (List.drop (0 : Nat)
                                (List.take r0.snd.snd.fst.length (List.drop (0 : Nat) r0.snd.snd.fst) ++
                                  [((↑r0.snd.fst.length : Int), IntKind.i64.wrap (a0 - (7 : Int)))])),
                            r0.snd.snd.snd.fst, r0.snd.snd.snd.snd)).bind
                      fun r1 =>
                      bif r1.fst == (0 : Int) then
                        bif
                            decide
                              ((0 : Nat) + (IntKind.i64.wrap (a0 - (7 : Int))).toNat ≤
                                (List.replicate (IntKind.i64.wrap (a0 - (7 : Int))).toNat (0 : Int)).length) then
                          bif
                              decide
                                (r1.snd.fst.length +
                                    (List.take (IntKind.i64.wrap (a0 - (7 : Int))).toNat
                                        (List.drop (0 : Nat)
                                          (List.replicate (IntKind.i64.wrap (a0 - (7 : Int))).toNat (0 : Int)))).length ≤
                                  (1073741824 : Nat)) then
                            bif decide ((0 : Nat) + r1.snd.fst.length ≤ r1.snd.fst.length) then
                              (x28 ((v0, v1, v2), IntKind.i64.wrap (a0 - (7 : Int)))).bind fun r2 =>
                                bif
                                    decide
                                        ((0 : Nat) +
                                            (r1.snd.fst.length +
                                              (List.take (IntKind.i64.wrap (a0 - (7 : Int))).toNat
                                                  (List.drop (0 : Nat)
                                                    (List.replicate (IntKind.i64.wrap (a0 - (7 : Int))).toNat
                                                      (0 : Int)))).length) ≤
                                          (List.take r1.snd.fst.length (List.drop (0 : Nat) r1.snd.fst) ++
                                              List.take (IntKind.i64.wrap (a0 - (7 : Int))).toNat
                                                (List.drop (0 : Nat)
                                                  (List.replicate (IntKind.i64.wrap (a0 - (7 : Int))).toNat
                                                    (0 : Int)))).length) &&
                                      true then
                                  bif decide ((0 : Nat) + r1.snd.snd.fst.length ≤ r1.snd.snd.fst.length) && true then
                                    some
                                      (PUnit.unit,
                                        (List.take
                                            (r1.snd.fst.length +
                                              (List.take (IntKind.i64.wrap (a0 - (7 : Int))).toNat
                                                  (List.drop (0 : Nat)
                                                    (List.replicate (IntKind.i64.wrap (a0 - (7 : Int))).toNat
                                                      (0 : Int)))).length)
                                            (List.drop (0 : Nat)
                                              (List.take r1.snd.fst.length (List.drop (0 : Nat) r1.snd.fst) ++
                                                List.take (IntKind.i64.wrap (a0 - (7 : Int))).toNat
                                                  (List.drop (0 : Nat)
                                                    (List.replicate (IntKind.i64.wrap (a0 - (7 : Int))).toNat
                                                      (0 : Int))))),
                                          List.take r1.snd.snd.fst.length (List.drop (0 : Nat) r1.snd.snd.fst),
                                          r1.snd.snd.snd.fst, r1.snd.snd.snd.snd),
                                        r2.snd)
                                  else none
                                else none
                            else none
                          else none
                        else none
                      else
                        (x28 ((v0, v1, v2), IntKind.i64.wrap (a0 - (7 : Int)))).bind fun r2 =>
                          some (PUnit.unit, r1.snd, r2.snd)
                  else none
                else none
              else none
            else none
          else none
theorem r8e (x22 : F22.FT) (x34 : F34.FT) (x24 : F24.FT) (x55 : F55.FT) (x28 : F28.FT) (x30 : F30.FT) (x31 : F31.FT) (x33 : F33.FT) (l25_1 : F25.G1) (l26_1 : F26.G1) (l29_1 : F29.G1) (kd : (Int × Int)) (d : (List (Int) × (List (Int × Int)) × Int × Bool) × (List (Int) × (List (Int × Int)) × Int)) : unitF (tabC Try.prog (tab x22 x34 x24 x55 x28 x30 x31 x33 l25_1 l26_1 l29_1) (pls x22 x34 x24 x55 x28 x30 x31 x33 l25_1 l26_1 l29_1) 100 12) 100 .none (u8 fun _ _ => none) (codeAt [1, 1, 0, 1, 0, 0, 1, 1, 0, 0, 1, 1, 0, 1, 0, 1, 1, 1, 1, 1, 1, 1, 1, 1, 1, 1, 1, 1, 0] (bodyOf Try.prog 4)) kd d = r8P x22 x34 x24 x55 x28 x30 x31 x33 l25_1 l26_1 l29_1 kd d := by kernel_rfl
noncomputable def r8 : G8 := r8P F22.f F34.f F24.f F55.f F28.f F30.f F31.f F33.f F25.l1 F26.l1 F29.l1
noncomputable def l8 : G8 := r8
theorem ok8 : UnOk Try.prog (u8 l8) (codeAt [1, 1, 0, 1, 0, 0, 1, 1, 0, 0, 1, 1, 0, 1, 0, 1, 1, 1, 1, 1, 1, 1, 1, 1, 1, 1, 1, 1, 0] (bodyOf Try.prog 4)) :=
  blockT (p := .none) (fuel := 100) (depth := 12) mixed tabS plsP trivial (fun kd d => r8e F22.f F34.f F24.f F55.f F28.f F30.f F31.f F33.f F25.l1 F26.l1 F29.l1 kd d)
def r9P (x22 : F22.FT) (x34 : F34.FT) (x24 : F24.FT) (x55 : F55.FT) (x28 : F28.FT) (x30 : F30.FT) (x31 : F31.FT) (x33 : F33.FT) (l25_1 : F25.G1) (l26_1 : F26.G1) (l29_1 : F29.G1) (l1 : G1) (l2 : G2) (l3 : G3) (l5 : G5) (l6 : G6) (l7 : G7) (l8 : G8) : G9 := fun ((a0, a1), t25) ((w0, w1, w2, w3), (v0, v1, v2)) =>
    bif t25 == (0 : Int) then
      (l1 (a0, a1) ((w0, w1, w2, w3), v0, v1, v2)).bind fun r0 => some (PUnit.unit, r0.snd.fst, r0.snd.snd)
    else
      bif t25 == (1 : Int) then
        (l2 (a0, a1) ((w0, w1, w2, w3), v0, v1, v2)).bind fun r0 => some (PUnit.unit, r0.snd.fst, r0.snd.snd)
      else
        bif t25 == (2 : Int) then
          (l3 (a0, a1) ((w0, w1, w2, w3), v0, v1, v2)).bind fun r0 => some (PUnit.unit, r0.snd.fst, r0.snd.snd)
        else
          bif t25 == (3 : Int) then
            (l5 (a0, a1) ((w0, w1, w2, w3), v0, v1, v2)).bind fun r0 => some (PUnit.unit, r0.snd.fst, r0.snd.snd)
          else
            bif t25 == (4 : Int) then
              (l5 (a0, a1) ((w0, w1, w2, w3), v0, v1, v2)).bind fun r0 => some (PUnit.unit, r0.snd.fst, r0.snd.snd)
            else
              bif t25 == (5 : Int) then
                (l6 (a0, a1) ((w0, w1, w2, w3), v0, v1, v2)).bind fun r0 => some (PUnit.unit, r0.snd.fst, r0.snd.snd)
              else
                bif t25 == (6 : Int) then
                  (l7 PUnit.unit ((w0, w1, w2, w3), v0, v1, v2)).bind fun r0 => some (PUnit.unit, r0.snd.fst, r0.snd.snd)
                else
                  bif t25 == (7 : Int) then
                    (l7 PUnit.unit ((w0, w1, w2, w3), v0, v1, v2)).bind fun r0 =>
                      some (PUnit.unit, r0.snd.fst, r0.snd.snd)
                  else
                    bif t25 == (8 : Int) then
                      (l8 (a0, a1) ((w0, w1, w2, w3), v0, v1, v2)).bind fun r0 =>
                        some (PUnit.unit, r0.snd.fst, r0.snd.snd)
                    else
                      bif t25 == (9 : Int) then
                        (l8 (a0, a1) ((w0, w1, w2, w3), v0, v1, v2)).bind fun r0 =>
                          some (PUnit.unit, r0.snd.fst, r0.snd.snd)
                      else some (PUnit.unit, (w0, w1, w2, w3), v0, v1, v2)
theorem r9e (x22 : F22.FT) (x34 : F34.FT) (x24 : F24.FT) (x55 : F55.FT) (x28 : F28.FT) (x30 : F30.FT) (x31 : F31.FT) (x33 : F33.FT) (l25_1 : F25.G1) (l26_1 : F26.G1) (l29_1 : F29.G1) (l1 : G1) (l2 : G2) (l3 : G3) (l5 : G5) (l6 : G6) (l7 : G7) (l8 : G8) (kd : (Int × Int) × Int) (d : (List (Int) × (List (Int × Int)) × Int × Bool) × (List (Int) × (List (Int × Int)) × Int)) : unitF (tabC Try.prog (tab x22 x34 x24 x55 x28 x30 x31 x33 l25_1 l26_1 l29_1) (pls x22 x34 x24 x55 x28 x30 x31 x33 l25_1 l26_1 l29_1) 100 12) 100 (.node (.node .none (.node (.unit (u1 l1)) (.node .none (.node (.unit (u2 l2)) (.node .none (.node (.unit (u3 l3)) (.node .none (.node (.unit (u5 l5)) (.node .none (.node (.unit (u6 l6)) (.node .none (.node (.unit (u7 l7)) (.node .none (.node (.unit (u8 l8)) .none)))))))))))))) .none) (u9 fun _ _ => none) (codeAt [1, 1, 0, 1, 0, 0, 1, 1, 0, 0, 1, 1, 0, 1] (bodyOf Try.prog 4)) kd d = r9P x22 x34 x24 x55 x28 x30 x31 x33 l25_1 l26_1 l29_1 l1 l2 l3 l5 l6 l7 l8 kd d := by kernel_rfl
noncomputable def r9 : G9 := r9P F22.f F34.f F24.f F55.f F28.f F30.f F31.f F33.f F25.l1 F26.l1 F29.l1 l1 l2 l3 l5 l6 l7 l8
noncomputable def l9 : G9 := r9
theorem ok9 : UnOk Try.prog (u9 l9) (codeAt [1, 1, 0, 1, 0, 0, 1, 1, 0, 0, 1, 1, 0, 1] (bodyOf Try.prog 4)) :=
  blockT (p := (.node (.node .none (.node (.unit (u1 l1)) (.node .none (.node (.unit (u2 l2)) (.node .none (.node (.unit (u3 l3)) (.node .none (.node (.unit (u5 l5)) (.node .none (.node (.unit (u6 l6)) (.node .none (.node (.unit (u7 l7)) (.node .none (.node (.unit (u8 l8)) .none)))))))))))))) .none)) (fuel := 100) (depth := 12) mixed tabS plsP (planOk_of (.node (.node .none (.node (.unit (u1 l1)) (.node .none (.node (.unit (u2 l2)) (.node .none (.node (.unit (u3 l3)) (.node .none (.node (.unit (u5 l5)) (.node .none (.node (.unit (u6 l6)) (.node .none (.node (.unit (u7 l7)) (.node .none (.node (.unit (u8 l8)) .none)))))))))))))) .none) _ [([0, 1, 0], u1 l1), ([0, 1, 1, 1, 0], u2 l2), ([0, 1, 1, 1, 1, 1, 0], u3 l3), ([0, 1, 1, 1, 1, 1, 1, 1, 0], u5 l5), ([0, 1, 1, 1, 1, 1, 1, 1, 1, 1, 0], u6 l6), ([0, 1, 1, 1, 1, 1, 1, 1, 1, 1, 1, 1, 0], u7 l7), ([0, 1, 1, 1, 1, 1, 1, 1, 1, 1, 1, 1, 1, 1, 0], u8 l8)] rfl ⟨ok1, ok2, ok3, ok5, ok6, ok7, ok8, trivial⟩) (fun kd d => r9e F22.f F34.f F24.f F55.f F28.f F30.f F31.f F33.f F25.l1 F26.l1 F29.l1 l1 l2 l3 l5 l6 l7 l8 kd d)
def r10P (x22 : F22.FT) (x34 : F34.FT) (x24 : F24.FT) (x55 : F55.FT) (x28 : F28.FT) (x30 : F30.FT) (x31 : F31.FT) (x33 : F33.FT) (l25_1 : F25.G1) (l26_1 : F26.G1) (l29_1 : F29.G1) : G10 := fun () ((w0, w1, w2, w3), (v0, v1, v2)) =>
    (x31 (w0, w1, w2, w3)).bind fun r0 =>
      bif v2 != (0 : Int) then
        bif decide ((0 : Nat) + r0.snd.fst.length ≤ r0.snd.fst.length) && true then
          bif decide ((0 : Nat) + r0.snd.snd.fst.length ≤ r0.snd.snd.fst.length) && true then
            (x33
                  (List.take r0.snd.fst.length (List.drop (0 : Nat) r0.snd.fst),
                    List.take r0.snd.snd.fst.length (List.drop (0 : Nat) r0.snd.snd.fst), r0.snd.snd.snd.fst,
                    r0.snd.snd.snd.snd)).bind
              fun r1 =>
              bif r1.fst != (↑v0.length : Int) then
                bif decide ((0 : Nat) + v0.length ≤ v0.length) && true then
                  bif decide ((0 : Nat) + v1.length ≤ v1.length) && true then
                    some (((1 : Int), false), r1.snd, List.take v0.length v0, List.take v1.length v1, v2)
                  else none
                else none
              else
                (x34 r1.snd).bind fun r2 =>
                  bif r2.fst != v2 then
                    bif decide ((0 : Nat) + v0.length ≤ v0.length) && true then
                      bif decide ((0 : Nat) + v1.length ≤ v1.length) && true then
                        some (((1 : Int), false), r2.snd, List.take v0.length v0, List.take v1.length v1, v2)
                      else none
                    else none
                  else
                    bif decide ((0 : Nat) + r0.fst.fst.length ≤ r0.fst.fst.length) then
                      bif
                          !(ByteArray.mk
                                  (Array.mk
                                    (List.map (fun n => UInt8.ofNat n.toNat)
                                      (List.take r0.fst.fst.length (List.drop (0 : Nat) r0.fst.fst))))).toList ==
                              [] then
                        bif decide ((0 : Nat) + v0.length ≤ v0.length) && true then
                          bif decide ((0 : Nat) + v1.length ≤ v1.length) && true then
                            some (((1 : Int), false), r2.snd, List.take v0.length v0, List.take v1.length v1, v2)
                          else none
                        else none
                      else
                        bif r0.fst.snd != v2 then
                          bif decide ((0 : Nat) + v0.length ≤ v0.length) && true then
                            bif decide ((0 : Nat) + v1.length ≤ v1.length) && true then
                              some (((1 : Int), false), r2.snd, List.take v0.length v0, List.take v1.length v1, v2)
                            else none
                          else none
                        else
                          bif decide ((0 : Nat) + v0.length ≤ v0.length) && true then
                            bif decide ((0 : Nat) + v1.length ≤ v1.length) && true then
                              some (((0 : Int), false), r2.snd, List.take v0.length v0, List.take v1.length v1, v2)
                            else none
                          else none
                    else none
          else none
        else none
      else
        bif decide ((↑v1.length : Int) > (0 : Int)) then
          bif decide ((0 : Nat) + r0.snd.fst.length ≤ r0.snd.fst.length) && true then
            bif decide ((0 : Nat) + r0.snd.snd.fst.length ≤ r0.snd.snd.fst.length) && true then
              (x33
                    (List.take r0.snd.fst.length (List.drop (0 : Nat) r0.snd.fst),
                      List.take r0.snd.snd.fst.length (List.drop (0 : Nat) r0.snd.snd.fst), r0.snd.snd.snd.fst,
                      r0.snd.snd.snd.snd)).bind
                fun r1 =>
                bif r1.fst != (↑v0.length : Int) then
                  bif decide ((0 : Nat) + v0.length ≤ v0.length) && true then
                    bif decide ((0 : Nat) + v1.length ≤ v1.length) && true then
                      some (((1 : Int), false), r1.snd, List.take v0.length v0, List.take v1.length v1, v2)
                    else none
                  else none
                else
                  (x34 r1.snd).bind fun r2 =>
                    bif r2.fst != v2 then
                      bif decide ((0 : Nat) + v0.length ≤ v0.length) && true then
                        bif decide ((0 : Nat) + v1.length ≤ v1.length) && true then
                          some (((1 : Int), false), r2.snd, List.take v0.length v0, List.take v1.length v1, v2)
                        else none
                      else none
                    else
                      bif decide ((0 : Nat) + r0.fst.fst.length ≤ r0.fst.fst.length) then
                        bif
                            !(ByteArray.mk
                                    (Array.mk
                                      (List.map (fun n => UInt8.ofNat n.toNat)
                                        (List.take r0.fst.fst.length (List.drop (0 : Nat) r0.fst.fst))))).toList ==
                                [] then
                          bif decide ((0 : Nat) + v0.length ≤ v0.length) && true then
                            bif decide ((0 : Nat) + v1.length ≤ v1.length) && true then
                              some (((1 : Int), false), r2.snd, List.take v0.length v0, List.take v1.length v1, v2)
                            else none
                          else none
                        else
                          bif r0.fst.snd != (26 : Int) then
                            bif decide ((0 : Nat) + v0.length ≤ v0.length) && true then
                              bif decide ((0 : Nat) + v1.length ≤ v1.length) && true then
                                some (((1 : Int), false), r2.snd, List.take v0.length v0, List.take v1.length v1, v2)
                              else none
                            else none
                          else
                            bif decide ((0 : Nat) + v0.length ≤ v0.length) && true then
                              bif decide ((0 : Nat) + v1.length ≤ v1.length) && true then
                                some (((0 : Int), false), r2.snd, List.take v0.length v0, List.take v1.length v1, v2)
                              else none
                            else none
                      else none
            else none
          else none
        else
          bif decide ((0 : Nat) + r0.snd.fst.length ≤ r0.snd.fst.length) && true then
            bif decide ((0 : Nat) + r0.snd.snd.fst.length ≤ r0.snd.snd.fst.length) && true then
              (x33
                    (List.take r0.snd.fst.length (List.drop (0 : Nat) r0.snd.fst),
                      List.take r0.snd.snd.fst.length (List.drop (0 : Nat) r0.snd.snd.fst), r0.snd.snd.snd.fst,
                      r0.snd.snd.snd.snd)).bind
                fun r1 =>
                bif r1.fst != (↑v0.length : Int) then
                  bif decide ((0 : Nat) + v0.length ≤ v0.length) && true then
                    bif decide ((0 : Nat) + v1.length ≤ v1.length) && true then
                      some (((1 : Int), false), r1.snd, List.take v0.length v0, List.take v1.length v1, v2)
                    else none
                  else none
                else
                  (x34 r1.snd).bind fun r2 =>
                    bif r2.fst != v2 then
                      bif decide ((0 : Nat) + v0.length ≤ v0.length) && true then
                        bif decide ((0 : Nat) + v1.length ≤ v1.length) && true then
                          some (((1 : Int), false), r2.snd, List.take v0.length v0, List.take v1.length v1, v2)
                        else none
                      else none
                    else
                      bif decide ((0 : Nat) + r0.fst.fst.length ≤ r0.fst.fst.length) then
                        bif decide ((0 : Nat) + v0.length ≤ v0.length) then
                          bif
                              !(ByteArray.mk
                                      (Array.mk
                                        (List.map (fun n => UInt8.ofNat n.toNat)
                                          (List.take r0.fst.fst.length (List.drop (0 : Nat) r0.fst.fst))))).toList ==
                                  (ByteArray.mk
                                      (Array.mk
                                        (List.map (fun n => UInt8.ofNat n.toNat) (List.take v0.length v0)))).toList then
                            bif decide ((0 : Nat) + v0.length ≤ v0.length) && true then
                              bif decide ((0 : Nat) + v1.length ≤ v1.length) && true then
                                some (((1 : Int), false), r2.snd, List.take v0.length v0, List.take v1.length v1, v2)
                              else none
                            else none
                          else
                            bif r0.fst.snd != (0 : Int) then
                              bif decide ((0 : Nat) + v0.length ≤ v0.length) && true then
                                bif decide ((0 : Nat) + v1.length ≤ v1.length) && true then
                                  some (((1 : Int), false), r2.snd, List.take v0.length v0, List.take v1.length v1, v2)
                                else none
                              else none
                            else
                              bif decide ((0 : Nat) + v0.length ≤ v0.length) && true then
                                bif decide ((0 : Nat) + v1.length ≤ v1.length) && true then
                                  some (((0 : Int), false), r2.snd, List.take v0.length v0, List.take v1.length v1, v2)
                                else none
                              else none
                        else none
                      else none
            else none
          else none
theorem r10e (x22 : F22.FT) (x34 : F34.FT) (x24 : F24.FT) (x55 : F55.FT) (x28 : F28.FT) (x30 : F30.FT) (x31 : F31.FT) (x33 : F33.FT) (l25_1 : F25.G1) (l26_1 : F26.G1) (l29_1 : F29.G1) (kd : Unit) (d : (List (Int) × (List (Int × Int)) × Int × Bool) × (List (Int) × (List (Int × Int)) × Int)) : unitF (tabC Try.prog (tab x22 x34 x24 x55 x28 x30 x31 x33 l25_1 l26_1 l29_1) (pls x22 x34 x24 x55 x28 x30 x31 x33 l25_1 l26_1 l29_1) 100 12) 100 .none (u10 fun _ _ => none) (codeAt [1, 1, 0, 1, 0, 0, 1, 1, 0, 0, 1, 1, 1] (bodyOf Try.prog 4)) kd d = r10P x22 x34 x24 x55 x28 x30 x31 x33 l25_1 l26_1 l29_1 kd d := by kernel_rfl
noncomputable def r10 : G10 := r10P F22.f F34.f F24.f F55.f F28.f F30.f F31.f F33.f F25.l1 F26.l1 F29.l1
noncomputable def l10 : G10 := r10
theorem ok10 : UnOk Try.prog (u10 l10) (codeAt [1, 1, 0, 1, 0, 0, 1, 1, 0, 0, 1, 1, 1] (bodyOf Try.prog 4)) :=
  blockT (p := .none) (fuel := 100) (depth := 12) mixed tabS plsP trivial (fun kd d => r10e F22.f F34.f F24.f F55.f F28.f F30.f F31.f F33.f F25.l1 F26.l1 F29.l1 kd d)
def r11P (x22 : F22.FT) (x34 : F34.FT) (x24 : F24.FT) (x55 : F55.FT) (x28 : F28.FT) (x30 : F30.FT) (x31 : F31.FT) (x33 : F33.FT) (l25_1 : F25.G1) (l26_1 : F26.G1) (l29_1 : F29.G1) (l9 : G9) (l10 : G10) : ((List (Int × Int)) × Int) → ((List (Int) × (List (Int × Int)) × Int × Bool) × (List (Int) × (List (Int × Int)) × Int) × Int) → Option (((List (Int) × (List (Int × Int)) × Int × Bool) × (List (Int) × (List (Int × Int)) × Int) × Int) ⊕ ((Int × Bool) × ((List (Int) × (List (Int × Int)) × Int × Bool) × (List (Int) × (List (Int × Int)) × Int)))) := fun (t15, t16) ((w0, w1, w2, w3), (v0, v1, v2), t17) =>
    bif decide (t17 < t16) then
      bif decide ((0 : Int) ≤ t17 ∧ t17 < (↑t15.length : Int) ∧ (0 : Nat) < t15.length) then
        bif decide ((0 : Nat) + t17.toNat < t15.length) then
          bif t17 == (60 : Int) then some (Sum.inr (((0 : Int), false), (w0, w1, w2, w3), v0, v1, v2))
          else
            (l9
                  (((t15.getD ((0 : Nat) + t17.toNat) ((0 : Int), (0 : Int))).fst,
                      (t15.getD ((0 : Nat) + t17.toNat) ((0 : Int), (0 : Int))).snd),
                    (t15.getD ((0 : Nat) + t17.toNat) ((0 : Int), (0 : Int))).fst)
                  ((w0, w1, w2, w3), v0, v1, v2)).bind
              fun r0 =>
              (l10 PUnit.unit (r0.snd.fst, r0.snd.snd)).bind fun r1 =>
                bif decide (r1.fst.fst = (0 : Int)) then
                  some (Sum.inl (r1.snd.fst, r1.snd.snd, IntKind.i64.wrap (t17 + (1 : Int))))
                else
                  bif decide (r1.fst.fst = (1 : Int)) then
                    some (Sum.inr (((1 : Int), r1.fst.snd), r1.snd.fst, r1.snd.snd))
                  else none
        else none
      else none
    else some (Sum.inr (((0 : Int), false), (w0, w1, w2, w3), v0, v1, v2))
theorem r11e (x22 : F22.FT) (x34 : F34.FT) (x24 : F24.FT) (x55 : F55.FT) (x28 : F28.FT) (x30 : F30.FT) (x31 : F31.FT) (x33 : F33.FT) (l25_1 : F25.G1) (l26_1 : F26.G1) (l29_1 : F29.G1) (l9 : G9) (l10 : G10) (kd : (List (Int × Int)) × Int) (d : (List (Int) × (List (Int × Int)) × Int × Bool) × (List (Int) × (List (Int × Int)) × Int) × Int) : roundF (tabC Try.prog (tab x22 x34 x24 x55 x28 x30 x31 x33 l25_1 l26_1 l29_1) (pls x22 x34 x24 x55 x28 x30 x31 x33 l25_1 l26_1 l29_1) 100 12) 100 (.node .none (.node .none (.node (.node (.node .none (.node .none (.node (.node .none (.unit (u9 l9))) (.unit (u10 l10))))) .none) .none))) (u11 fun _ _ => none) (codeAt [1, 1, 0, 1, 0, 0] (bodyOf Try.prog 4)) kd d = r11P x22 x34 x24 x55 x28 x30 x31 x33 l25_1 l26_1 l29_1 l9 l10 kd d := by kernel_rfl
noncomputable def r11 : ((List (Int × Int)) × Int) → ((List (Int) × (List (Int × Int)) × Int × Bool) × (List (Int) × (List (Int × Int)) × Int) × Int) → Option (((List (Int) × (List (Int × Int)) × Int × Bool) × (List (Int) × (List (Int × Int)) × Int) × Int) ⊕ ((Int × Bool) × ((List (Int) × (List (Int × Int)) × Int × Bool) × (List (Int) × (List (Int × Int)) × Int)))) := r11P F22.f F34.f F24.f F55.f F28.f F30.f F31.f F33.f F25.l1 F26.l1 F29.l1 l9 l10
noncomputable def l11 : G11 := fun kd d => iterO (r11 kd) d
theorem ok11 : UnOk Try.prog (u11 l11) (codeAt [1, 1, 0, 1, 0] (bodyOf Try.prog 4)) :=
  loopT (p := (.node .none (.node .none (.node (.node (.node .none (.node .none (.node (.node .none (.unit (u9 l9))) (.unit (u10 l10))))) .none) .none)))) (c := codeAt [1, 1, 0, 1, 0, 0] (bodyOf Try.prog 4)) (fuel := 100) (depth := 12) mixed tabS plsP (by kernel_rfl) (planOk_of (.node .none (.node .none (.node (.node (.node .none (.node .none (.node (.node .none (.unit (u9 l9))) (.unit (u10 l10))))) .none) .none))) _ [([1, 1, 0, 0, 1, 1, 0, 1], u9 l9), ([1, 1, 0, 0, 1, 1, 1], u10 l10)] rfl ⟨ok9, ok10, trivial⟩) (by kernel_rfl) (fun kd d => r11e F22.f F34.f F24.f F55.f F28.f F30.f F31.f F33.f F25.l1 F26.l1 F29.l1 l9 l10 kd d) rfl
def fP (x22 : F22.FT) (x34 : F34.FT) (x24 : F24.FT) (x55 : F55.FT) (x28 : F28.FT) (x30 : F30.FT) (x31 : F31.FT) (x33 : F33.FT) (l25_1 : F25.G1) (l26_1 : F26.G1) (l29_1 : F29.G1) (l11 : G11) : FT := fun l =>
    (x22 PUnit.unit).bind fun r0 =>
      bif decide ((0 : Nat) + l.length ≤ l.length) && true then
        (l11 (List.take l.length l, (↑l.length : Int)) (r0.fst, ([], [], (0 : Int)), (0 : Int))).bind fun r1 =>
          bif decide (r1.fst.fst = (0 : Int)) then some (true, PUnit.unit)
          else bif decide (r1.fst.fst = (1 : Int)) then some (r1.fst.snd, PUnit.unit) else none
      else none
theorem fe (x22 : F22.FT) (x34 : F34.FT) (x24 : F24.FT) (x55 : F55.FT) (x28 : F28.FT) (x30 : F30.FT) (x31 : F31.FT) (x33 : F33.FT) (l25_1 : F25.G1) (l26_1 : F26.G1) (l29_1 : F29.G1) (l11 : G11) (d : (List (Int × Int))) : bodyF (tabC Try.prog (tab x22 x34 x24 x55 x28 x30 x31 x33 l25_1 l26_1 l29_1) ((4, (.node .none (.node .none (.node (.node .none (.node (.unit (u11 l11)) .none)) .none)))) :: pls x22 x34 x24 x55 x28 x30 x31 x33 l25_1 l26_1 l29_1) 100 12) 100 4 i o d = fP x22 x34 x24 x55 x28 x30 x31 x33 l25_1 l26_1 l29_1 l11 d := by kernel_rfl
noncomputable def f : FT := fP F22.f F34.f F24.f F55.f F28.f F30.f F31.f F33.f F25.l1 F26.l1 F29.l1 l11
def plan (l11 : G11) : Plan := (.node .none (.node .none (.node (.node .none (.node (.unit (u11 l11)) .none)) .none)))
theorem planOk : PlanOk Try.prog (plan l11) (bodyOf Try.prog 4) := (planOk_of (plan l11) _ [([1, 1, 0, 1, 0], u11 l11)] rfl ⟨ok11, trivial⟩)
theorem meets : MeetsF Try.prog 4 ⟨i, o, f⟩ :=
  funcT (fuel := 100) (depth := 12) (pl := (4, plan l11) :: pls F22.f F34.f F24.f F55.f F28.f F30.f F31.f F33.f F25.l1 F26.l1 F29.l1) mixed tabS ⟨planOk, plsP⟩ (fun d => fe F22.f F34.f F24.f F55.f F28.f F30.f F31.f F33.f F25.l1 F26.l1 F29.l1 l11 d)
theorem spec : SpecOk Try.prog (fun _ => none) 4 (specF ⟨i, o, f⟩) := specF_ok (by kernel_rfl) meets
end Go.Proofs.Ytkleakkhbfdipaa.F4
