/- What comes of function 5 of this program, consulate.consulatelaw21.ChooseTells, as the engine gives it. -/
import Derived.Test.YtaniibilgdhdiaaDoorChecked
import Derived.Test.YtaniibilgdhdiaaDoorZO
import Derived.Test.YtaniibilgdhdiaaDoorX1
import Derived.Test.YtaniibilgdhdiaaDoorX2
namespace Go.Proofs.YtaniibilgdhdiaaDoor.F5
open Go Go.Proofs Go.Proofs.YtaniibilgdhdiaaDoor Go.RowKit Go.Proofs.YtaniibilgdhdiaaDoor.Sx
set_option linter.unusedVariables false
set_option maxRecDepth 100000
def tab (x7 : F7.FT) (x13 : F13.FT) (x12 : F12.FT) (x8 : F8.FT) (x14 : F14.FT) (x15 : F15.FT) (x16 : F16.FT) (x17 : F17.FT) (x10 : F10.FT) (x18 : F18.FT) (x11 : F11.FT) (x19 : F19.FT) : List (FuncId × Sx.Spec) := [(7, specF ⟨F7.i, F7.o, x7⟩), (13, specF ⟨F13.i, F13.o, x13⟩), (12, specF ⟨F12.i, F12.o, x12⟩), (8, specF ⟨F8.i, F8.o, x8⟩), (14, specF ⟨F14.i, F14.o, x14⟩), (15, specF ⟨F15.i, F15.o, x15⟩), (16, specF ⟨F16.i, F16.o, x16⟩), (17, specF ⟨F17.i, F17.o, x17⟩), (10, specF ⟨F10.i, F10.o, x10⟩), (18, specF ⟨F18.i, F18.o, x18⟩), (11, specF ⟨F11.i, F11.o, x11⟩), (19, specF ⟨F19.i, F19.o, x19⟩), (9, pureS saysS)]
def pls (x7 : F7.FT) (x13 : F13.FT) (x12 : F12.FT) (x8 : F8.FT) (x14 : F14.FT) (x15 : F15.FT) (x16 : F16.FT) (x17 : F17.FT) (x10 : F10.FT) (x18 : F18.FT) (x11 : F11.FT) (x19 : F19.FT) : List (FuncId × Plan) := []
@[reducible] def k1 : Sh := .pt true 26 (.sc (.int .u32) (.sc (.int .i64) (.sc (.int .u8) (.sc (.int .u32) (.sc (.int .u32) (.sc (.int .i64) (.sc (.int .i64) (.sc (.int .u32) (.sc (.int .i64) .nil))))))))) (.pt true 26 (.sc (.int .u32) (.sc (.int .i64) (.sc (.int .u8) (.sc (.int .u32) (.sc (.int .u32) (.sc (.int .i64) (.sc (.int .i64) (.sc (.int .u32) (.sc (.int .i64) .nil))))))))) (.sc .bool .nil))
@[reducible] def i1 : Sh := .nil
@[reducible] def o1 : Sh := .sc (.int .i64) (.sc (.int .i64) .nil)
abbrev G1 := ((Int × Int × Int × Int × Int × Int × Int × Int × Int) × (Int × Int × Int × Int × Int × Int × Int × Int × Int) × Bool) → Unit → Option ((Int × Int) × Unit)
def u1 (F : G1) : Un := ⟨104, [3, 4, 8], k1, [], i1, [9, 10], o1, [2, 3, 4, 8, 17, 18], [(.normal, [true, true])], F⟩
@[reducible] def k2 : Sh := .pt true 26 (.sc (.int .u32) (.sc (.int .i64) (.sc (.int .u8) (.sc (.int .u32) (.sc (.int .u32) (.sc (.int .i64) (.sc (.int .i64) (.sc (.int .u32) (.sc (.int .i64) .nil))))))))) (.pt true 26 (.sc (.int .u32) (.sc (.int .i64) (.sc (.int .u8) (.sc (.int .u32) (.sc (.int .u32) (.sc (.int .i64) (.sc (.int .i64) (.sc (.int .u32) (.sc (.int .i64) .nil))))))))) (.sc .bool .nil))
@[reducible] def i2 : Sh := .nil
@[reducible] def o2 : Sh := .sc (.int .i64) (.sc (.int .i64) .nil)
abbrev G2 := ((Int × Int × Int × Int × Int × Int × Int × Int × Int) × (Int × Int × Int × Int × Int × Int × Int × Int × Int) × Bool) → Unit → Option ((Int × Int) × Unit)
def u2 (F : G2) : Un := ⟨104, [3, 4, 8], k2, [], i2, [11, 12], o2, [2, 3, 4, 9, 10, 17, 18], [(.normal, [true, true])], F⟩
@[reducible] def k3 : Sh := .sc (.int .i64) (.sc (.int .i64) (.sc (.int .i64) (.sc (.int .i64) .nil)))
@[reducible] def i3 : Sh := .nil
@[reducible] def o3 : Sh := .sc .bool .nil
abbrev G3 := (Int × Int × Int × Int) → Unit → Option (Bool × Unit)
def u3 (F : G3) : Un := ⟨104, [9, 10, 11, 12], k3, [], i3, [51], o3, [2, 3, 4, 17, 18], [(.normal, [true])], F⟩
@[reducible] def k4 : Sh := .pt true 26 (.sc (.int .u32) (.sc (.int .i64) (.sc (.int .u8) (.sc (.int .u32) (.sc (.int .u32) (.sc (.int .i64) (.sc (.int .i64) (.sc (.int .u32) (.sc (.int .i64) .nil))))))))) .nil
@[reducible] def i4 : Sh := .sl true 41 (.sc (.int .u32) (.sc (.int .i64) (.sc (.int .i64) (.sc (.int .u32) (.sc (.int .u32) (.sc (.int .i64) (.sc (.int .i64) (.sc (.int .u32) (.sc (.int .i64) .nil))))))))) .nil
@[reducible] def o4 : Sh := .sl true 41 (.sc (.int .u32) (.sc (.int .i64) (.sc (.int .i64) (.sc (.int .u32) (.sc (.int .u32) (.sc (.int .i64) (.sc (.int .i64) (.sc (.int .u32) (.sc (.int .i64) .nil))))))))) .nil
abbrev G4 := ((Int × Int × Int × Int × Int × Int × Int × Int × Int)) → ((List (Int × Int × Int × Int × Int × Int × Int × Int × Int))) → Option (((List (Int × Int × Int × Int × Int × Int × Int × Int × Int))) × Unit)
def u4 (F : G4) : Un := ⟨104, [16], k4, [14], i4, [14], o4, [2, 3, 13, 60, 61, 62], [(.normal, [true])], F⟩
@[reducible] def k5 : Sh := .sl false 26 (.sc (.int .u32) (.sc (.int .i64) (.sc (.int .u8) (.sc (.int .u32) (.sc (.int .u32) (.sc (.int .i64) (.sc (.int .i64) (.sc (.int .u32) (.sc (.int .i64) .nil))))))))) (.sc (.int .i64) .nil)
@[reducible] def i5 : Sh := .sl true 41 (.sc (.int .u32) (.sc (.int .i64) (.sc (.int .i64) (.sc (.int .u32) (.sc (.int .u32) (.sc (.int .i64) (.sc (.int .i64) (.sc (.int .u32) (.sc (.int .i64) .nil))))))))) (.sc (.int .i64) .nil)
@[reducible] def o5 : Sh := .sl true 41 (.sc (.int .u32) (.sc (.int .i64) (.sc (.int .i64) (.sc (.int .u32) (.sc (.int .u32) (.sc (.int .i64) (.sc (.int .i64) (.sc (.int .u32) (.sc (.int .i64) .nil))))))))) .nil
abbrev G5 := ((List (Int × Int × Int × Int × Int × Int × Int × Int × Int)) × Int) → ((List (Int × Int × Int × Int × Int × Int × Int × Int × Int)) × Int) → Option (((List (Int × Int × Int × Int × Int × Int × Int × Int × Int))) × Unit)
def u5 (F : G5) : Un := ⟨104, [60, 61], k5, [14, 62], i5, [14], o5, [2, 3, 13, 60, 61], [(.exit 2, [true])], F⟩
@[reducible] def k6 : Sh := .sl false 26 (.sc (.int .u32) (.sc (.int .i64) (.sc (.int .u8) (.sc (.int .u32) (.sc (.int .u32) (.sc (.int .i64) (.sc (.int .i64) (.sc (.int .u32) (.sc (.int .i64) .nil))))))))) (.pt true 26 (.sc (.int .u32) (.sc (.int .i64) (.sc (.int .u8) (.sc (.int .u32) (.sc (.int .u32) (.sc (.int .i64) (.sc (.int .i64) (.sc (.int .u32) (.sc (.int .i64) .nil))))))))) .nil)
@[reducible] def i6 : Sh := .sl true 26 (.sc (.int .u32) (.sc (.int .i64) (.sc (.int .u8) (.sc (.int .u32) (.sc (.int .u32) (.sc (.int .i64) (.sc (.int .i64) (.sc (.int .u32) (.sc (.int .i64) .nil))))))))) (.sl true 41 (.sc (.int .u32) (.sc (.int .i64) (.sc (.int .i64) (.sc (.int .u32) (.sc (.int .u32) (.sc (.int .i64) (.sc (.int .i64) (.sc (.int .u32) (.sc (.int .i64) .nil))))))))) .nil)
@[reducible] def o6 : Sh := .sc .bool .nil
abbrev G6 := ((List (Int × Int × Int × Int × Int × Int × Int × Int × Int)) × (Int × Int × Int × Int × Int × Int × Int × Int × Int)) → ((List (Int × Int × Int × Int × Int × Int × Int × Int × Int)) × (List (Int × Int × Int × Int × Int × Int × Int × Int × Int))) → Option (Bool × Unit)
def u6 (F : G6) : Un := ⟨104, [2, 3], k6, [13, 14], i6, [6], o6, [], [(.normal, [true])], F⟩
@[reducible] def i : Sh := .ag none (.sc (.int .u32) (.sc (.int .i64) (.sc (.int .u8) (.sc (.int .u32) (.sc (.int .u32) (.sc (.int .i64) (.sc (.int .i64) (.sc (.int .u32) (.sc (.int .i64) .nil))))))))) (.ag none (.sc (.int .u32) (.sc (.int .i64) (.sc (.int .u8) (.sc (.int .u32) (.sc (.int .u32) (.sc (.int .i64) (.sc (.int .i64) (.sc (.int .u32) (.sc (.int .i64) .nil))))))))) (.sl false 26 (.sc (.int .u32) (.sc (.int .i64) (.sc (.int .u8) (.sc (.int .u32) (.sc (.int .u32) (.sc (.int .i64) (.sc (.int .i64) (.sc (.int .u32) (.sc (.int .i64) .nil))))))))) .nil))
@[reducible] def o : Sh := .sc .bool .nil
abbrev FT := ((Int × Int × Int × Int × Int × Int × Int × Int × Int) × (Int × Int × Int × Int × Int × Int × Int × Int × Int) × (List (Int × Int × Int × Int × Int × Int × Int × Int × Int))) → Option (Bool × Unit)
theorem tabS : AllS Tryd.prog (tab F7.f F13.f F12.f F8.f F14.f F15.f F16.f F17.f F10.f F18.f F11.f F19.f) := ⟨F7.spec, F13.spec, F12.spec, F8.spec, F14.spec, F15.spec, F16.spec, F17.spec, F10.spec, F18.spec, F11.spec, F19.spec, says_ok (by kernel_rfl) KA.tells, trivial⟩
theorem plsP : AllP Tryd.prog (pls F7.f F13.f F12.f F8.f F14.f F15.f F16.f F17.f F10.f F18.f F11.f F19.f) := trivial
theorem mixed : Tryd.prog.follows .mixedOrders = true := by kernel_rfl
def r1P (x7 : F7.FT) (x13 : F13.FT) (x12 : F12.FT) (x8 : F8.FT) (x14 : F14.FT) (x15 : F15.FT) (x16 : F16.FT) (x17 : F17.FT) (x10 : F10.FT) (x18 : F18.FT) (x11 : F11.FT) (x19 : F19.FT) : G1 := fun ((a0, a1, a2, a3, a4, a5, a6, a7, a8), (b0, b1, b2, b3, b4, b5, b6, b7, b8), med) () =>
    (x7 ((a0, a1, a2, a3, a4, a5, a6, a7, a8), (b0, b1, b2, b3, b4, b5, b6, b7, b8), med)).bind fun r0 =>
      some ((r0.fst.fst, r0.fst.snd), PUnit.unit)
theorem r1e (x7 : F7.FT) (x13 : F13.FT) (x12 : F12.FT) (x8 : F8.FT) (x14 : F14.FT) (x15 : F15.FT) (x16 : F16.FT) (x17 : F17.FT) (x10 : F10.FT) (x18 : F18.FT) (x11 : F11.FT) (x19 : F19.FT) (kd : (Int × Int × Int × Int × Int × Int × Int × Int × Int) × (Int × Int × Int × Int × Int × Int × Int × Int × Int) × Bool) (d : Unit) : unitF (tabC Tryd.prog (tab x7 x13 x12 x8 x14 x15 x16 x17 x10 x18 x11 x19) (pls x7 x13 x12 x8 x14 x15 x16 x17 x10 x18 x11 x19) 100 10) 100 .none (u1 fun _ _ => none) (codeAt [1, 0, 1, 0, 0, 1, 1, 0, 0, 1, 0] (bodyOf Tryd.prog 5)) kd d = r1P x7 x13 x12 x8 x14 x15 x16 x17 x10 x18 x11 x19 kd d := by kernel_rfl
noncomputable def r1 : G1 := r1P F7.f F13.f F12.f F8.f F14.f F15.f F16.f F17.f F10.f F18.f F11.f F19.f
noncomputable def l1 : G1 := r1
theorem ok1 : UnOk Tryd.prog (u1 l1) (codeAt [1, 0, 1, 0, 0, 1, 1, 0, 0, 1, 0] (bodyOf Tryd.prog 5)) :=
  blockT (p := .none) (fuel := 100) (depth := 10) mixed tabS plsP trivial (fun kd d => Eq.trans (by kernel_rfl) ( r1e F7.f F13.f F12.f F8.f F14.f F15.f F16.f F17.f F10.f F18.f F11.f F19.f kd d))
def r2P (x7 : F7.FT) (x13 : F13.FT) (x12 : F12.FT) (x8 : F8.FT) (x14 : F14.FT) (x15 : F15.FT) (x16 : F16.FT) (x17 : F17.FT) (x10 : F10.FT) (x18 : F18.FT) (x11 : F11.FT) (x19 : F19.FT) : G2 := fun ((a0, a1, a2, a3, a4, a5, a6, a7, a8), (b0, b1, b2, b3, b4, b5, b6, b7, b8), med) () =>
    (x13 (a0, a1, a2, a3, a4, a5, a6, a7, a8)).bind fun r0 =>
      (x13 (b0, b1, b2, b3, b4, b5, b6, b7, b8)).bind fun r1 =>
       (x12
       ((r0.fst.fst, r0.fst.snd.fst, r0.fst.snd.snd.fst, r0.fst.snd.snd.snd.fst, r0.fst.snd.snd.snd.snd.fst,
       r0.fst.snd.snd.snd.snd.snd.fst, r0.fst.snd.snd.snd.snd.snd.snd.fst,
       r0.fst.snd.snd.snd.snd.snd.snd.snd.fst, r0.fst.snd.snd.snd.snd.snd.snd.snd.snd),
       (r1.fst.fst, r1.fst.snd.fst, r1.fst.snd.snd.fst, r1.fst.snd.snd.snd.fst, r1.fst.snd.snd.snd.snd.fst,
       r1.fst.snd.snd.snd.snd.snd.fst, r1.fst.snd.snd.snd.snd.snd.snd.fst,
       r1.fst.snd.snd.snd.snd.snd.snd.snd.fst, r1.fst.snd.snd.snd.snd.snd.snd.snd.snd),
       med)).bind
       fun r2 => some ((r2.fst.fst, r2.fst.snd), PUnit.unit)
theorem r2e (x7 : F7.FT) (x13 : F13.FT) (x12 : F12.FT) (x8 : F8.FT) (x14 : F14.FT) (x15 : F15.FT) (x16 : F16.FT) (x17 : F17.FT) (x10 : F10.FT) (x18 : F18.FT) (x11 : F11.FT) (x19 : F19.FT) (kd : (Int × Int × Int × Int × Int × Int × Int × Int × Int) × (Int × Int × Int × Int × Int × Int × Int × Int × Int) × Bool) (d : Unit) : unitF (tabC Tryd.prog (tab x7 x13 x12 x8 x14 x15 x16 x17 x10 x18 x11 x19) (pls x7 x13 x12 x8 x14 x15 x16 x17 x10 x18 x11 x19) 100 10) 100 .none (u2 fun _ _ => none) (codeAt [1, 0, 1, 0, 0, 1, 1, 0, 0, 1, 1, 0] (bodyOf Tryd.prog 5)) kd d = r2P x7 x13 x12 x8 x14 x15 x16 x17 x10 x18 x11 x19 kd d := by kernel_rfl
noncomputable def r2 : G2 := r2P F7.f F13.f F12.f F8.f F14.f F15.f F16.f F17.f F10.f F18.f F11.f F19.f
noncomputable def l2 : G2 := r2
theorem ok2 : UnOk Tryd.prog (u2 l2) (codeAt [1, 0, 1, 0, 0, 1, 1, 0, 0, 1, 1, 0] (bodyOf Tryd.prog 5)) :=
  blockT (p := .none) (fuel := 100) (depth := 10) mixed tabS plsP trivial (fun kd d => Eq.trans (by kernel_rfl) ( r2e F7.f F13.f F12.f F8.f F14.f F15.f F16.f F17.f F10.f F18.f F11.f F19.f kd d))
def r3P (x7 : F7.FT) (x13 : F13.FT) (x12 : F12.FT) (x8 : F8.FT) (x14 : F14.FT) (x15 : F15.FT) (x16 : F16.FT) (x17 : F17.FT) (x10 : F10.FT) (x18 : F18.FT) (x11 : F11.FT) (x19 : F19.FT) : G3 := fun (x, y, u, v) () =>
    bif x != u then some (true, PUnit.unit)
    else
      bif y != v then some (true, PUnit.unit)
      else
       (x8 y).bind fun r0 =>
       (x14 v).bind fun r1 => some (!ByteArray.toList r0.fst == ByteArray.toList r1.fst, PUnit.unit)
theorem r3e (x7 : F7.FT) (x13 : F13.FT) (x12 : F12.FT) (x8 : F8.FT) (x14 : F14.FT) (x15 : F15.FT) (x16 : F16.FT) (x17 : F17.FT) (x10 : F10.FT) (x18 : F18.FT) (x11 : F11.FT) (x19 : F19.FT) (kd : Int × Int × Int × Int) (d : Unit) : unitF (tabC Tryd.prog (tab x7 x13 x12 x8 x14 x15 x16 x17 x10 x18 x11 x19) (pls x7 x13 x12 x8 x14 x15 x16 x17 x10 x18 x11 x19) 100 10) 100 .none (u3 fun _ _ => none) (codeAt [1, 0, 1, 0, 0, 1, 1, 0, 0, 1, 1, 1, 0] (bodyOf Tryd.prog 5)) kd d = r3P x7 x13 x12 x8 x14 x15 x16 x17 x10 x18 x11 x19 kd d := by kernel_rfl
noncomputable def r3 : G3 := r3P F7.f F13.f F12.f F8.f F14.f F15.f F16.f F17.f F10.f F18.f F11.f F19.f
noncomputable def l3 : G3 := r3
theorem ok3 : UnOk Tryd.prog (u3 l3) (codeAt [1, 0, 1, 0, 0, 1, 1, 0, 0, 1, 1, 1, 0] (bodyOf Tryd.prog 5)) :=
  blockT (p := .none) (fuel := 100) (depth := 10) mixed tabS plsP trivial (fun kd d => Eq.trans (by kernel_rfl) ( r3e F7.f F13.f F12.f F8.f F14.f F15.f F16.f F17.f F10.f F18.f F11.f F19.f kd d))
def r4P (x7 : F7.FT) (x13 : F13.FT) (x12 : F12.FT) (x8 : F8.FT) (x14 : F14.FT) (x15 : F15.FT) (x16 : F16.FT) (x17 : F17.FT) (x10 : F10.FT) (x18 : F18.FT) (x11 : F11.FT) (x19 : F19.FT) : G4 := fun (c0, c1, c2, c3, c4, c5, c6, c7, c8) w =>
    (x13 (c0, c1, c2, c3, c4, c5, c6, c7, c8)).bind fun r0 =>
      bif decide (w.length + (9 : Nat) / OfNat.ofNat (9 : Nat) ≤ (1073741824 : Nat)) then
       bif decide ((0 : Nat) + w.length ≤ w.length) then
       bif
       decide
       ((0 : Nat) + (w.length + (9 : Nat) / OfNat.ofNat (9 : Nat)) ≤
       (List.take w.length w ++
       [(r0.fst.fst, r0.fst.snd.fst, r0.fst.snd.snd.fst, r0.fst.snd.snd.snd.fst,
       r0.fst.snd.snd.snd.snd.fst, r0.fst.snd.snd.snd.snd.snd.fst,
       r0.fst.snd.snd.snd.snd.snd.snd.fst, r0.fst.snd.snd.snd.snd.snd.snd.snd.fst,
       r0.fst.snd.snd.snd.snd.snd.snd.snd.snd)]).length) &&
       true then
       some
       (List.take (w.length + (9 : Nat) / OfNat.ofNat (9 : Nat))
       (List.drop (0 : Nat)
       (List.take w.length w ++
       [(r0.fst.fst, r0.fst.snd.fst, r0.fst.snd.snd.fst, r0.fst.snd.snd.snd.fst,
       r0.fst.snd.snd.snd.snd.fst, r0.fst.snd.snd.snd.snd.snd.fst, r0.fst.snd.snd.snd.snd.snd.snd.fst,
       r0.fst.snd.snd.snd.snd.snd.snd.snd.fst, r0.fst.snd.snd.snd.snd.snd.snd.snd.snd)])),
       PUnit.unit)
       else none
       else none
      else none
theorem r4e (x7 : F7.FT) (x13 : F13.FT) (x12 : F12.FT) (x8 : F8.FT) (x14 : F14.FT) (x15 : F15.FT) (x16 : F16.FT) (x17 : F17.FT) (x10 : F10.FT) (x18 : F18.FT) (x11 : F11.FT) (x19 : F19.FT) (kd : (Int × Int × Int × Int × Int × Int × Int × Int × Int)) (d : (List (Int × Int × Int × Int × Int × Int × Int × Int × Int))) : unitF (tabC Tryd.prog (tab x7 x13 x12 x8 x14 x15 x16 x17 x10 x18 x11 x19) (pls x7 x13 x12 x8 x14 x15 x16 x17 x10 x18 x11 x19) 100 10) 100 .none (u4 fun _ _ => none) (codeAt [1, 1, 1, 1, 1, 0, 1, 0, 0, 1, 1, 0, 0, 1] (bodyOf Tryd.prog 5)) kd d = r4P x7 x13 x12 x8 x14 x15 x16 x17 x10 x18 x11 x19 kd d := by kernel_rfl
noncomputable def r4 : G4 := r4P F7.f F13.f F12.f F8.f F14.f F15.f F16.f F17.f F10.f F18.f F11.f F19.f
noncomputable def l4 : G4 := r4
theorem ok4 : UnOk Tryd.prog (u4 l4) (codeAt [1, 1, 1, 1, 1, 0, 1, 0, 0, 1, 1, 0, 0, 1] (bodyOf Tryd.prog 5)) :=
  blockT (p := .none) (fuel := 100) (depth := 10) mixed tabS plsP trivial (fun kd d => Eq.trans (by kernel_rfl) ( r4e F7.f F13.f F12.f F8.f F14.f F15.f F16.f F17.f F10.f F18.f F11.f F19.f kd d))
def r5P (x7 : F7.FT) (x13 : F13.FT) (x12 : F12.FT) (x8 : F8.FT) (x14 : F14.FT) (x15 : F15.FT) (x16 : F16.FT) (x17 : F17.FT) (x10 : F10.FT) (x18 : F18.FT) (x11 : F11.FT) (x19 : F19.FT) (l4 : G4) : ((List (Int × Int × Int × Int × Int × Int × Int × Int × Int)) × Int) → ((List (Int × Int × Int × Int × Int × Int × Int × Int × Int)) × Int) → Option (((List (Int × Int × Int × Int × Int × Int × Int × Int × Int)) × Int) ⊕ (((List (Int × Int × Int × Int × Int × Int × Int × Int × Int))) × Unit)) := fun (t60, t61) (w, t62) =>
    bif decide (t62 < t61) then
      bif decide ((0 : Int) ≤ t62 ∧ t62 < (↑t60.length : Int) ∧ (0 : Nat) < t60.length) then
       bif decide ((0 : Nat) + t62.toNat < t60.length) then
       bif decide ((0 : Nat) + w.length ≤ w.length) && true then
       (l4
       ((t60.getD ((0 : Nat) + t62.toNat)
       ((0 : Int), (0 : Int), (0 : Int), (0 : Int), (0 : Int), (0 : Int), (0 : Int), (0 : Int),
       (0 : Int))).fst,
       (t60.getD ((0 : Nat) + t62.toNat)
       ((0 : Int), (0 : Int), (0 : Int), (0 : Int), (0 : Int), (0 : Int), (0 : Int), (0 : Int),
       (0 : Int))).snd.fst,
       (t60.getD ((0 : Nat) + t62.toNat)
       ((0 : Int), (0 : Int), (0 : Int), (0 : Int), (0 : Int), (0 : Int), (0 : Int), (0 : Int),
       (0 : Int))).snd.snd.fst,
       (t60.getD ((0 : Nat) + t62.toNat)
       ((0 : Int), (0 : Int), (0 : Int), (0 : Int), (0 : Int), (0 : Int), (0 : Int), (0 : Int),
       (0 : Int))).snd.snd.snd.fst,
       (t60.getD ((0 : Nat) + t62.toNat)
       ((0 : Int), (0 : Int), (0 : Int), (0 : Int), (0 : Int), (0 : Int), (0 : Int), (0 : Int),
       (0 : Int))).snd.snd.snd.snd.fst,
       (t60.getD ((0 : Nat) + t62.toNat)
       ((0 : Int), (0 : Int), (0 : Int), (0 : Int), (0 : Int), (0 : Int), (0 : Int), (0 : Int),
       (0 : Int))).snd.snd.snd.snd.snd.fst,
       (t60.getD ((0 : Nat) + t62.toNat)
       ((0 : Int), (0 : Int), (0 : Int), (0 : Int), (0 : Int), (0 : Int), (0 : Int),
       (0 : Int), (0 : Int))).snd.snd.snd.snd.snd.snd.fst,
       (t60.getD ((0 : Nat) + t62.toNat)
       ((0 : Int), (0 : Int), (0 : Int), (0 : Int), (0 : Int), (0 : Int), (0 : Int),
       (0 : Int), (0 : Int))).snd.snd.snd.snd.snd.snd.snd.fst,
       (t60.getD ((0 : Nat) + t62.toNat)
       ((0 : Int), (0 : Int), (0 : Int), (0 : Int), (0 : Int), (0 : Int), (0 : Int),
       (0 : Int), (0 : Int))).snd.snd.snd.snd.snd.snd.snd.snd)
       (List.take w.length w)).bind
       fun r0 =>
       bif decide ((0 : Nat) + List.length r0.fst ≤ List.length r0.fst) && true then
       some
       (Sum.inl
       (List.take (List.length r0.fst) (List.drop (0 : Nat) r0.fst), IntKind.i64.wrap (t62 + (1 : Int))))
       else none
       else none
       else none
      else none
    else
      bif decide ((0 : Nat) + w.length ≤ w.length) && true then some (Sum.inr (List.take w.length w, PUnit.unit))
      else none
theorem r5e (x7 : F7.FT) (x13 : F13.FT) (x12 : F12.FT) (x8 : F8.FT) (x14 : F14.FT) (x15 : F15.FT) (x16 : F16.FT) (x17 : F17.FT) (x10 : F10.FT) (x18 : F18.FT) (x11 : F11.FT) (x19 : F19.FT) (l4 : G4) (kd : (List (Int × Int × Int × Int × Int × Int × Int × Int × Int)) × Int) (d : (List (Int × Int × Int × Int × Int × Int × Int × Int × Int)) × Int) : roundF (tabC Tryd.prog (tab x7 x13 x12 x8 x14 x15 x16 x17 x10 x18 x11 x19) (pls x7 x13 x12 x8 x14 x15 x16 x17 x10 x18 x11 x19) 100 10) 100 (.node .none (.node .none (.node (.node (.node .none (.unit (u4 l4))) .none) .none))) (u5 fun _ _ => none) (codeAt [1, 1, 1, 1, 1, 0, 1, 0, 0] (bodyOf Tryd.prog 5)) kd d = r5P x7 x13 x12 x8 x14 x15 x16 x17 x10 x18 x11 x19 l4 kd d := by kernel_rfl
noncomputable def r5 : ((List (Int × Int × Int × Int × Int × Int × Int × Int × Int)) × Int) → ((List (Int × Int × Int × Int × Int × Int × Int × Int × Int)) × Int) → Option (((List (Int × Int × Int × Int × Int × Int × Int × Int × Int)) × Int) ⊕ (((List (Int × Int × Int × Int × Int × Int × Int × Int × Int))) × Unit)) := r5P F7.f F13.f F12.f F8.f F14.f F15.f F16.f F17.f F10.f F18.f F11.f F19.f l4
noncomputable def l5 : G5 := fun kd d => iterO (r5 kd) d
theorem ok5 : UnOk Tryd.prog (u5 l5) (codeAt [1, 1, 1, 1, 1, 0, 1, 0] (bodyOf Tryd.prog 5)) :=
  loopT (p := (.node .none (.node .none (.node (.node (.node .none (.unit (u4 l4))) .none) .none)))) (c := codeAt [1, 1, 1, 1, 1, 0, 1, 0, 0] (bodyOf Tryd.prog 5)) (fuel := 100) (depth := 10) mixed tabS plsP (by kernel_rfl) (planOk_of (.node .none (.node .none (.node (.node (.node .none (.unit (u4 l4))) .none) .none))) _ [([1, 1, 0, 0, 1], u4 l4)] rfl ⟨ok4, trivial⟩) (by kernel_rfl) (fun kd d => r5e F7.f F13.f F12.f F8.f F14.f F15.f F16.f F17.f F10.f F18.f F11.f F19.f l4 kd d) rfl
def r6P (x7 : F7.FT) (x13 : F13.FT) (x12 : F12.FT) (x8 : F8.FT) (x14 : F14.FT) (x15 : F15.FT) (x16 : F16.FT) (x17 : F17.FT) (x10 : F10.FT) (x18 : F18.FT) (x11 : F11.FT) (x19 : F19.FT) : G6 := fun (l, (a0, a1, a2, a3, a4, a5, a6, a7, a8)) (own, w) =>
    bif decide ((0 : Nat) + own.length ≤ own.length) && true then
      (x16 (List.take own.length own)).bind fun r0 =>
       bif
       decide
       ((0 : Int) ≤ (↑w.length : Int) ∧
       (↑w.length : Int) ≤ (↑w.length : Int) ∧
       (↑w.length : Int) ≤ (1073741824 : Int) ∧
       (↑(OfNat.ofNat (1 : Nat)) : Int) * (↑w.length : Int) ≤ (281474976710656 : Int)) then
       bif decide ((0 : Nat) + w.length ≤ w.length) && true then
       bif
       decide ((0 : Nat) + (↑w.length : Int).toNat ≤ (List.replicate (↑w.length : Int).toNat false).length) &&
       true then
       (x17
       (List.take w.length w,
       List.take (↑w.length : Int).toNat
       (List.drop (0 : Nat) (List.replicate (↑w.length : Int).toNat false)))).bind
       fun r1 =>
       bif r0.fst == r1.fst then
       bif decide ((0 : Nat) + own.length ≤ own.length) && true then
       (x10 (List.take own.length own)).bind fun r2 =>
       bif decide ((0 : Nat) + w.length ≤ w.length) && true then
       (x18 (List.take w.length w)).bind fun r3 =>
       bif decide ((0 : Nat) + List.length r2.fst ≤ List.length r2.fst) && true then
       bif decide ((0 : Nat) + List.length r3.fst ≤ List.length r3.fst) && true then
       (x11
       (List.take (List.length r2.fst) (List.drop (0 : Nat) r2.fst),
       List.take (List.length r3.fst) (List.drop (0 : Nat) r3.fst))).bind
       fun r4 =>
       bif r4.fst then
       bif decide ((0 : Nat) + own.length ≤ own.length) && true then
       bif decide ((0 : Nat) + l.length ≤ l.length) && true then
       (x19 (List.take own.length own, List.take l.length l)).bind fun r5 =>
       bif r5.fst then
       (x8 a1).bind fun r6 =>
       (x14 a1).bind fun r7 =>
       bif ByteArray.toList r6.fst == ByteArray.toList r7.fst then
       some (true, PUnit.unit)
       else some (false, PUnit.unit)
       else some (false, PUnit.unit)
       else none
       else none
       else some (false, PUnit.unit)
       else none
       else none
       else none
       else none
       else some (false, PUnit.unit)
       else none
       else none
       else none
    else none
theorem r6e (x7 : F7.FT) (x13 : F13.FT) (x12 : F12.FT) (x8 : F8.FT) (x14 : F14.FT) (x15 : F15.FT) (x16 : F16.FT) (x17 : F17.FT) (x10 : F10.FT) (x18 : F18.FT) (x11 : F11.FT) (x19 : F19.FT) (kd : (List (Int × Int × Int × Int × Int × Int × Int × Int × Int)) × (Int × Int × Int × Int × Int × Int × Int × Int × Int)) (d : (List (Int × Int × Int × Int × Int × Int × Int × Int × Int)) × (List (Int × Int × Int × Int × Int × Int × Int × Int × Int))) : unitF (tabC Tryd.prog (tab x7 x13 x12 x8 x14 x15 x16 x17 x10 x18 x11 x19) (pls x7 x13 x12 x8 x14 x15 x16 x17 x10 x18 x11 x19) 100 10) 100 .none (u6 fun _ _ => none) (codeAt [1, 1, 1, 1, 1, 1, 0] (bodyOf Tryd.prog 5)) kd d = r6P x7 x13 x12 x8 x14 x15 x16 x17 x10 x18 x11 x19 kd d := by kernel_rfl
noncomputable def r6 : G6 := r6P F7.f F13.f F12.f F8.f F14.f F15.f F16.f F17.f F10.f F18.f F11.f F19.f
noncomputable def l6 : G6 := r6
theorem ok6 : UnOk Tryd.prog (u6 l6) (codeAt [1, 1, 1, 1, 1, 1, 0] (bodyOf Tryd.prog 5)) :=
  blockT (p := .none) (fuel := 100) (depth := 10) mixed tabS plsP trivial (fun kd d => Eq.trans (by kernel_rfl) ( r6e F7.f F13.f F12.f F8.f F14.f F15.f F16.f F17.f F10.f F18.f F11.f F19.f kd d))
def fP (x7 : F7.FT) (x13 : F13.FT) (x12 : F12.FT) (x8 : F8.FT) (x14 : F14.FT) (x15 : F15.FT) (x16 : F16.FT) (x17 : F17.FT) (x10 : F10.FT) (x18 : F18.FT) (x11 : F11.FT) (x19 : F19.FT) (l1 : G1) (l2 : G2) (l3 : G3) (l5 : G5) (l6 : G6) : FT := fun ((a0, a1, a2, a3, a4, a5, a6, a7, a8), (b0, b1, b2, b3, b4, b5, b6, b7, b8), l) =>
    (l1 ((a0, a1, a2, a3, a4, a5, a6, a7, a8), (b0, b1, b2, b3, b4, b5, b6, b7, b8), false) PUnit.unit).bind fun r0 =>
      (l2 ((a0, a1, a2, a3, a4, a5, a6, a7, a8), (b0, b1, b2, b3, b4, b5, b6, b7, b8), false) PUnit.unit).bind fun r1 =>
       (l3 (r0.fst.fst, r0.fst.snd, r1.fst.fst, r1.fst.snd) PUnit.unit).bind fun r2 =>
       bif r2.fst then some (false, PUnit.unit)
       else
       (l1 ((a0, a1, a2, a3, a4, a5, a6, a7, a8), (b0, b1, b2, b3, b4, b5, b6, b7, b8), true) PUnit.unit).bind
       fun r3 =>
       (l2 ((a0, a1, a2, a3, a4, a5, a6, a7, a8), (b0, b1, b2, b3, b4, b5, b6, b7, b8), true) PUnit.unit).bind
       fun r4 =>
       (l3 (r3.fst.fst, r3.fst.snd, r4.fst.fst, r4.fst.snd) PUnit.unit).bind fun r5 =>
       bif r5.fst then some (false, PUnit.unit)
       else
       bif
       decide
       ((0 : Int) ≤
       (some (if (12 : Int) < (↑l.length : Int) then (12 : Int) else (↑l.length : Int))).getD
       (↑l.length : Int) ∧
       (some (if (12 : Int) < (↑l.length : Int) then (12 : Int) else (↑l.length : Int))).getD
       (↑l.length : Int) ≤
       (↑l.length : Int) ∧
       (0 : Nat) + l.length ≤ l.length) then
       bif
       decide
       ((0 : Nat) +
       ((some (if (12 : Int) < (↑l.length : Int) then (12 : Int) else (↑l.length : Int))).getD
       (↑l.length : Int)).toNat ≤
       l.length) &&
       true then
       (x15
       (List.take
       ((some (if (12 : Int) < (↑l.length : Int) then (12 : Int) else (↑l.length : Int))).getD
       (↑l.length : Int)).toNat
       l)).bind
       fun r6 =>
       bif
       decide
       ((0 : Nat) +
       ((some
       (if (12 : Int) < (↑l.length : Int) then (12 : Int)
       else (↑l.length : Int))).getD
       (↑l.length : Int)).toNat ≤
       l.length) &&
       true then
       (l5
       (List.take
       ((some
       (if (12 : Int) < (↑l.length : Int) then (12 : Int)
       else (↑l.length : Int))).getD
       (↑l.length : Int)).toNat
       l,
       (↑((some
       (if (12 : Int) < (↑l.length : Int) then (12 : Int)
       else (↑l.length : Int))).getD
       (↑l.length : Int)).toNat :
       Int))
       ([], (0 : Int))).bind
       fun r7 =>
       bif
       decide
       ((0 : Nat) +
       ((some
       (if (12 : Int) < (↑l.length : Int) then (12 : Int)
       else (↑l.length : Int))).getD
       (↑l.length : Int)).toNat ≤
       l.length) &&
       true then
       bif decide ((0 : Nat) + List.length r6.fst ≤ List.length r6.fst) && true then
       bif decide ((0 : Nat) + List.length r7.fst ≤ List.length r7.fst) && true then
       (l6
       (List.take
       ((some
       (if (12 : Int) < (↑l.length : Int) then (12 : Int)
       else (↑l.length : Int))).getD
       (↑l.length : Int)).toNat
       l,
       a0, a1, a2, a3, a4, a5, a6, a7, a8)
       (List.take (List.length r6.fst) (List.drop (0 : Nat) r6.fst),
       List.take (List.length r7.fst) (List.drop (0 : Nat) r7.fst))).bind
       fun r8 => some (r8.fst, PUnit.unit)
       else none
       else none
       else none
       else none
       else none
       else none
theorem fe (x7 : F7.FT) (x13 : F13.FT) (x12 : F12.FT) (x8 : F8.FT) (x14 : F14.FT) (x15 : F15.FT) (x16 : F16.FT) (x17 : F17.FT) (x10 : F10.FT) (x18 : F18.FT) (x11 : F11.FT) (x19 : F19.FT) (l1 : G1) (l2 : G2) (l3 : G3) (l5 : G5) (l6 : G6) (d : (Int × Int × Int × Int × Int × Int × Int × Int × Int) × (Int × Int × Int × Int × Int × Int × Int × Int × Int) × (List (Int × Int × Int × Int × Int × Int × Int × Int × Int))) : bodyF (tabC Tryd.prog (tab x7 x13 x12 x8 x14 x15 x16 x17 x10 x18 x11 x19) ((5, (.node .none (.node (.node .none (.node (.node (.node .none (.node .none (.node (.node (.node .none (.node (.unit (u1 l1)) (.node (.unit (u2 l2)) (.node (.unit (u3 l3)) .none)))) .none) .none))) .none) .none)) (.node .none (.node .none (.node .none (.node (.node .none (.node (.unit (u5 l5)) .none)) (.node (.unit (u6 l6)) .none)))))))) :: pls x7 x13 x12 x8 x14 x15 x16 x17 x10 x18 x11 x19) 100 10) 100 5 i o d = fP x7 x13 x12 x8 x14 x15 x16 x17 x10 x18 x11 x19 l1 l2 l3 l5 l6 d := by kernel_rfl
noncomputable def f : FT := fP F7.f F13.f F12.f F8.f F14.f F15.f F16.f F17.f F10.f F18.f F11.f F19.f l1 l2 l3 l5 l6
def plan (l1 : G1) (l2 : G2) (l3 : G3) (l5 : G5) (l6 : G6) : Plan := (.node .none (.node (.node .none (.node (.node (.node .none (.node .none (.node (.node (.node .none (.node (.unit (u1 l1)) (.node (.unit (u2 l2)) (.node (.unit (u3 l3)) .none)))) .none) .none))) .none) .none)) (.node .none (.node .none (.node .none (.node (.node .none (.node (.unit (u5 l5)) .none)) (.node (.unit (u6 l6)) .none)))))))
theorem planOk : PlanOk Tryd.prog (plan l1 l2 l3 l5 l6) (bodyOf Tryd.prog 5) := (planOk_of (plan l1 l2 l3 l5 l6) _ [([1, 0, 1, 0, 0, 1, 1, 0, 0, 1, 0], u1 l1), ([1, 0, 1, 0, 0, 1, 1, 0, 0, 1, 1, 0], u2 l2), ([1, 0, 1, 0, 0, 1, 1, 0, 0, 1, 1, 1, 0], u3 l3), ([1, 1, 1, 1, 1, 0, 1, 0], u5 l5), ([1, 1, 1, 1, 1, 1, 0], u6 l6)] rfl ⟨ok1, ok2, ok3, ok5, ok6, trivial⟩)
theorem h1 (d : (Int × Int × Int × Int × Int × Int × Int × Int × Int) × (Int × Int × Int × Int × Int × Int × Int × Int × Int) × (List (Int × Int × Int × Int × Int × Int × Int × Int × Int))) : bodyF (tabC Tryd.prog (tab F7.f F13.f F12.f F8.f F14.f F15.f F16.f F17.f F10.f F18.f F11.f F19.f) ((5, plan l1 l2 l3 l5 l6) :: pls F7.f F13.f F12.f F8.f F14.f F15.f F16.f F17.f F10.f F18.f F11.f F19.f) 100 10) 100 5 i o d = fP F7.f F13.f F12.f F8.f F14.f F15.f F16.f F17.f F10.f F18.f F11.f F19.f l1 l2 l3 l5 l6 d := by
  generalize F7.f = y0
  generalize F13.f = y1
  generalize F12.f = y2
  generalize F8.f = y3
  generalize F14.f = y4
  generalize F15.f = y5
  generalize F16.f = y6
  generalize F17.f = y7
  generalize F10.f = y8
  generalize F18.f = y9
  generalize F11.f = y10
  generalize F19.f = y11
  generalize l1 = y12
  generalize l2 = y13
  generalize l3 = y14
  generalize l5 = y15
  generalize l6 = y16
  exact fe y0 y1 y2 y3 y4 y5 y6 y7 y8 y9 y10 y11 y12 y13 y14 y15 y16 d
theorem h2 (d : (Int × Int × Int × Int × Int × Int × Int × Int × Int) × (Int × Int × Int × Int × Int × Int × Int × Int × Int) × (List (Int × Int × Int × Int × Int × Int × Int × Int × Int))) : bodyF (tabC Tryd.prog (tab F7.f F13.f F12.f F8.f F14.f F15.f F16.f F17.f F10.f F18.f F11.f F19.f) ((5, plan l1 l2 l3 l5 l6) :: pls F7.f F13.f F12.f F8.f F14.f F15.f F16.f F17.f F10.f F18.f F11.f F19.f) 100 10) 100 5 i o d = f d := by rw [show f d = fP F7.f F13.f F12.f F8.f F14.f F15.f F16.f F17.f F10.f F18.f F11.f F19.f l1 l2 l3 l5 l6 d by unfold f; rfl]; exact h1 d
theorem funcT' {P : Program} (hm : P.follows .mixedOrders = true) {K : List (FuncId × Sx.Spec)} {pl : List (FuncId × Plan)} (hS : AllS P K) (hP : AllP P pl) {i o : Sh} {F : Den i → Option (Den o × Den (posts i))} (hF : ∀ d, bodyF (tabC P K pl 100 10) 100 5 i o d = F d) : MeetsF P 5 ⟨i, o, F⟩ := funcT hm hS hP (c := ⟨i, o, F⟩) hF
theorem meets : MeetsF Tryd.prog 5 ⟨i, o, f⟩ := by
  have h : ∀ d : Den i, bodyF (tabC Tryd.prog (tab F7.f F13.f F12.f F8.f F14.f F15.f F16.f F17.f F10.f F18.f F11.f F19.f) ((5, plan l1 l2 l3 l5 l6) :: pls F7.f F13.f F12.f F8.f F14.f F15.f F16.f F17.f F10.f F18.f F11.f F19.f) 100 10) 100 5 i o d = f d := h2
  exact funcT' (P := Tryd.prog) (K := tab F7.f F13.f F12.f F8.f F14.f F15.f F16.f F17.f F10.f F18.f F11.f F19.f) (pl := (5, plan l1 l2 l3 l5 l6) :: pls F7.f F13.f F12.f F8.f F14.f F15.f F16.f F17.f F10.f F18.f F11.f F19.f) (i := i) (o := o) (F := f) mixed tabS ⟨planOk, plsP⟩ h
theorem spec : SpecOk Tryd.prog (fun _ => none) 5 (specF ⟨i, o, f⟩) := specF_ok (by kernel_rfl) meets
end Go.Proofs.YtaniibilgdhdiaaDoor.F5
