/- What comes of function 5 of this program, consulate.consulatelaw14.SessionTimers, as the engine gives it. -/
import Derived.Test.YtendadfdbmoadaaDoorChecked
import Derived.Test.YtendadfdbmoadaaDoorZN
import Derived.Test.YtendadfdbmoadaaDoorF9
import Derived.Test.YtendadfdbmoadaaDoorF14
import Derived.Test.YtendadfdbmoadaaDoorKA
namespace Go.Proofs.YtendadfdbmoadaaDoor.F5
open Go Go.Proofs Go.Proofs.YtendadfdbmoadaaDoor Go.RowKit Go.Proofs.YtendadfdbmoadaaDoor.Sx
set_option linter.unusedVariables false
set_option maxRecDepth 100000
def tab (x9 : F9.FT) (x14 : F14.FT) : List (FuncId × Sx.Spec) := [(9, specF ⟨F9.i, F9.o, x9⟩), (14, specF ⟨F14.i, F14.o, x14⟩), (13, pureS saysS)]
def pls (x9 : F9.FT) (x14 : F14.FT) : List (FuncId × Plan) := []
@[reducible] def k1 : Sh := .pt true 46 (.sc .bool (.sc .bool (.sc .bool (.sc .bool (.sc .bool (.sc .bool (.sc .bool (.sc .bool (.sc .bool .nil))))))))) (.pt true 31 (.sc (.int .i64) (.sc (.int .u8) (.sc (.int .i64) (.sc (.int .u8) (.sc (.int .u8) (.sl false 5 (.sc (.int .u8) .nil) .nil)))))) .nil)
@[reducible] def i1 : Sh := .nil
@[reducible] def o1 : Sh := .sc (.int .i64) .nil
abbrev G1 := ((Bool × Bool × Bool × Bool × Bool × Bool × Bool × Bool × Bool) × (Int × Int × Int × Int × Int × List (Int))) → Unit → Option (Int × Unit)
def u1 (F : G1) : Un := ⟨153, [4, 6], k1, [], i1, [], o1, [3, 4, 6, 13, 14, 15], [(.normal, []), (.exit 1, [])], F⟩
@[reducible] def k2 : Sh := .pt true 31 (.sc (.int .i64) (.sc (.int .u8) (.sc (.int .i64) (.sc (.int .u8) (.sc (.int .u8) (.sl false 5 (.sc (.int .u8) .nil) .nil)))))) .nil
@[reducible] def i2 : Sh := .pt true 46 (.sc .bool (.sc .bool (.sc .bool (.sc .bool (.sc .bool (.sc .bool (.sc .bool (.sc .bool (.sc .bool .nil))))))))) .nil
@[reducible] def o2 : Sh := .nil
abbrev G2 := ((Int × Int × Int × Int × Int × List (Int))) → ((Bool × Bool × Bool × Bool × Bool × Bool × Bool × Bool × Bool)) → Option (Unit × ((Bool × Bool × Bool × Bool × Bool × Bool × Bool × Bool × Bool)))
def u2 (F : G2) : Un := ⟨153, [6], k2, [4], i2, [], o2, [3, 4, 6, 13, 14, 15], [(.normal, [])], F⟩
@[reducible] def k3 : Sh := .sl true 48 (.sc (.int .i64) (.sc (.int .u8) (.sc (.int .i64) (.sc (.int .u8) (.sc (.int .u8) (.sl false 5 (.sc (.int .u8) .nil) .nil)))))) (.sc (.int .i64) .nil)
@[reducible] def i3 : Sh := .pt true 46 (.sc .bool (.sc .bool (.sc .bool (.sc .bool (.sc .bool (.sc .bool (.sc .bool (.sc .bool (.sc .bool .nil))))))))) (.sc (.int .i64) .nil)
@[reducible] def o3 : Sh := .sc (.int .i64) (.sc .bool .nil)
abbrev G3 := ((List (Int × Int × Int × Int × Int × List (Int))) × Int) → ((Bool × Bool × Bool × Bool × Bool × Bool × Bool × Bool × Bool) × Int) → Option ((Int × Bool) × ((Bool × Bool × Bool × Bool × Bool × Bool × Bool × Bool × Bool)))
def u3 (F : G3) : Un := ⟨153, [57, 58], k3, [4, 59], i3, [2], o3, [3, 4, 13, 14, 15, 57, 58], [(.exit 2, [false]), (.ret, [true])], F⟩
@[reducible] def k4 : Sh := .pt true 24 (.sc (.int .i64) (.sc (.int .i64) .nil)) (.pt true 46 (.sc .bool (.sc .bool (.sc .bool (.sc .bool (.sc .bool (.sc .bool (.sc .bool (.sc .bool (.sc .bool .nil))))))))) (.sc .bool .nil))
@[reducible] def i4 : Sh := .nil
@[reducible] def o4 : Sh := .sc (.int .i64) (.sc .bool .nil)
abbrev G4 := ((Int × Int) × (Bool × Bool × Bool × Bool × Bool × Bool × Bool × Bool × Bool) × Bool) → Unit → Option ((Int × Bool) × Unit)
def u4 (F : G4) : Un := ⟨153, [3, 4, 10], k4, [], i4, [2], o4, [3, 4, 10, 13, 14, 15], [(.normal, [false]), (.ret, [true])], F⟩
@[reducible] def k5 : Sh := .pt true 24 (.sc (.int .i64) (.sc (.int .i64) .nil)) (.pt true 46 (.sc .bool (.sc .bool (.sc .bool (.sc .bool (.sc .bool (.sc .bool (.sc .bool (.sc .bool (.sc .bool .nil))))))))) (.sc .bool (.sc .bool .nil)))
@[reducible] def i5 : Sh := .nil
@[reducible] def o5 : Sh := .sc (.int .i64) (.sc .bool .nil)
abbrev G5 := ((Int × Int) × (Bool × Bool × Bool × Bool × Bool × Bool × Bool × Bool × Bool) × Bool × Bool) → Unit → Option ((Int × Bool) × Unit)
def u5 (F : G5) : Un := ⟨153, [3, 4, 10, 11], k5, [], i5, [2], o5, [3, 4, 13, 14, 15], [(.normal, [false]), (.ret, [true])], F⟩
@[reducible] def k6 : Sh := .sl false 31 (.sc (.int .i64) (.sc (.int .u8) (.sc (.int .i64) (.sc (.int .u8) (.sc (.int .u8) (.sl false 5 (.sc (.int .u8) .nil) .nil)))))) (.sc (.int .i64) .nil)
@[reducible] def i6 : Sh := .pt true 24 (.sc (.int .i64) (.sc (.int .i64) .nil)) (.pt true 46 (.sc .bool (.sc .bool (.sc .bool (.sc .bool (.sc .bool (.sc .bool (.sc .bool (.sc .bool (.sc .bool .nil))))))))) (.sc (.int .i64) .nil))
@[reducible] def o6 : Sh := .sc (.int .i64) (.sc .bool .nil)
abbrev G6 := ((List (Int × Int × Int × Int × Int × List (Int))) × Int) → ((Int × Int) × (Bool × Bool × Bool × Bool × Bool × Bool × Bool × Bool × Bool) × Int) → Option ((Int × Bool) × ((Int × Int) × (Bool × Bool × Bool × Bool × Bool × Bool × Bool × Bool × Bool)))
def u6 (F : G6) : Un := ⟨153, [13, 14], k6, [3, 4, 15], i6, [2], o6, [3, 4, 13, 14], [(.exit 0, [false]), (.ret, [true])], F⟩
@[reducible] def i : Sh := .sl false 31 (.sc (.int .i64) (.sc (.int .u8) (.sc (.int .i64) (.sc (.int .u8) (.sc (.int .u8) (.sl false 5 (.sc (.int .u8) .nil) .nil)))))) .nil
@[reducible] def o : Sh := .sc .bool .nil
abbrev FT := ((List (Int × Int × Int × Int × Int × List (Int)))) → Option (Bool × Unit)
theorem tabS : AllS Tryd.prog (tab F9.f F14.f) := ⟨F9.spec, F14.spec, says_ok (by kernel_rfl) KA.tells, trivial⟩
theorem plsP : AllP Tryd.prog (pls F9.f F14.f) := trivial
theorem mixed : Tryd.prog.follows .mixedOrders = true := by kernel_rfl
def r1P (x9 : F9.FT) (x14 : F14.FT) : G1 := fun ((w0, w1, w2, w3, w4, w5, w6, w7, w8), (e0, e1, e2, e3, e4, e5)) () =>
    bif e0 == 6 then
      bif decide (e1 < 1) then some (1, PUnit.unit)
      else
        bif decide (e1 > 3) then some (1, PUnit.unit)
        else
          bif decide (0 ≤ e1 ∧ e1 < 4) then
            bif e1.toNat.beq 0 then bif !w5 then some (1, PUnit.unit) else some (0, PUnit.unit)
            else
              bif e1.toNat.beq 1 then bif !w6 then some (1, PUnit.unit) else some (0, PUnit.unit)
              else
                bif e1.toNat.beq 2 then bif !w7 then some (1, PUnit.unit) else some (0, PUnit.unit)
                else bif e1.toNat.beq 3 then bif !w8 then some (1, PUnit.unit) else some (0, PUnit.unit) else none
          else none
    else some (0, PUnit.unit)
theorem r1e (x9 : F9.FT) (x14 : F14.FT) (kd : (Bool × Bool × Bool × Bool × Bool × Bool × Bool × Bool × Bool) × (Int × Int × Int × Int × Int × List (Int))) (d : Unit) : unitF (tabC Tryd.prog (tab x9 x14) (pls x9 x14) 100 10) 100 .none (u1 fun _ _ => none) (codeAt [1, 1, 1, 0, 1, 0, 0, 1, 1, 0, 0, 1, 1, 0] (bodyOf Tryd.prog 5)) kd d = r1P x9 x14 kd d := by kernel_rfl
noncomputable def r1 : G1 := r1P F9.f F14.f
noncomputable def l1 : G1 := r1
theorem ok1 : UnOk Tryd.prog (u1 l1) (codeAt [1, 1, 1, 0, 1, 0, 0, 1, 1, 0, 0, 1, 1, 0] (bodyOf Tryd.prog 5)) :=
  blockT (p := .none) (fuel := 100) (depth := 10) mixed tabS plsP trivial (fun kd d => r1e F9.f F14.f kd d)
def r2P (x9 : F9.FT) (x14 : F14.FT) : G2 := fun (e0, e1, e2, e3, e4, e5) (w0, w1, w2, w3, w4, w5, w6, w7, w8) =>
    bif e0 == 6 then
      bif decide (0 ≤ e1 ∧ e1 < 4) then
        bif e1.toNat.beq 0 then some (PUnit.unit, w0, w1, w2, w3, w4, false, w6, w7, w8)
        else
          bif e1.toNat.beq 1 then some (PUnit.unit, w0, w1, w2, w3, w4, w5, false, w7, w8)
          else
            bif e1.toNat.beq 2 then some (PUnit.unit, w0, w1, w2, w3, w4, w5, w6, false, w8)
            else bif e1.toNat.beq 3 then some (PUnit.unit, w0, w1, w2, w3, w4, w5, w6, w7, false) else none
      else none
    else some (PUnit.unit, w0, w1, w2, w3, w4, w5, w6, w7, w8)
theorem r2e (x9 : F9.FT) (x14 : F14.FT) (kd : (Int × Int × Int × Int × Int × List (Int))) (d : (Bool × Bool × Bool × Bool × Bool × Bool × Bool × Bool × Bool)) : unitF (tabC Tryd.prog (tab x9 x14) (pls x9 x14) 100 10) 100 .none (u2 fun _ _ => none) (codeAt [1, 1, 1, 0, 1, 0, 0, 1, 1, 0, 0, 1, 1, 1, 0] (bodyOf Tryd.prog 5)) kd d = r2P x9 x14 kd d := by kernel_rfl
noncomputable def r2 : G2 := r2P F9.f F14.f
noncomputable def l2 : G2 := r2
theorem ok2 : UnOk Tryd.prog (u2 l2) (codeAt [1, 1, 1, 0, 1, 0, 0, 1, 1, 0, 0, 1, 1, 1, 0] (bodyOf Tryd.prog 5)) :=
  blockT (p := .none) (fuel := 100) (depth := 10) mixed tabS plsP trivial (fun kd d => r2e F9.f F14.f kd d)
def r3P (x9 : F9.FT) (x14 : F14.FT) : ((List (Int × Int × Int × Int × Int × List (Int))) × Int) → ((Bool × Bool × Bool × Bool × Bool × Bool × Bool × Bool × Bool) × Int) → Option (((Bool × Bool × Bool × Bool × Bool × Bool × Bool × Bool × Bool) × Int) ⊕ ((Int × Bool) × ((Bool × Bool × Bool × Bool × Bool × Bool × Bool × Bool × Bool)))) := fun (t57, t58) ((w0, w1, w2, w3, w4, w5, w6, w7, w8), t59) =>
    bif decide (t59 < t58) then
      bif decide (0 ≤ t59 ∧ t59 < (↑t57.length : Int) ∧ 0 < t57.length) then
        bif decide (0 + t59.toNat < t57.length) then
          bif (t57.getD (0 + t59.toNat) (0, 0, 0, 0, 0, [])).fst == 3 then
            bif
                decide
                    (0 + List.length (t57.getD (0 + t59.toNat) (0, 0, 0, 0, 0, [])).snd.snd.snd.snd.snd ≤
                      List.length (t57.getD (0 + t59.toNat) (0, 0, 0, 0, 0, [])).snd.snd.snd.snd.snd) &&
                  true then
              (x14
                    ((w0, w1, w2, w3, w4, w5, w6, w7, w8), (t57.getD (0 + t59.toNat) (0, 0, 0, 0, 0, [])).fst,
                      (t57.getD (0 + t59.toNat) (0, 0, 0, 0, 0, [])).snd.fst,
                      (t57.getD (0 + t59.toNat) (0, 0, 0, 0, 0, [])).snd.snd.fst,
                      (t57.getD (0 + t59.toNat) (0, 0, 0, 0, 0, [])).snd.snd.snd.fst,
                      (t57.getD (0 + t59.toNat) (0, 0, 0, 0, 0, [])).snd.snd.snd.snd.fst,
                      List.take (List.length (t57.getD (0 + t59.toNat) (0, 0, 0, 0, 0, [])).snd.snd.snd.snd.snd)
                        (List.drop 0 (t57.getD (0 + t59.toNat) (0, 0, 0, 0, 0, [])).snd.snd.snd.snd.snd))).bind
                fun r0 =>
                bif !r0.fst then some (Sum.inr ((1, false), r0.snd))
                else some (Sum.inl (r0.snd, IntKind.i64.wrap (t59 + 1)))
            else none
          else
            bif (t57.getD (0 + t59.toNat) (0, 0, 0, 0, 0, [])).fst == 4 then
              bif
                  decide
                      (0 + List.length (t57.getD (0 + t59.toNat) (0, 0, 0, 0, 0, [])).snd.snd.snd.snd.snd ≤
                        List.length (t57.getD (0 + t59.toNat) (0, 0, 0, 0, 0, [])).snd.snd.snd.snd.snd) &&
                    true then
                (x14
                      ((w0, w1, w2, w3, w4, w5, w6, w7, w8), (t57.getD (0 + t59.toNat) (0, 0, 0, 0, 0, [])).fst,
                        (t57.getD (0 + t59.toNat) (0, 0, 0, 0, 0, [])).snd.fst,
                        (t57.getD (0 + t59.toNat) (0, 0, 0, 0, 0, [])).snd.snd.fst,
                        (t57.getD (0 + t59.toNat) (0, 0, 0, 0, 0, [])).snd.snd.snd.fst,
                        (t57.getD (0 + t59.toNat) (0, 0, 0, 0, 0, [])).snd.snd.snd.snd.fst,
                        List.take (List.length (t57.getD (0 + t59.toNat) (0, 0, 0, 0, 0, [])).snd.snd.snd.snd.snd)
                          (List.drop 0 (t57.getD (0 + t59.toNat) (0, 0, 0, 0, 0, [])).snd.snd.snd.snd.snd))).bind
                  fun r0 =>
                  bif !r0.fst then some (Sum.inr ((1, false), r0.snd))
                  else some (Sum.inl (r0.snd, IntKind.i64.wrap (t59 + 1)))
              else none
            else some (Sum.inl ((w0, w1, w2, w3, w4, w5, w6, w7, w8), IntKind.i64.wrap (t59 + 1)))
        else none
      else none
    else some (Sum.inr ((0, false), w0, w1, w2, w3, w4, w5, w6, w7, w8))
theorem r3e (x9 : F9.FT) (x14 : F14.FT) (kd : (List (Int × Int × Int × Int × Int × List (Int))) × Int) (d : (Bool × Bool × Bool × Bool × Bool × Bool × Bool × Bool × Bool) × Int) : roundF (tabC Tryd.prog (tab x9 x14) (pls x9 x14) 100 10) 100 .none (u3 fun _ _ => none) (codeAt [1, 1, 1, 0, 1, 0, 0, 1, 1, 0, 0, 1, 1, 1, 1, 1, 1, 1, 0, 1, 0, 0] (bodyOf Tryd.prog 5)) kd d = r3P x9 x14 kd d := by kernel_rfl
noncomputable def r3 : ((List (Int × Int × Int × Int × Int × List (Int))) × Int) → ((Bool × Bool × Bool × Bool × Bool × Bool × Bool × Bool × Bool) × Int) → Option (((Bool × Bool × Bool × Bool × Bool × Bool × Bool × Bool × Bool) × Int) ⊕ ((Int × Bool) × ((Bool × Bool × Bool × Bool × Bool × Bool × Bool × Bool × Bool)))) := r3P F9.f F14.f
noncomputable def l3 : G3 := fun kd d => iterO (r3 kd) d
theorem ok3 : UnOk Tryd.prog (u3 l3) (codeAt [1, 1, 1, 0, 1, 0, 0, 1, 1, 0, 0, 1, 1, 1, 1, 1, 1, 1, 0, 1, 0] (bodyOf Tryd.prog 5)) :=
  loopT (p := .none) (c := codeAt [1, 1, 1, 0, 1, 0, 0, 1, 1, 0, 0, 1, 1, 1, 1, 1, 1, 1, 0, 1, 0, 0] (bodyOf Tryd.prog 5)) (fuel := 100) (depth := 10) mixed tabS plsP (by kernel_rfl) trivial (by kernel_rfl) (fun kd d => r3e F9.f F14.f kd d) rfl
def r4P (x9 : F9.FT) (x14 : F14.FT) : G4 := fun ((m0, m1), (w0, w1, w2, w3, w4, w5, w6, w7, w8), early) () =>
    bif early then
      bif w7 then some ((1, false), PUnit.unit)
      else
        bif w8 then some ((1, false), PUnit.unit)
        else
          bif !early then
            bif w6 then some ((1, false), PUnit.unit)
            else
              bif early then
                bif m0 != 1 then bif !w6 then some ((1, false), PUnit.unit) else some ((0, false), PUnit.unit)
                else some ((0, false), PUnit.unit)
              else some ((0, false), PUnit.unit)
          else
            bif early then
              bif m0 != 1 then bif !w6 then some ((1, false), PUnit.unit) else some ((0, false), PUnit.unit)
              else some ((0, false), PUnit.unit)
            else some ((0, false), PUnit.unit)
    else
      bif !early then
        bif w6 then some ((1, false), PUnit.unit)
        else
          bif early then
            bif m0 != 1 then bif !w6 then some ((1, false), PUnit.unit) else some ((0, false), PUnit.unit)
            else some ((0, false), PUnit.unit)
          else some ((0, false), PUnit.unit)
      else
        bif early then
          bif m0 != 1 then bif !w6 then some ((1, false), PUnit.unit) else some ((0, false), PUnit.unit)
          else some ((0, false), PUnit.unit)
        else some ((0, false), PUnit.unit)
theorem r4e (x9 : F9.FT) (x14 : F14.FT) (kd : (Int × Int) × (Bool × Bool × Bool × Bool × Bool × Bool × Bool × Bool × Bool) × Bool) (d : Unit) : unitF (tabC Tryd.prog (tab x9 x14) (pls x9 x14) 100 10) 100 .none (u4 fun _ _ => none) (codeAt [1, 1, 1, 0, 1, 0, 0, 1, 1, 0, 0, 1, 1, 1, 1, 1, 1, 1, 1, 1, 0] (bodyOf Tryd.prog 5)) kd d = r4P x9 x14 kd d := by kernel_rfl
noncomputable def r4 : G4 := r4P F9.f F14.f
noncomputable def l4 : G4 := r4
theorem ok4 : UnOk Tryd.prog (u4 l4) (codeAt [1, 1, 1, 0, 1, 0, 0, 1, 1, 0, 0, 1, 1, 1, 1, 1, 1, 1, 1, 1, 0] (bodyOf Tryd.prog 5)) :=
  blockT (p := .none) (fuel := 100) (depth := 10) mixed tabS plsP trivial (fun kd d => r4e F9.f F14.f kd d)
def r5P (x9 : F9.FT) (x14 : F14.FT) : G5 := fun ((m0, m1), (w0, w1, w2, w3, w4, w5, w6, w7, w8), early, behind) () =>
    bif behind then
      bif !w8 == decide (m1 > 0) then some ((1, false), PUnit.unit)
      else
        bif !early then
          bif !behind then
            bif !w7 == true then some ((1, false), PUnit.unit)
            else
              bif !behind then bif m1 != 0 then some ((1, false), PUnit.unit) else some ((0, false), PUnit.unit)
              else some ((0, false), PUnit.unit)
          else
            bif !w7 == decide (m1 > 0) then some ((1, false), PUnit.unit)
            else
              bif !behind then bif m1 != 0 then some ((1, false), PUnit.unit) else some ((0, false), PUnit.unit)
              else some ((0, false), PUnit.unit)
        else
          bif !behind then bif m1 != 0 then some ((1, false), PUnit.unit) else some ((0, false), PUnit.unit)
          else some ((0, false), PUnit.unit)
    else
      bif !w8 == false then some ((1, false), PUnit.unit)
      else
        bif !early then
          bif !behind then
            bif !w7 == true then some ((1, false), PUnit.unit)
            else
              bif !behind then bif m1 != 0 then some ((1, false), PUnit.unit) else some ((0, false), PUnit.unit)
              else some ((0, false), PUnit.unit)
          else
            bif !w7 == decide (m1 > 0) then some ((1, false), PUnit.unit)
            else
              bif !behind then bif m1 != 0 then some ((1, false), PUnit.unit) else some ((0, false), PUnit.unit)
              else some ((0, false), PUnit.unit)
        else
          bif !behind then bif m1 != 0 then some ((1, false), PUnit.unit) else some ((0, false), PUnit.unit)
          else some ((0, false), PUnit.unit)
theorem r5e (x9 : F9.FT) (x14 : F14.FT) (kd : (Int × Int) × (Bool × Bool × Bool × Bool × Bool × Bool × Bool × Bool × Bool) × Bool × Bool) (d : Unit) : unitF (tabC Tryd.prog (tab x9 x14) (pls x9 x14) 100 10) 100 .none (u5 fun _ _ => none) (codeAt [1, 1, 1, 0, 1, 0, 0, 1, 1, 0, 0, 1, 1, 1, 1, 1, 1, 1, 1, 1, 1, 1] (bodyOf Tryd.prog 5)) kd d = r5P x9 x14 kd d := by kernel_rfl
noncomputable def r5 : G5 := r5P F9.f F14.f
noncomputable def l5 : G5 := r5
theorem ok5 : UnOk Tryd.prog (u5 l5) (codeAt [1, 1, 1, 0, 1, 0, 0, 1, 1, 0, 0, 1, 1, 1, 1, 1, 1, 1, 1, 1, 1, 1] (bodyOf Tryd.prog 5)) :=
  blockT (p := .none) (fuel := 100) (depth := 10) mixed tabS plsP trivial (fun kd d => r5e F9.f F14.f kd d)
def r6P (x9 : F9.FT) (x14 : F14.FT) (l1 : G1) (l2 : G2) (l3 : G3) (l4 : G4) (l5 : G5) : ((List (Int × Int × Int × Int × Int × List (Int))) × Int) → ((Int × Int) × (Bool × Bool × Bool × Bool × Bool × Bool × Bool × Bool × Bool) × Int) → Option (((Int × Int) × (Bool × Bool × Bool × Bool × Bool × Bool × Bool × Bool × Bool) × Int) ⊕ ((Int × Bool) × ((Int × Int) × (Bool × Bool × Bool × Bool × Bool × Bool × Bool × Bool × Bool)))) := fun (t13, t14) ((m0, m1), (w0, w1, w2, w3, w4, w5, w6, w7, w8), t15) =>
    bif decide (t15 < t14) then
      bif decide (0 ≤ t15 ∧ t15 < (↑t13.length : Int) ∧ 0 < t13.length) then
        bif decide (0 + t15.toNat < t13.length) then
          bif t15 == 80 then some (Sum.inr ((0, false), (m0, m1), w0, w1, w2, w3, w4, w5, w6, w7, w8))
          else
            bif
                decide
                    (0 + List.length (t13.getD (0 + t15.toNat) (0, 0, 0, 0, 0, [])).snd.snd.snd.snd.snd ≤
                      List.length (t13.getD (0 + t15.toNat) (0, 0, 0, 0, 0, [])).snd.snd.snd.snd.snd) &&
                  true then
              (l1
                    ((w0, w1, w2, w3, w4, w5, w6, w7, w8), (t13.getD (0 + t15.toNat) (0, 0, 0, 0, 0, [])).fst,
                      (t13.getD (0 + t15.toNat) (0, 0, 0, 0, 0, [])).snd.fst,
                      (t13.getD (0 + t15.toNat) (0, 0, 0, 0, 0, [])).snd.snd.fst,
                      (t13.getD (0 + t15.toNat) (0, 0, 0, 0, 0, [])).snd.snd.snd.fst,
                      (t13.getD (0 + t15.toNat) (0, 0, 0, 0, 0, [])).snd.snd.snd.snd.fst,
                      List.take (List.length (t13.getD (0 + t15.toNat) (0, 0, 0, 0, 0, [])).snd.snd.snd.snd.snd)
                        (List.drop 0 (t13.getD (0 + t15.toNat) (0, 0, 0, 0, 0, [])).snd.snd.snd.snd.snd))
                    PUnit.unit).bind
                fun r0 =>
                bif decide (r0.fst = 0) then
                  bif
                      decide
                          (0 + List.length (t13.getD (0 + t15.toNat) (0, 0, 0, 0, 0, [])).snd.snd.snd.snd.snd ≤
                            List.length (t13.getD (0 + t15.toNat) (0, 0, 0, 0, 0, [])).snd.snd.snd.snd.snd) &&
                        true then
                    (l2
                          ((t13.getD (0 + t15.toNat) (0, 0, 0, 0, 0, [])).fst,
                            (t13.getD (0 + t15.toNat) (0, 0, 0, 0, 0, [])).snd.fst,
                            (t13.getD (0 + t15.toNat) (0, 0, 0, 0, 0, [])).snd.snd.fst,
                            (t13.getD (0 + t15.toNat) (0, 0, 0, 0, 0, [])).snd.snd.snd.fst,
                            (t13.getD (0 + t15.toNat) (0, 0, 0, 0, 0, [])).snd.snd.snd.snd.fst,
                            List.take (List.length (t13.getD (0 + t15.toNat) (0, 0, 0, 0, 0, [])).snd.snd.snd.snd.snd)
                              (List.drop 0 (t13.getD (0 + t15.toNat) (0, 0, 0, 0, 0, [])).snd.snd.snd.snd.snd))
                          (w0, w1, w2, w3, w4, w5, w6, w7, w8)).bind
                      fun r1 =>
                      bif
                          decide
                              (0 + List.length (t13.getD (0 + t15.toNat) (0, 0, 0, 0, 0, [])).snd.snd.snd.snd.snd ≤
                                List.length (t13.getD (0 + t15.toNat) (0, 0, 0, 0, 0, [])).snd.snd.snd.snd.snd) &&
                            true then
                        (x9
                              ((m0, m1), (t13.getD (0 + t15.toNat) (0, 0, 0, 0, 0, [])).fst,
                                (t13.getD (0 + t15.toNat) (0, 0, 0, 0, 0, [])).snd.fst,
                                (t13.getD (0 + t15.toNat) (0, 0, 0, 0, 0, [])).snd.snd.fst,
                                (t13.getD (0 + t15.toNat) (0, 0, 0, 0, 0, [])).snd.snd.snd.fst,
                                (t13.getD (0 + t15.toNat) (0, 0, 0, 0, 0, [])).snd.snd.snd.snd.fst,
                                List.take (List.length (t13.getD (0 + t15.toNat) (0, 0, 0, 0, 0, [])).snd.snd.snd.snd.snd)
                                  (List.drop 0 (t13.getD (0 + t15.toNat) (0, 0, 0, 0, 0, [])).snd.snd.snd.snd.snd))).bind
                          fun r2 =>
                          bif decide (0 + List.length r2.fst.snd ≤ List.length r2.fst.snd) && true then
                            (l3
                                  (List.take (List.length r2.fst.snd) (List.drop 0 r2.fst.snd),
                                    (↑(List.length r2.fst.snd) : Int))
                                  ((true, r1.snd.snd.fst, r1.snd.snd.snd.fst, r1.snd.snd.snd.snd.fst,
                                      r1.snd.snd.snd.snd.snd.fst, r1.snd.snd.snd.snd.snd.snd.fst,
                                      r1.snd.snd.snd.snd.snd.snd.snd.fst, r1.snd.snd.snd.snd.snd.snd.snd.snd.fst,
                                      r1.snd.snd.snd.snd.snd.snd.snd.snd.snd),
                                    0)).bind
                              fun r3 =>
                              bif decide (r3.fst.fst = 0) then
                                (l4 ((r2.fst.fst.fst, r2.fst.fst.snd), r3.snd, decide (r2.fst.fst.fst < 4))
                                      PUnit.unit).bind
                                  fun r4 =>
                                  bif decide (r4.fst.fst = 0) then
                                    (l5
                                          ((r2.fst.fst.fst, r2.fst.fst.snd), r3.snd, decide (r2.fst.fst.fst < 4),
                                            decide (r2.fst.fst.fst ≥ 5))
                                          PUnit.unit).bind
                                      fun r5 =>
                                      bif decide (r5.fst.fst = 0) then
                                        some
                                          (Sum.inl ((r2.fst.fst.fst, r2.fst.fst.snd), r3.snd, IntKind.i64.wrap (t15 + 1)))
                                      else
                                        bif decide (r5.fst.fst = 1) then
                                          some (Sum.inr ((1, r5.fst.snd), (r2.fst.fst.fst, r2.fst.fst.snd), r3.snd))
                                        else none
                                  else
                                    bif decide (r4.fst.fst = 1) then
                                      some (Sum.inr ((1, r4.fst.snd), (r2.fst.fst.fst, r2.fst.fst.snd), r3.snd))
                                    else none
                              else
                                bif decide (r3.fst.fst = 1) then
                                  some (Sum.inr ((1, r3.fst.snd), (r2.fst.fst.fst, r2.fst.fst.snd), r3.snd))
                                else none
                          else none
                      else none
                  else none
                else
                  bif decide (r0.fst = 1) then
                    some (Sum.inl ((m0, m1), (w0, w1, w2, w3, w4, w5, w6, w7, w8), IntKind.i64.wrap (t15 + 1)))
                  else none
            else none
        else none
      else none
    else some (Sum.inr ((0, false), (m0, m1), w0, w1, w2, w3, w4, w5, w6, w7, w8))
theorem r6e (x9 : F9.FT) (x14 : F14.FT) (l1 : G1) (l2 : G2) (l3 : G3) (l4 : G4) (l5 : G5) (kd : (List (Int × Int × Int × Int × Int × List (Int))) × Int) (d : (Int × Int) × (Bool × Bool × Bool × Bool × Bool × Bool × Bool × Bool × Bool) × Int) : roundF (tabC Tryd.prog (tab x9 x14) (pls x9 x14) 100 10) 100 (.node .none (.node .none (.node (.node (.node .none (.node .none (.node (.unit (u1 l1)) (.node (.unit (u2 l2)) (.node .none (.node .none (.node .none (.node (.node .none (.node (.unit (u3 l3)) .none)) (.node .none (.node (.unit (u4 l4)) (.node .none (.unit (u5 l5))))))))))))) .none) .none))) (u6 fun _ _ => none) (codeAt [1, 1, 1, 0, 1, 0, 0] (bodyOf Tryd.prog 5)) kd d = r6P x9 x14 l1 l2 l3 l4 l5 kd d := by kernel_rfl
noncomputable def r6 : ((List (Int × Int × Int × Int × Int × List (Int))) × Int) → ((Int × Int) × (Bool × Bool × Bool × Bool × Bool × Bool × Bool × Bool × Bool) × Int) → Option (((Int × Int) × (Bool × Bool × Bool × Bool × Bool × Bool × Bool × Bool × Bool) × Int) ⊕ ((Int × Bool) × ((Int × Int) × (Bool × Bool × Bool × Bool × Bool × Bool × Bool × Bool × Bool)))) := r6P F9.f F14.f l1 l2 l3 l4 l5
noncomputable def l6 : G6 := fun kd d => iterO (r6 kd) d
theorem ok6 : UnOk Tryd.prog (u6 l6) (codeAt [1, 1, 1, 0, 1, 0] (bodyOf Tryd.prog 5)) :=
  loopT (p := (.node .none (.node .none (.node (.node (.node .none (.node .none (.node (.unit (u1 l1)) (.node (.unit (u2 l2)) (.node .none (.node .none (.node .none (.node (.node .none (.node (.unit (u3 l3)) .none)) (.node .none (.node (.unit (u4 l4)) (.node .none (.unit (u5 l5))))))))))))) .none) .none)))) (c := codeAt [1, 1, 1, 0, 1, 0, 0] (bodyOf Tryd.prog 5)) (fuel := 100) (depth := 10) mixed tabS plsP (by kernel_rfl) (planOk_of (.node .none (.node .none (.node (.node (.node .none (.node .none (.node (.unit (u1 l1)) (.node (.unit (u2 l2)) (.node .none (.node .none (.node .none (.node (.node .none (.node (.unit (u3 l3)) .none)) (.node .none (.node (.unit (u4 l4)) (.node .none (.unit (u5 l5))))))))))))) .none) .none))) _ [([1, 1, 0, 0, 1, 1, 0], u1 l1), ([1, 1, 0, 0, 1, 1, 1, 0], u2 l2), ([1, 1, 0, 0, 1, 1, 1, 1, 1, 1, 1, 0, 1, 0], u3 l3), ([1, 1, 0, 0, 1, 1, 1, 1, 1, 1, 1, 1, 1, 0], u4 l4), ([1, 1, 0, 0, 1, 1, 1, 1, 1, 1, 1, 1, 1, 1, 1], u5 l5)] rfl ⟨ok1, ok2, ok3, ok4, ok5, trivial⟩) (by kernel_rfl) (fun kd d => r6e F9.f F14.f l1 l2 l3 l4 l5 kd d) rfl
def fP (x9 : F9.FT) (x14 : F14.FT) (l6 : G6) : FT := fun l =>
    bif decide (0 + l.length ≤ l.length) && true then
      (l6 (List.take l.length l, (↑l.length : Int))
            ((1, 0), (false, false, false, false, false, false, false, false, false), 0)).bind
        fun r0 =>
        bif decide (r0.fst.fst = 0) then some (true, PUnit.unit)
        else bif decide (r0.fst.fst = 1) then some (r0.fst.snd, PUnit.unit) else none
    else none
theorem fe (x9 : F9.FT) (x14 : F14.FT) (l6 : G6) (d : (List (Int × Int × Int × Int × Int × List (Int)))) : bodyF (tabC Tryd.prog (tab x9 x14) ((5, (.node .none (.node .none (.node .none (.node (.node .none (.node (.unit (u6 l6)) .none)) .none))))) :: pls x9 x14) 100 10) 100 5 i o d = fP x9 x14 l6 d := by kernel_rfl
noncomputable def f : FT := fP F9.f F14.f l6
def plan (l6 : G6) : Plan := (.node .none (.node .none (.node .none (.node (.node .none (.node (.unit (u6 l6)) .none)) .none))))
theorem planOk : PlanOk Tryd.prog (plan l6) (bodyOf Tryd.prog 5) := (planOk_of (plan l6) _ [([1, 1, 1, 0, 1, 0], u6 l6)] rfl ⟨ok6, trivial⟩)
theorem meets : MeetsF Tryd.prog 5 ⟨i, o, f⟩ :=
  funcT (fuel := 100) (depth := 10) (pl := (5, plan l6) :: pls F9.f F14.f) mixed tabS ⟨planOk, plsP⟩ (fun d => fe F9.f F14.f l6 d)
theorem spec : SpecOk Tryd.prog (fun _ => none) 5 (specF ⟨i, o, f⟩) := specF_ok (by kernel_rfl) meets
end Go.Proofs.YtendadfdbmoadaaDoor.F5
