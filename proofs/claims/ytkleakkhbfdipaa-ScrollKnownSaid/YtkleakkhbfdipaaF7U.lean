/- What comes of function 7 of this program, consulate.consulatelaw01.ScrollKnown, as the engine gives it. -/
import Derived.Test.YtkleakkhbfdipaaChecked
import Derived.Test.YtkleakkhbfdipaaZN
import Derived.Test.YtkleakkhbfdipaaF51
import Derived.Test.YtkleakkhbfdipaaKA
namespace Go.Proofs.Ytkleakkhbfdipaa.F7U
open Go Go.Proofs Go.Proofs.Ytkleakkhbfdipaa Go.RowKit Go.Proofs.Ytkleakkhbfdipaa.Sx
set_option linter.unusedVariables false
set_option maxRecDepth 100000
def tab (x51 : F51.FT) : List (FuncId × Sx.Spec) := [(51, specF ⟨F51.i, F51.o, x51⟩), (21, pureS saysS)]
def pls (x51 : F51.FT) : List (FuncId × Plan) := []
def subO (m n : Int) : Operand → Operand
  | .const (.int .i64 k) => if k = m then .const (.int .i64 n) else .const (.int .i64 k)
  | x => x
def subOp (m n : Int) : Op → Op
  | .makeSlice t a b => .makeSlice t (subO m n a) (subO m n b)
  | x => x
def subC (m n : Int) : Code → Code
  | .region i ops d => .region i (Array.mk (ops.toList.map fun o => { o with op := subOp m n o.op })) d
  | c => c
@[reducible] def k1 : Sh := .nil
@[reducible] def i1 : Sh := .nil
@[reducible] def o1 : Sh := .sc (.int .i64) .nil
abbrev G1 := Unit → Unit → Option (Int × Unit)
def u1 (F : G1) : Un := ⟨269, [], k1, [], i1, [25], o1, [10, 11, 12, 13, 14, 15, 16, 17, 19, 21, 23], [(.normal, [true])], F⟩
@[reducible] def k2 : Sh := .nil
@[reducible] def i2 : Sh := .nil
@[reducible] def o2 : Sh := .sl true 5 (.sc (.int .u8) .nil) (.sc (.int .i64) .nil)
abbrev G2 := Unit → Unit → Option ((List (Int) × Int) × Unit)
def u2 (F : G2) : Un := ⟨269, [], k2, [], i2, [26, 27], o2, [10, 11, 12, 13, 14, 15, 16, 17, 19, 21, 23, 25], [(.normal, [true, true])], F⟩
@[reducible] def k3 : Sh := .nil
@[reducible] def i3 : Sh := .nil
@[reducible] def o3 : Sh := .sc (.int .i64) .nil
abbrev G3 := Unit → Unit → Option (Int × Unit)
def u3 (F : G3) : Un := ⟨269, [], k3, [], i3, [31], o3, [10, 11, 12, 13, 14, 15, 16, 17, 19, 21, 23, 25, 26, 27, 28, 29], [(.normal, [true])], F⟩
theorem tabS : AllS Try.prog (tab F51.f) := ⟨F51.spec, says_ok (by kernel_rfl) KA.tells, trivial⟩
theorem plsP : AllP Try.prog (pls F51.f) := trivial
theorem mixed : Try.prog.follows .mixedOrders = true := by kernel_rfl
def r1P (x51 : F51.FT)  (nn : Int) : G1 := fun () () =>
    bif
        decide
          ((0 : Int) ≤ nn ∧
            nn ≤ nn ∧ nn ≤ (1073741824 : Int) ∧ (↑(OfNat.ofNat (1 : Nat)) : Int) * nn ≤ (281474976710656 : Int)) then
      bif decide ((0 : Nat) + nn.toNat ≤ (List.replicate nn.toNat (0 : Int)).length) then
        bif
            decide
              ((1 : Nat) + (List.take nn.toNat (List.drop (0 : Nat) (List.replicate nn.toNat (0 : Int)))).length ≤
                (1073741824 : Nat)) then
          bif
              decide
                (IntKind.i64.wrap
                    (IntKind.i64.wrap
                        ((↑((1 : Nat) +
                                (List.take nn.toNat (List.drop (0 : Nat) (List.replicate nn.toNat (0 : Int)))).length) :
                            Int) -
                          (0 : Int)) -
                      (1 : Int)) ≥
                  (256 : Int)) then
            some ((3 : Int), PUnit.unit)
          else
            bif
                decide
                  ((0 : Int) ≤ (0 : Int) ∧
                    (0 : Int) <
                        (↑((1 : Nat) +
                              (List.take nn.toNat (List.drop (0 : Nat) (List.replicate nn.toNat (0 : Int)))).length) :
                          Int) ∧
                      (0 : Nat) <
                        ((0 : Int) ::
                            List.take nn.toNat (List.drop (0 : Nat) (List.replicate nn.toNat (0 : Int)))).length) then
              bif
                  decide
                      ((0 : Nat) +
                          ((1 : Nat) +
                            (List.take nn.toNat (List.drop (0 : Nat) (List.replicate nn.toNat (0 : Int)))).length) ≤
                        (IntKind.u8.wrap
                              (IntKind.i64.wrap
                                (IntKind.i64.wrap
                                    ((↑((1 : Nat) +
                                            (List.take nn.toNat
                                                (List.drop (0 : Nat) (List.replicate nn.toNat (0 : Int)))).length) :
                                        Int) -
                                      (0 : Int)) -
                                  (1 : Int))) ::
                            List.take nn.toNat (List.drop (0 : Nat) (List.replicate nn.toNat (0 : Int)))).length) &&
                    true then
                (x51
                      (List.take
                        ((1 : Nat) +
                          (List.take nn.toNat (List.drop (0 : Nat) (List.replicate nn.toNat (0 : Int)))).length)
                        (IntKind.u8.wrap
                            (IntKind.i64.wrap
                              (IntKind.i64.wrap
                                  ((↑((1 : Nat) +
                                          (List.take nn.toNat
                                              (List.drop (0 : Nat) (List.replicate nn.toNat (0 : Int)))).length) :
                                      Int) -
                                    (0 : Int)) -
                                (1 : Int))) ::
                          List.take nn.toNat (List.drop (0 : Nat) (List.replicate nn.toNat (0 : Int)))))).bind
                  fun r0 => some ((0 : Int), PUnit.unit)
              else none
            else none
        else none
      else none
    else none
theorem r1e (x51 : F51.FT)  (nn : Int) (kd : Unit) (d : Unit) : unitF (tabC Try.prog (tab x51) (pls x51) 100 14) 100 .none (u1 fun _ _ => none) (subC 256 nn (codeAt [1, 1, 1, 1, 1, 1, 1, 1, 1, 1, 1, 1, 1, 1, 1, 1, 1, 1, 1, 1, 1, 1, 1, 1, 0] (bodyOf Try.prog 7))) kd d = r1P x51  nn kd d := by kernel_rfl
noncomputable def r1 : G1 := r1P F51.f  (256 : Int)
noncomputable def l1 : G1 := r1
theorem same1 : subC 256 256 (codeAt [1, 1, 1, 1, 1, 1, 1, 1, 1, 1, 1, 1, 1, 1, 1, 1, 1, 1, 1, 1, 1, 1, 1, 1, 0] (bodyOf Try.prog 7)) = (codeAt [1, 1, 1, 1, 1, 1, 1, 1, 1, 1, 1, 1, 1, 1, 1, 1, 1, 1, 1, 1, 1, 1, 1, 1, 0] (bodyOf Try.prog 7)) := by kernel_rfl
theorem okn1 (n : Int) : UnOk Try.prog (u1 (r1P F51.f  n)) (subC 256 n (codeAt [1, 1, 1, 1, 1, 1, 1, 1, 1, 1, 1, 1, 1, 1, 1, 1, 1, 1, 1, 1, 1, 1, 1, 1, 0] (bodyOf Try.prog 7))) :=
  blockT (p := .none) (fuel := 100) (depth := 14) mixed tabS plsP trivial (fun kd d => r1e F51.f  n kd d)
theorem ok1 : UnOk Try.prog (u1 l1) (codeAt [1, 1, 1, 1, 1, 1, 1, 1, 1, 1, 1, 1, 1, 1, 1, 1, 1, 1, 1, 1, 1, 1, 1, 1, 0] (bodyOf Try.prog 7)) := Eq.subst (motive := fun c => UnOk Try.prog (u1 l1) c) same1 (okn1 256)
def r2P (x51 : F51.FT)  (nn : Int) : G2 := fun () () =>
    bif
        decide
          ((0 : Int) ≤ nn ∧
            nn ≤ nn ∧ nn ≤ (1073741824 : Int) ∧ (↑(OfNat.ofNat (1 : Nat)) : Int) * nn ≤ (281474976710656 : Int)) then
      bif decide ((0 : Nat) + nn.toNat ≤ (List.replicate nn.toNat (0 : Int)).length) then
        bif
            decide
              ((1 : Nat) + (List.take nn.toNat (List.drop (0 : Nat) (List.replicate nn.toNat (0 : Int)))).length ≤
                (1073741824 : Nat)) then
          bif
              decide
                (IntKind.i64.wrap
                    (IntKind.i64.wrap
                        ((↑((1 : Nat) +
                                (List.take nn.toNat (List.drop (0 : Nat) (List.replicate nn.toNat (0 : Int)))).length) :
                            Int) -
                          (0 : Int)) -
                      (1 : Int)) ≥
                  (256 : Int)) then
            some (([], (3 : Int)), PUnit.unit)
          else
            bif
                decide
                  ((0 : Int) ≤ (0 : Int) ∧
                    (0 : Int) <
                        (↑((1 : Nat) +
                              (List.take nn.toNat (List.drop (0 : Nat) (List.replicate nn.toNat (0 : Int)))).length) :
                          Int) ∧
                      (0 : Nat) <
                        ((0 : Int) ::
                            List.take nn.toNat (List.drop (0 : Nat) (List.replicate nn.toNat (0 : Int)))).length) then
              bif
                  decide
                      ((0 : Nat) +
                          ((1 : Nat) +
                            (List.take nn.toNat (List.drop (0 : Nat) (List.replicate nn.toNat (0 : Int)))).length) ≤
                        (IntKind.u8.wrap
                              (IntKind.i64.wrap
                                (IntKind.i64.wrap
                                    ((↑((1 : Nat) +
                                            (List.take nn.toNat
                                                (List.drop (0 : Nat) (List.replicate nn.toNat (0 : Int)))).length) :
                                        Int) -
                                      (0 : Int)) -
                                  (1 : Int))) ::
                            List.take nn.toNat (List.drop (0 : Nat) (List.replicate nn.toNat (0 : Int)))).length) &&
                    true then
                (x51
                      (List.take
                        ((1 : Nat) +
                          (List.take nn.toNat (List.drop (0 : Nat) (List.replicate nn.toNat (0 : Int)))).length)
                        (IntKind.u8.wrap
                            (IntKind.i64.wrap
                              (IntKind.i64.wrap
                                  ((↑((1 : Nat) +
                                          (List.take nn.toNat
                                              (List.drop (0 : Nat) (List.replicate nn.toNat (0 : Int)))).length) :
                                      Int) -
                                    (0 : Int)) -
                                (1 : Int))) ::
                          List.take nn.toNat (List.drop (0 : Nat) (List.replicate nn.toNat (0 : Int)))))).bind
                  fun r0 =>
                  bif decide ((0 : Nat) + List.length r0.fst ≤ List.length r0.fst) && true then
                    some ((List.take (List.length r0.fst) (List.drop (0 : Nat) r0.fst), (0 : Int)), PUnit.unit)
                  else none
              else none
            else none
        else none
      else none
    else none
theorem r2e (x51 : F51.FT)  (nn : Int) (kd : Unit) (d : Unit) : unitF (tabC Try.prog (tab x51) (pls x51) 100 14) 100 .none (u2 fun _ _ => none) (subC 255 nn (codeAt [1, 1, 1, 1, 1, 1, 1, 1, 1, 1, 1, 1, 1, 1, 1, 1, 1, 1, 1, 1, 1, 1, 1, 1, 1, 0] (bodyOf Try.prog 7))) kd d = r2P x51  nn kd d := by kernel_rfl
noncomputable def r2 : G2 := r2P F51.f  (255 : Int)
noncomputable def l2 : G2 := r2
theorem same2 : subC 255 255 (codeAt [1, 1, 1, 1, 1, 1, 1, 1, 1, 1, 1, 1, 1, 1, 1, 1, 1, 1, 1, 1, 1, 1, 1, 1, 1, 0] (bodyOf Try.prog 7)) = (codeAt [1, 1, 1, 1, 1, 1, 1, 1, 1, 1, 1, 1, 1, 1, 1, 1, 1, 1, 1, 1, 1, 1, 1, 1, 1, 0] (bodyOf Try.prog 7)) := by kernel_rfl
theorem okn2 (n : Int) : UnOk Try.prog (u2 (r2P F51.f  n)) (subC 255 n (codeAt [1, 1, 1, 1, 1, 1, 1, 1, 1, 1, 1, 1, 1, 1, 1, 1, 1, 1, 1, 1, 1, 1, 1, 1, 1, 0] (bodyOf Try.prog 7))) :=
  blockT (p := .none) (fuel := 100) (depth := 14) mixed tabS plsP trivial (fun kd d => r2e F51.f  n kd d)
theorem ok2 : UnOk Try.prog (u2 l2) (codeAt [1, 1, 1, 1, 1, 1, 1, 1, 1, 1, 1, 1, 1, 1, 1, 1, 1, 1, 1, 1, 1, 1, 1, 1, 1, 0] (bodyOf Try.prog 7)) := Eq.subst (motive := fun c => UnOk Try.prog (u2 l2) c) same2 (okn2 255)
def r3P (x51 : F51.FT)  (nn : Int) : G3 := fun () () =>
    bif
        decide
          ((0 : Int) ≤ nn ∧
            nn ≤ nn ∧ nn ≤ (1073741824 : Int) ∧ (↑(OfNat.ofNat (1 : Nat)) : Int) * nn ≤ (281474976710656 : Int)) then
      bif decide ((0 : Nat) + nn.toNat ≤ (List.replicate nn.toNat (0 : Int)).length) then
        bif
            decide
              ((2 : Nat) + (List.take nn.toNat (List.drop (0 : Nat) (List.replicate nn.toNat (0 : Int)))).length ≤
                (1073741824 : Nat)) then
          bif
              decide
                (IntKind.i64.wrap
                    (IntKind.i64.wrap
                        ((↑((2 : Nat) +
                                (List.take nn.toNat (List.drop (0 : Nat) (List.replicate nn.toNat (0 : Int)))).length) :
                            Int) -
                          (0 : Int)) -
                      (2 : Int)) ≥
                  (65536 : Int)) then
            some ((3 : Int), PUnit.unit)
          else
            bif
                decide
                  ((0 : Int) ≤ (1 : Int) ∧
                    (1 : Int) <
                        (↑((2 : Nat) +
                              (List.take nn.toNat (List.drop (0 : Nat) (List.replicate nn.toNat (0 : Int)))).length) :
                          Int) ∧
                      (0 : Nat) <
                        ((0 : Int) ::
                            (0 : Int) ::
                              List.take nn.toNat (List.drop (0 : Nat) (List.replicate nn.toNat (0 : Int)))).length) then
              bif
                  decide
                    ((0 : Int) ≤ (0 : Int) ∧
                      (0 : Int) <
                          (↑((2 : Nat) +
                                (List.take nn.toNat (List.drop (0 : Nat) (List.replicate nn.toNat (0 : Int)))).length) :
                            Int) ∧
                        (0 : Nat) <
                          ((0 : Int) ::
                              IntKind.u8.wrap
                                  (IntKind.i64.wrap
                                    (IntKind.i64.wrap
                                        ((↑((2 : Nat) +
                                                (List.take nn.toNat
                                                    (List.drop (0 : Nat) (List.replicate nn.toNat (0 : Int)))).length) :
                                            Int) -
                                          (0 : Int)) -
                                      (2 : Int))) ::
                                List.take nn.toNat (List.drop (0 : Nat) (List.replicate nn.toNat (0 : Int)))).length) then
                bif
                    decide
                        ((0 : Nat) +
                            ((2 : Nat) +
                              (List.take nn.toNat (List.drop (0 : Nat) (List.replicate nn.toNat (0 : Int)))).length) ≤
                          (IntKind.u8.wrap
                                ((IntKind.i64.wrap
                                      (IntKind.i64.wrap
                                          ((↑((2 : Nat) +
                                                  (List.take nn.toNat
                                                      (List.drop (0 : Nat) (List.replicate nn.toNat (0 : Int)))).length) :
                                              Int) -
                                            (0 : Int)) -
                                        (2 : Int))).fdiv
                                  (256 : Int)) ::
                              IntKind.u8.wrap
                                  (IntKind.i64.wrap
                                    (IntKind.i64.wrap
                                        ((↑((2 : Nat) +
                                                (List.take nn.toNat
                                                    (List.drop (0 : Nat) (List.replicate nn.toNat (0 : Int)))).length) :
                                            Int) -
                                          (0 : Int)) -
                                      (2 : Int))) ::
                                List.take nn.toNat (List.drop (0 : Nat) (List.replicate nn.toNat (0 : Int)))).length) &&
                      true then
                  (x51
                        (List.take
                          ((2 : Nat) +
                            (List.take nn.toNat (List.drop (0 : Nat) (List.replicate nn.toNat (0 : Int)))).length)
                          (IntKind.u8.wrap
                              ((IntKind.i64.wrap
                                    (IntKind.i64.wrap
                                        ((↑((2 : Nat) +
                                                (List.take nn.toNat
                                                    (List.drop (0 : Nat) (List.replicate nn.toNat (0 : Int)))).length) :
                                            Int) -
                                          (0 : Int)) -
                                      (2 : Int))).fdiv
                                (256 : Int)) ::
                            IntKind.u8.wrap
                                (IntKind.i64.wrap
                                  (IntKind.i64.wrap
                                      ((↑((2 : Nat) +
                                              (List.take nn.toNat
                                                  (List.drop (0 : Nat) (List.replicate nn.toNat (0 : Int)))).length) :
                                          Int) -
                                        (0 : Int)) -
                                    (2 : Int))) ::
                              List.take nn.toNat (List.drop (0 : Nat) (List.replicate nn.toNat (0 : Int)))))).bind
                    fun r0 => some ((0 : Int), PUnit.unit)
                else none
              else none
            else none
        else none
      else none
    else none
theorem r3e (x51 : F51.FT)  (nn : Int) (kd : Unit) (d : Unit) : unitF (tabC Try.prog (tab x51) (pls x51) 100 14) 100 .none (u3 fun _ _ => none) (subC 65536 nn (codeAt [1, 1, 1, 1, 1, 1, 1, 1, 1, 1, 1, 1, 1, 1, 1, 1, 1, 1, 1, 1, 1, 1, 1, 1, 1, 1, 1, 0] (bodyOf Try.prog 7))) kd d = r3P x51  nn kd d := by kernel_rfl
noncomputable def r3 : G3 := r3P F51.f  (65536 : Int)
noncomputable def l3 : G3 := r3
theorem same3 : subC 65536 65536 (codeAt [1, 1, 1, 1, 1, 1, 1, 1, 1, 1, 1, 1, 1, 1, 1, 1, 1, 1, 1, 1, 1, 1, 1, 1, 1, 1, 1, 0] (bodyOf Try.prog 7)) = (codeAt [1, 1, 1, 1, 1, 1, 1, 1, 1, 1, 1, 1, 1, 1, 1, 1, 1, 1, 1, 1, 1, 1, 1, 1, 1, 1, 1, 0] (bodyOf Try.prog 7)) := by kernel_rfl
theorem okn3 (n : Int) : UnOk Try.prog (u3 (r3P F51.f  n)) (subC 65536 n (codeAt [1, 1, 1, 1, 1, 1, 1, 1, 1, 1, 1, 1, 1, 1, 1, 1, 1, 1, 1, 1, 1, 1, 1, 1, 1, 1, 1, 0] (bodyOf Try.prog 7))) :=
  blockT (p := .none) (fuel := 100) (depth := 14) mixed tabS plsP trivial (fun kd d => r3e F51.f  n kd d)
theorem ok3 : UnOk Try.prog (u3 l3) (codeAt [1, 1, 1, 1, 1, 1, 1, 1, 1, 1, 1, 1, 1, 1, 1, 1, 1, 1, 1, 1, 1, 1, 1, 1, 1, 1, 1, 0] (bodyOf Try.prog 7)) := Eq.subst (motive := fun c => UnOk Try.prog (u3 l3) c) same3 (okn3 65536)
end Go.Proofs.Ytkleakkhbfdipaa.F7U
