/- What comes of function 3 of this program, consulate.consulatelaw29.NetFull, as the engine gives it. -/
import Derived.Test.YteoiaihjapddoaaChecked
import Derived.Test.YteoiaihjapddoaaZN
import Derived.Test.YteoiaihjapddoaaF9
import Derived.Test.YteoiaihjapddoaaF10
import Derived.Test.YteoiaihjapddoaaF11
import Derived.Test.YteoiaihjapddoaaF12
import Derived.Test.YteoiaihjapddoaaF13
import Derived.Test.YteoiaihjapddoaaKA
namespace Go.Proofs.Yteoiaihjapddoaa.F3
open Go Go.Proofs Go.RowKit Go.Proofs.Yteoiaihjapddoaa.Sx
set_option linter.unusedVariables false
set_option maxRecDepth 100000
def tab (x9 : F9.FT) (x10 : F10.FT) (x11 : F11.FT) (x12 : F12.FT) (x13 : F13.FT) : List (FuncId × Sx.Spec) := [(9, specF ⟨F9.i, F9.o, x9⟩), (10, specF ⟨F10.i, F10.o, x10⟩), (11, specF ⟨F11.i, F11.o, x11⟩), (12, specF ⟨F12.i, F12.o, x12⟩), (13, specF ⟨F13.i, F13.o, x13⟩), (14, pureS saysS)]
def pls (x9 : F9.FT) (x10 : F10.FT) (x11 : F11.FT) (x12 : F12.FT) (x13 : F13.FT) : List (FuncId × Plan) := []
@[reducible] def k1 : Sh := .sc (.int .i64) .nil
@[reducible] def i1 : Sh := .pt true 59 (.sl true 61 (.sc .bool (.sc (.int .i64) (.sl true 5 (.sc (.int .u8) .nil) (.sl true 5 (.sc (.int .u8) .nil) .nil)))) (.sc .bool .nil)) (.sl true 5 (.sc (.int .u8) .nil) (.sc (.int .i64) .nil))
@[reducible] def o1 : Sh := .sc (.int .i64) (.sc .bool (.sl true 5 (.sc (.int .u8) .nil) (.sc (.int .i64) .nil)))
abbrev G1 := Int → (((List (Bool × Int × List (Int) × List (Int))) × Bool) × List (Int) × Int) → Option ((Int × Bool × List (Int) × Int) × (((List (Bool × Int × List (Int) × List (Int))) × Bool)))
def u1 (F : G1) : Un := ⟨127, [6], k1, [5, 8, 9], i1, [4, 8, 9], o1, [1, 5, 6], [(.exit 0, [false, true, true]), (.ret, [true, false, false])], F⟩
@[reducible] def i : Sh := .sc (.int .u16) (.sc (.int .u16) .nil)
@[reducible] def o : Sh := .sc .bool .nil
abbrev FT := (Int × Int) → Option (Bool × Unit)
theorem tabS : AllS Try.prog (tab F9.f F10.f F11.f F12.f F13.f) := ⟨F9.spec, F10.spec, F11.spec, F12.spec, F13.spec, says_ok (by kernel_rfl) KA.tells, trivial⟩
theorem plsP : AllP Try.prog (pls F9.f F10.f F11.f F12.f F13.f) := trivial
theorem mixed : Try.prog.follows .mixedOrders = true := by kernel_rfl
def r1P (x9 : F9.FT) (x10 : F10.FT) (x11 : F11.FT) (x12 : F12.FT) (x13 : F13.FT) : Int → (((List (Bool × Int × List (Int) × List (Int))) × Bool) × List (Int) × Int) → Option ((((List (Bool × Int × List (Int) × List (Int))) × Bool) × List (Int) × Int) ⊕ ((Int × Bool × List (Int) × Int) × (((List (Bool × Int × List (Int) × List (Int))) × Bool)))) := fun k ((n0, n1), b, sent) =>
    bif decide ((0 : Nat) + b.length ≤ b.length) && true then
      (x11 ((n0, n1), k, (1 : Int), List.take b.length b)).bind fun r0 =>
        bif r0.fst == (0 : Int) then
          bif decide (IntKind.i64.wrap (sent + (↑b.length : Int)) > (16384 : Int)) then
            some (Sum.inr (((1 : Int), false, [], (0 : Int)), r0.snd))
          else
            (x12 (r0.snd, k, (0 : Int))).bind fun r1 =>
              bif r1.fst != IntKind.i64.wrap (sent + (↑b.length : Int)) then
                some (Sum.inr (((1 : Int), false, [], (0 : Int)), r1.snd))
              else
                bif decide ((0 : Nat) + b.length ≤ b.length) && true then
                  some (Sum.inl (r1.snd, List.take b.length b, IntKind.i64.wrap (sent + (↑b.length : Int))))
                else none
        else
          bif decide ((0 : Nat) + b.length ≤ b.length) && true then
            some (Sum.inr (((0 : Int), false, List.take b.length b, sent), r0.snd))
          else none
    else none
theorem r1e (x9 : F9.FT) (x10 : F10.FT) (x11 : F11.FT) (x12 : F12.FT) (x13 : F13.FT) (kd : Int) (d : ((List (Bool × Int × List (Int) × List (Int))) × Bool) × List (Int) × Int) : roundF (tabC Try.prog (tab x9 x10 x11 x12 x13) (pls x9 x10 x11 x12 x13) 100 10) 100 .none (u1 fun _ _ => none) (codeAt [1, 1, 1, 1, 1, 1, 0, 0, 0] (bodyOf Try.prog 3)) kd d = r1P x9 x10 x11 x12 x13 kd d := by kernel_rfl
noncomputable def r1 : Int → (((List (Bool × Int × List (Int) × List (Int))) × Bool) × List (Int) × Int) → Option ((((List (Bool × Int × List (Int) × List (Int))) × Bool) × List (Int) × Int) ⊕ ((Int × Bool × List (Int) × Int) × (((List (Bool × Int × List (Int) × List (Int))) × Bool)))) := r1P F9.f F10.f F11.f F12.f F13.f
noncomputable def l1 : G1 := fun kd d => iterO (r1 kd) d
theorem ok1 : UnOk Try.prog (u1 l1) (codeAt [1, 1, 1, 1, 1, 1, 0, 0] (bodyOf Try.prog 3)) :=
  loopT (p := .none) (c := codeAt [1, 1, 1, 1, 1, 1, 0, 0, 0] (bodyOf Try.prog 3)) (fuel := 100) (depth := 10) mixed tabS plsP (by kernel_rfl) trivial (by kernel_rfl) (fun kd d => r1e F9.f F10.f F11.f F12.f F13.f kd d) rfl
def fP (x9 : F9.FT) (x10 : F10.FT) (x11 : F11.FT) (x12 : F12.FT) (x13 : F13.FT) (l1 : G1) : FT := fun (size, many) =>
    (x9 ([], true)).bind fun r0 =>
      bif r0.fst.snd != (0 : Int) then some (false, PUnit.unit)
      else
        (x10 (r0.snd, r0.fst.fst)).bind fun r1 =>
          bif r1.fst != (0 : Int) then some (false, PUnit.unit)
          else
            bif
                decide
                  ((0 : Int) ≤ IntKind.i64.wrap ((1 : Int) + IntKind.i64.wrap (size.tmod (5000 : Int))) ∧
                    IntKind.i64.wrap ((1 : Int) + IntKind.i64.wrap (size.tmod (5000 : Int))) ≤
                        IntKind.i64.wrap ((1 : Int) + IntKind.i64.wrap (size.tmod (5000 : Int))) ∧
                      IntKind.i64.wrap ((1 : Int) + IntKind.i64.wrap (size.tmod (5000 : Int))) ≤ (1073741824 : Int) ∧
                        (↑(OfNat.ofNat (1 : Nat)) : Int) *
                            IntKind.i64.wrap ((1 : Int) + IntKind.i64.wrap (size.tmod (5000 : Int))) ≤
                          (281474976710656 : Int)) then
              bif
                  decide
                      ((0 : Nat) + (IntKind.i64.wrap ((1 : Int) + IntKind.i64.wrap (size.tmod (5000 : Int)))).toNat ≤
                        (List.replicate (IntKind.i64.wrap ((1 : Int) + IntKind.i64.wrap (size.tmod (5000 : Int)))).toNat
                            (0 : Int)).length) &&
                    true then
                (l1 r0.fst.fst
                      (r1.snd,
                        List.take (IntKind.i64.wrap ((1 : Int) + IntKind.i64.wrap (size.tmod (5000 : Int)))).toNat
                          (List.drop (0 : Nat)
                            (List.replicate
                              (IntKind.i64.wrap ((1 : Int) + IntKind.i64.wrap (size.tmod (5000 : Int)))).toNat
                              (0 : Int))),
                        (0 : Int))).bind
                  fun r2 =>
                  bif decide (r2.fst.fst = (0 : Int)) then
                    bif
                        decide
                          (IntKind.i64.wrap (r2.fst.snd.snd.snd + (↑r2.fst.snd.snd.fst.length : Int)) ≤
                            (16384 : Int)) then
                      some (false, PUnit.unit)
                    else
                      bif decide ((0 : Nat) + r2.fst.snd.snd.fst.length ≤ r2.fst.snd.snd.fst.length) && true then
                        (x11
                              (r2.snd, r0.fst.fst, (1 : Int),
                                List.take r2.fst.snd.snd.fst.length (List.drop (0 : Nat) r2.fst.snd.snd.fst))).bind
                          fun r3 =>
                          bif r3.fst != (7 : Int) then some (false, PUnit.unit)
                          else
                            (x12 (r3.snd, r0.fst.fst, (0 : Int))).bind fun r4 =>
                              bif r4.fst != r2.fst.snd.snd.snd then some (false, PUnit.unit)
                              else
                                (x12 (r4.snd, r0.fst.fst, (1 : Int))).bind fun r5 =>
                                  bif r5.fst != (0 : Int) then some (false, PUnit.unit)
                                  else
                                    (x13 (r5.snd, r0.fst.fst, (0 : Int), IntKind.i64.wrap many)).bind fun r6 =>
                                      bif r6.fst.snd == (0 : Int) then
                                        bif
                                            (↑r6.fst.fst.length : Int) ==
                                              if r2.fst.snd.snd.snd < IntKind.i64.wrap many then r2.fst.snd.snd.snd
                                              else IntKind.i64.wrap many then
                                          bif
                                              decide
                                                ((0 : Int) ≤
                                                    IntKind.i64.wrap
                                                      (IntKind.i64.wrap
                                                          ((16384 : Int) -
                                                            IntKind.i64.wrap
                                                              (r2.fst.snd.snd.snd - (↑r6.fst.fst.length : Int))) +
                                                        (1 : Int)) ∧
                                                  IntKind.i64.wrap
                                                        (IntKind.i64.wrap
                                                            ((16384 : Int) -
                                                              IntKind.i64.wrap
                                                                (r2.fst.snd.snd.snd - (↑r6.fst.fst.length : Int))) +
                                                          (1 : Int)) ≤
                                                      IntKind.i64.wrap
                                                        (IntKind.i64.wrap
                                                            ((16384 : Int) -
                                                              IntKind.i64.wrap
                                                                (r2.fst.snd.snd.snd - (↑r6.fst.fst.length : Int))) +
                                                          (1 : Int)) ∧
                                                    IntKind.i64.wrap
                                                          (IntKind.i64.wrap
                                                              ((16384 : Int) -
                                                                IntKind.i64.wrap
                                                                  (r2.fst.snd.snd.snd - (↑r6.fst.fst.length : Int))) +
                                                            (1 : Int)) ≤
                                                        (1073741824 : Int) ∧
                                                      (↑(OfNat.ofNat (1 : Nat)) : Int) *
                                                          IntKind.i64.wrap
                                                            (IntKind.i64.wrap
                                                                ((16384 : Int) -
                                                                  IntKind.i64.wrap
                                                                    (r2.fst.snd.snd.snd - (↑r6.fst.fst.length : Int))) +
                                                              (1 : Int)) ≤
                                                        (281474976710656 : Int)) then
                                            bif
                                                decide
                                                    ((0 : Nat) +
                                                        (IntKind.i64.wrap
                                                            (IntKind.i64.wrap
                                                                ((16384 : Int) -
                                                                  IntKind.i64.wrap
                                                                    (r2.fst.snd.snd.snd - (↑r6.fst.fst.length : Int))) +
                                                              (1 : Int))).toNat ≤
                                                      (List.replicate
                                                          (IntKind.i64.wrap
                                                              (IntKind.i64.wrap
                                                                  ((16384 : Int) -
                                                                    IntKind.i64.wrap
                                                                      (r2.fst.snd.snd.snd - (↑r6.fst.fst.length : Int))) +
                                                                (1 : Int))).toNat
                                                          (0 : Int)).length) &&
                                                  true then
                                              (x11
                                                    (r6.snd, r0.fst.fst, (1 : Int),
                                                      List.take
                                                        (IntKind.i64.wrap
                                                            (IntKind.i64.wrap
                                                                ((16384 : Int) -
                                                                  IntKind.i64.wrap
                                                                    (r2.fst.snd.snd.snd - (↑r6.fst.fst.length : Int))) +
                                                              (1 : Int))).toNat
                                                        (List.drop (0 : Nat)
                                                          (List.replicate
                                                            (IntKind.i64.wrap
                                                                (IntKind.i64.wrap
                                                                    ((16384 : Int) -
                                                                      IntKind.i64.wrap
                                                                        (r2.fst.snd.snd.snd -
                                                                          (↑r6.fst.fst.length : Int))) +
                                                                  (1 : Int))).toNat
                                                            (0 : Int))))).bind
                                                fun r7 =>
                                                bif r7.fst == (7 : Int) then
                                                  bif
                                                      decide
                                                        ((0 : Int) ≤
                                                            IntKind.i64.wrap
                                                              ((16384 : Int) -
                                                                IntKind.i64.wrap
                                                                  (r2.fst.snd.snd.snd - (↑r6.fst.fst.length : Int))) ∧
                                                          IntKind.i64.wrap
                                                                ((16384 : Int) -
                                                                  IntKind.i64.wrap
                                                                    (r2.fst.snd.snd.snd - (↑r6.fst.fst.length : Int))) ≤
                                                              IntKind.i64.wrap
                                                                ((16384 : Int) -
                                                                  IntKind.i64.wrap
                                                                    (r2.fst.snd.snd.snd - (↑r6.fst.fst.length : Int))) ∧
                                                            IntKind.i64.wrap
                                                                  ((16384 : Int) -
                                                                    IntKind.i64.wrap
                                                                      (r2.fst.snd.snd.snd - (↑r6.fst.fst.length : Int))) ≤
                                                                (1073741824 : Int) ∧
                                                              (↑(OfNat.ofNat (1 : Nat)) : Int) *
                                                                  IntKind.i64.wrap
                                                                    ((16384 : Int) -
                                                                      IntKind.i64.wrap
                                                                        (r2.fst.snd.snd.snd -
                                                                          (↑r6.fst.fst.length : Int))) ≤
                                                                (281474976710656 : Int)) then
                                                    bif
                                                        decide
                                                            ((0 : Nat) +
                                                                (IntKind.i64.wrap
                                                                    ((16384 : Int) -
                                                                      IntKind.i64.wrap
                                                                        (r2.fst.snd.snd.snd -
                                                                          (↑r6.fst.fst.length : Int)))).toNat ≤
                                                              (List.replicate
                                                                  (IntKind.i64.wrap
                                                                      ((16384 : Int) -
                                                                        IntKind.i64.wrap
                                                                          (r2.fst.snd.snd.snd -
                                                                            (↑r6.fst.fst.length : Int)))).toNat
                                                                  (0 : Int)).length) &&
                                                          true then
                                                      (x11
                                                            (r7.snd, r0.fst.fst, (1 : Int),
                                                              List.take
                                                                (IntKind.i64.wrap
                                                                    ((16384 : Int) -
                                                                      IntKind.i64.wrap
                                                                        (r2.fst.snd.snd.snd -
                                                                          (↑r6.fst.fst.length : Int)))).toNat
                                                                (List.drop (0 : Nat)
                                                                  (List.replicate
                                                                    (IntKind.i64.wrap
                                                                        ((16384 : Int) -
                                                                          IntKind.i64.wrap
                                                                            (r2.fst.snd.snd.snd -
                                                                              (↑r6.fst.fst.length : Int)))).toNat
                                                                    (0 : Int))))).bind
                                                        fun r8 =>
                                                        bif r8.fst == (0 : Int) then
                                                          (x12 (r8.snd, r0.fst.fst, (0 : Int))).bind fun r9 =>
                                                            bif r9.fst == (16384 : Int) then some (true, PUnit.unit)
                                                            else some (false, PUnit.unit)
                                                        else some (false, PUnit.unit)
                                                    else none
                                                  else none
                                                else some (false, PUnit.unit)
                                            else none
                                          else none
                                        else some (false, PUnit.unit)
                                      else some (false, PUnit.unit)
                      else none
                  else bif decide (r2.fst.fst = (1 : Int)) then some (r2.fst.snd.fst, PUnit.unit) else none
              else none
            else none
theorem fe (x9 : F9.FT) (x10 : F10.FT) (x11 : F11.FT) (x12 : F12.FT) (x13 : F13.FT) (l1 : G1) (d : Int × Int) : bodyF (tabC Try.prog (tab x9 x10 x11 x12 x13) ((3, (.node .none (.node .none (.node .none (.node .none (.node .none (.node .none (.node (.node (.unit (u1 l1)) .none) .none)))))))) :: pls x9 x10 x11 x12 x13) 100 10) 100 3 i o d = fP x9 x10 x11 x12 x13 l1 d := by kernel_rfl
noncomputable def f : FT := fP F9.f F10.f F11.f F12.f F13.f l1
def plan (l1 : G1) : Plan := (.node .none (.node .none (.node .none (.node .none (.node .none (.node .none (.node (.node (.unit (u1 l1)) .none) .none)))))))
theorem planOk : PlanOk Try.prog (plan l1) (bodyOf Try.prog 3) := (planOk_of (plan l1) _ [([1, 1, 1, 1, 1, 1, 0, 0], u1 l1)] rfl ⟨ok1, trivial⟩)
theorem meets : MeetsF Try.prog 3 ⟨i, o, f⟩ :=
  funcT (fuel := 100) (depth := 10) (pl := (3, plan l1) :: pls F9.f F10.f F11.f F12.f F13.f) mixed tabS ⟨planOk, plsP⟩ (fun d => fe F9.f F10.f F11.f F12.f F13.f l1 d)
theorem spec : SpecOk Try.prog (fun _ => none) 3 (specF ⟨i, o, f⟩) := specF_ok (by kernel_rfl) meets
end Go.Proofs.Yteoiaihjapddoaa.F3
