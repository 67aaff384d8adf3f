/- What comes of function 3 of this program, consulate.consulatelaw14.SessionRuns, as the engine gives it. -/
import Derived.Test.YtendadfdbmoadaaDoorChecked
import Derived.Test.YtendadfdbmoadaaDoorZN
import Derived.Test.YtendadfdbmoadaaDoorF9
import Derived.Test.YtendadfdbmoadaaDoorF10
import Derived.Test.YtendadfdbmoadaaDoorF12
import Derived.Test.YtendadfdbmoadaaDoorKA
namespace Go.Proofs.YtendadfdbmoadaaDoor.F3
open Go Go.Proofs Go.Proofs.YtendadfdbmoadaaDoor Go.RowKit Go.Proofs.YtendadfdbmoadaaDoor.Sx
set_option linter.unusedVariables false
set_option maxRecDepth 100000
def tab (x9 : F9.FT) (x10 : F10.FT) (x12 : F12.FT) : List (FuncId × Sx.Spec) := [(9, specF ⟨F9.i, F9.o, x9⟩), (10, specF ⟨F10.i, F10.o, x10⟩), (12, specF ⟨F12.i, F12.o, x12⟩), (13, pureS saysS)]
def pls (x9 : F9.FT) (x10 : F10.FT) (x12 : F12.FT) : List (FuncId × Plan) := []
@[reducible] def k1 : Sh := .sl false 31 (.sc (.int .i64) (.sc (.int .u8) (.sc (.int .i64) (.sc (.int .u8) (.sc (.int .u8) (.sl false 5 (.sc (.int .u8) .nil) .nil)))))) .nil
@[reducible] def i1 : Sh := .pt true 24 (.sc (.int .i64) (.sc (.int .i64) .nil)) (.pt true 26 (.sc (.int .i64) (.sc (.int .i64) .nil)) (.sc (.int .i64) .nil))
@[reducible] def o1 : Sh := .sc (.int .i64) (.sc .bool .nil)
abbrev G1 := ((List (Int × Int × Int × Int × Int × List (Int)))) → ((Int × Int) × (Int × Int) × Int) → Option ((Int × Bool) × ((Int × Int) × (Int × Int)))
def u1 (F : G1) : Un := ⟨56, [0], k1, [3, 4, 5], i1, [2], o1, [0, 3, 4], [(.exit 0, [false]), (.ret, [true])], F⟩
@[reducible] def i : Sh := .sl false 31 (.sc (.int .i64) (.sc (.int .u8) (.sc (.int .i64) (.sc (.int .u8) (.sc (.int .u8) (.sl false 5 (.sc (.int .u8) .nil) .nil)))))) .nil
@[reducible] def o : Sh := .sc .bool .nil
abbrev FT := ((List (Int × Int × Int × Int × Int × List (Int)))) → Option (Bool × Unit)
theorem tabS : AllS Tryd.prog (tab F9.f F10.f F12.f) := ⟨F9.spec, F10.spec, F12.spec, says_ok (by kernel_rfl) KA.tells, trivial⟩
theorem plsP : AllP Tryd.prog (pls F9.f F10.f F12.f) := trivial
theorem mixed : Tryd.prog.follows .mixedOrders = true := by kernel_rfl
def r1P (x9 : F9.FT) (x10 : F10.FT) (x12 : F12.FT) : ((List (Int × Int × Int × Int × Int × List (Int)))) → ((Int × Int) × (Int × Int) × Int) → Option (((Int × Int) × (Int × Int) × Int) ⊕ ((Int × Bool) × ((Int × Int) × (Int × Int)))) := fun l ((m0, m1), (w0, w1), i) =>
    bif decide (i < (↑l.length : Int)) then
      bif decide (i < 60) then
        bif decide (0 ≤ i ∧ i < (↑l.length : Int) ∧ 0 < l.length) then
          bif decide (0 + i.toNat < l.length) then
            bif
                decide
                  (0 ≤
                      (some
                            (if
                                20 <
                                  (↑(List.length (l.getD (0 + i.toNat) (0, 0, 0, 0, 0, [])).snd.snd.snd.snd.snd) :
                                    Int) then
                              20
                            else
                              (↑(List.length (l.getD (0 + i.toNat) (0, 0, 0, 0, 0, [])).snd.snd.snd.snd.snd) : Int))).getD
                        (↑(List.length (l.getD (0 + i.toNat) (0, 0, 0, 0, 0, [])).snd.snd.snd.snd.snd) : Int) ∧
                    (some
                              (if
                                  20 <
                                    (↑(List.length (l.getD (0 + i.toNat) (0, 0, 0, 0, 0, [])).snd.snd.snd.snd.snd) :
                                      Int) then
                                20
                              else
                                (↑(List.length (l.getD (0 + i.toNat) (0, 0, 0, 0, 0, [])).snd.snd.snd.snd.snd) :
                                  Int))).getD
                          (↑(List.length (l.getD (0 + i.toNat) (0, 0, 0, 0, 0, [])).snd.snd.snd.snd.snd) : Int) ≤
                        (↑(List.length (l.getD (0 + i.toNat) (0, 0, 0, 0, 0, [])).snd.snd.snd.snd.snd) : Int) ∧
                      0 + List.length (l.getD (0 + i.toNat) (0, 0, 0, 0, 0, [])).snd.snd.snd.snd.snd ≤
                        List.length (l.getD (0 + i.toNat) (0, 0, 0, 0, 0, [])).snd.snd.snd.snd.snd) then
              bif
                  decide
                      (0 +
                          ((some
                                  (if
                                      20 <
                                        (↑(List.length (l.getD (0 + i.toNat) (0, 0, 0, 0, 0, [])).snd.snd.snd.snd.snd) :
                                          Int) then
                                    20
                                  else
                                    (↑(List.length (l.getD (0 + i.toNat) (0, 0, 0, 0, 0, [])).snd.snd.snd.snd.snd) :
                                      Int))).getD
                              (↑(List.length (l.getD (0 + i.toNat) (0, 0, 0, 0, 0, [])).snd.snd.snd.snd.snd) :
                                Int)).toNat ≤
                        List.length (l.getD (0 + i.toNat) (0, 0, 0, 0, 0, [])).snd.snd.snd.snd.snd) &&
                    true then
                (x9
                      ((m0, m1), (l.getD (0 + i.toNat) (0, 0, 0, 0, 0, [])).fst,
                        (l.getD (0 + i.toNat) (0, 0, 0, 0, 0, [])).snd.fst,
                        (l.getD (0 + i.toNat) (0, 0, 0, 0, 0, [])).snd.snd.fst,
                        (l.getD (0 + i.toNat) (0, 0, 0, 0, 0, [])).snd.snd.snd.fst,
                        (l.getD (0 + i.toNat) (0, 0, 0, 0, 0, [])).snd.snd.snd.snd.fst,
                        List.take
                          ((some
                                  (if
                                      20 <
                                        (↑(List.length (l.getD (0 + i.toNat) (0, 0, 0, 0, 0, [])).snd.snd.snd.snd.snd) :
                                          Int) then
                                    20
                                  else
                                    (↑(List.length (l.getD (0 + i.toNat) (0, 0, 0, 0, 0, [])).snd.snd.snd.snd.snd) :
                                      Int))).getD
                              (↑(List.length (l.getD (0 + i.toNat) (0, 0, 0, 0, 0, [])).snd.snd.snd.snd.snd) : Int)).toNat
                          (List.drop 0 (l.getD (0 + i.toNat) (0, 0, 0, 0, 0, [])).snd.snd.snd.snd.snd))).bind
                  fun r0 =>
                  bif
                      decide
                          (0 +
                              ((some
                                      (if
                                          20 <
                                            (↑(List.length
                                                  (l.getD (0 + i.toNat) (0, 0, 0, 0, 0, [])).snd.snd.snd.snd.snd) :
                                              Int) then
                                        20
                                      else
                                        (↑(List.length (l.getD (0 + i.toNat) (0, 0, 0, 0, 0, [])).snd.snd.snd.snd.snd) :
                                          Int))).getD
                                  (↑(List.length (l.getD (0 + i.toNat) (0, 0, 0, 0, 0, [])).snd.snd.snd.snd.snd) :
                                    Int)).toNat ≤
                            List.length (l.getD (0 + i.toNat) (0, 0, 0, 0, 0, [])).snd.snd.snd.snd.snd) &&
                        true then
                    (x10
                          ((w0, w1), (l.getD (0 + i.toNat) (0, 0, 0, 0, 0, [])).fst,
                            IntKind.i64.wrap (l.getD (0 + i.toNat) (0, 0, 0, 0, 0, [])).snd.fst,
                            (l.getD (0 + i.toNat) (0, 0, 0, 0, 0, [])).snd.snd.fst,
                            IntKind.i64.wrap (l.getD (0 + i.toNat) (0, 0, 0, 0, 0, [])).snd.snd.snd.fst,
                            IntKind.i64.wrap (l.getD (0 + i.toNat) (0, 0, 0, 0, 0, [])).snd.snd.snd.snd.fst,
                            List.take
                              ((some
                                      (if
                                          20 <
                                            (↑(List.length
                                                  (l.getD (0 + i.toNat) (0, 0, 0, 0, 0, [])).snd.snd.snd.snd.snd) :
                                              Int) then
                                        20
                                      else
                                        (↑(List.length (l.getD (0 + i.toNat) (0, 0, 0, 0, 0, [])).snd.snd.snd.snd.snd) :
                                          Int))).getD
                                  (↑(List.length (l.getD (0 + i.toNat) (0, 0, 0, 0, 0, [])).snd.snd.snd.snd.snd) :
                                    Int)).toNat
                              (List.drop 0 (l.getD (0 + i.toNat) (0, 0, 0, 0, 0, [])).snd.snd.snd.snd.snd))).bind
                      fun r1 =>
                      bif !(r0.fst.fst.fst == r1.fst.fst.fst && (r0.fst.fst.snd == r1.fst.fst.snd && true)) then
                        some (Sum.inr ((1, false), (r0.fst.fst.fst, r0.fst.fst.snd), r1.fst.fst.fst, r1.fst.fst.snd))
                      else
                        bif decide (0 + List.length r0.fst.snd ≤ List.length r0.fst.snd) && true then
                          bif decide (0 + List.length r1.fst.snd ≤ List.length r1.fst.snd) && true then
                            (x12
                                  (List.take (List.length r0.fst.snd) (List.drop 0 r0.fst.snd),
                                    List.take (List.length r1.fst.snd) (List.drop 0 r1.fst.snd))).bind
                              fun r2 =>
                              bif !r2.fst then
                                some
                                  (Sum.inr ((1, false), (r0.fst.fst.fst, r0.fst.fst.snd), r1.fst.fst.fst, r1.fst.fst.snd))
                              else
                                some
                                  (Sum.inl
                                    ((r0.fst.fst.fst, r0.fst.fst.snd), (r1.fst.fst.fst, r1.fst.fst.snd),
                                      IntKind.i64.wrap (i + 1)))
                          else none
                        else none
                  else none
              else none
            else none
          else none
        else none
      else some (Sum.inr ((0, false), (m0, m1), w0, w1))
    else some (Sum.inr ((0, false), (m0, m1), w0, w1))
theorem r1e (x9 : F9.FT) (x10 : F10.FT) (x12 : F12.FT) (kd : (List (Int × Int × Int × Int × Int × List (Int)))) (d : (Int × Int) × (Int × Int) × Int) : roundF (tabC Tryd.prog (tab x9 x10 x12) (pls x9 x10 x12) 100 10) 100 .none (u1 fun _ _ => none) (codeAt [1, 1, 0, 1, 0, 0] (bodyOf Tryd.prog 3)) kd d = r1P x9 x10 x12 kd d := by kernel_rfl
noncomputable def r1 : ((List (Int × Int × Int × Int × Int × List (Int)))) → ((Int × Int) × (Int × Int) × Int) → Option (((Int × Int) × (Int × Int) × Int) ⊕ ((Int × Bool) × ((Int × Int) × (Int × Int)))) := r1P F9.f F10.f F12.f
noncomputable def l1 : G1 := fun kd d => iterO (r1 kd) d
theorem ok1 : UnOk Tryd.prog (u1 l1) (codeAt [1, 1, 0, 1, 0] (bodyOf Tryd.prog 3)) :=
  loopT (p := .none) (c := codeAt [1, 1, 0, 1, 0, 0] (bodyOf Tryd.prog 3)) (fuel := 100) (depth := 10) mixed tabS plsP (by kernel_rfl) trivial (by kernel_rfl) (fun kd d => r1e F9.f F10.f F12.f kd d) rfl
def fP (x9 : F9.FT) (x10 : F10.FT) (x12 : F12.FT) (l1 : G1) : FT := fun l =>
    bif decide (0 + l.length ≤ l.length) && true then
      (l1 (List.take l.length l) ((1, 0), (1, 0), 0)).bind fun r0 =>
        bif decide (r0.fst.fst = 0) then some (true, PUnit.unit)
        else bif decide (r0.fst.fst = 1) then some (r0.fst.snd, PUnit.unit) else none
    else none
theorem fe (x9 : F9.FT) (x10 : F10.FT) (x12 : F12.FT) (l1 : G1) (d : (List (Int × Int × Int × Int × Int × List (Int)))) : bodyF (tabC Tryd.prog (tab x9 x10 x12) ((3, (.node .none (.node .none (.node (.node .none (.node (.unit (u1 l1)) .none)) .none)))) :: pls x9 x10 x12) 100 10) 100 3 i o d = fP x9 x10 x12 l1 d := by kernel_rfl
noncomputable def f : FT := fP F9.f F10.f F12.f l1
def plan (l1 : G1) : Plan := (.node .none (.node .none (.node (.node .none (.node (.unit (u1 l1)) .none)) .none)))
theorem planOk : PlanOk Tryd.prog (plan l1) (bodyOf Tryd.prog 3) := (planOk_of (plan l1) _ [([1, 1, 0, 1, 0], u1 l1)] rfl ⟨ok1, trivial⟩)
theorem meets : MeetsF Tryd.prog 3 ⟨i, o, f⟩ :=
  funcT (fuel := 100) (depth := 10) (pl := (3, plan l1) :: pls F9.f F10.f F12.f) mixed tabS ⟨planOk, plsP⟩ (fun d => fe F9.f F10.f F12.f l1 d)
theorem spec : SpecOk Tryd.prog (fun _ => none) 3 (specF ⟨i, o, f⟩) := specF_ok (by kernel_rfl) meets
end Go.Proofs.YtendadfdbmoadaaDoor.F3
