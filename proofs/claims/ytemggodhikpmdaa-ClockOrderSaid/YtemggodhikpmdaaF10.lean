/- What comes of function 10 of this program, consulate.consulatelaw13.all, as the engine gives it. -/
import Derived.Test.YtemggodhikpmdaaChecked
import Derived.Test.YtemggodhikpmdaaZM
import Derived.Test.YtemggodhikpmdaaF23
namespace Go.Proofs.Ytemggodhikpmdaa.F10
open Go Go.Proofs Go.RowKit Go.Proofs.Ytemggodhikpmdaa.Sx
set_option linter.unusedVariables false
set_option maxRecDepth 100000
def tab (x23 : F23.FT) : List (FuncId × Sx.Spec) := [(23, specF ⟨F23.i, F23.o, x23⟩)]
def pls (x23 : F23.FT) : List (FuncId × Plan) := []
@[reducible] def k1 : Sh := .sc (.int .i64) .nil
@[reducible] def i1 : Sh := .pt true 65 (.sc (.int .i64) (.sc .bool (.sc (.int .i64) (.sc .bool (.sc (.int .i64) (.sc .bool (.sc (.int .i64) (.sc .bool (.sc (.int .i64) (.sc .bool .nil)))))))))) (.sl true 31 (.sc (.int .i64) (.sc .bool (.sc (.int .i64) .nil))) (.sc (.int .i64) .nil))
@[reducible] def o1 : Sh := .sl true 31 (.sc (.int .i64) (.sc .bool (.sc (.int .i64) .nil))) .nil
abbrev G1 := Int → ((Int × Bool × Int × Bool × Int × Bool × Int × Bool × Int × Bool) × (List (Int × Bool × Int)) × Int) → Option (((List (Int × Bool × Int))) × ((Int × Bool × Int × Bool × Int × Bool × Int × Bool × Int × Bool)))
def u1 (F : G1) : Un := ⟨21, [1], k1, [0, 5, 7], i1, [5], o1, [0, 1], [(.exit 0, [true])], F⟩
@[reducible] def i : Sh := .pt true 65 (.sc (.int .i64) (.sc .bool (.sc (.int .i64) (.sc .bool (.sc (.int .i64) (.sc .bool (.sc (.int .i64) (.sc .bool (.sc (.int .i64) (.sc .bool .nil)))))))))) (.sc (.int .i64) .nil)
@[reducible] def o : Sh := .sl true 31 (.sc (.int .i64) (.sc .bool (.sc (.int .i64) .nil))) .nil
abbrev FT := ((Int × Bool × Int × Bool × Int × Bool × Int × Bool × Int × Bool) × Int) → Option (((List (Int × Bool × Int))) × ((Int × Bool × Int × Bool × Int × Bool × Int × Bool × Int × Bool)))
theorem tabS : AllS Try.prog (tab F23.f) := ⟨F23.spec, trivial⟩
theorem plsP : AllP Try.prog (pls F23.f) := trivial
theorem mixed : Try.prog.follows .mixedOrders = true := by kernel_rfl
def r1P (x23 : F23.FT) : Int → ((Int × Bool × Int × Bool × Int × Bool × Int × Bool × Int × Bool) × (List (Int × Bool × Int)) × Int) → Option (((Int × Bool × Int × Bool × Int × Bool × Int × Bool × Int × Bool) × (List (Int × Bool × Int)) × Int) ⊕ (((List (Int × Bool × Int))) × ((Int × Bool × Int × Bool × Int × Bool × Int × Bool × Int × Bool)))) := fun until0 ((c0, c1, c2, c3, c4, c5, c6, c7, c8, c9), l, t7) =>
    bif decide (t7 < 10) then
      (x23 ((c0, c1, c2, c3, c4, c5, c6, c7, c8, c9), until0)).bind fun r0 =>
        bif !r0.snd.snd.snd.snd.snd.snd.snd.snd.snd.snd then
          bif !r0.fst.snd then
            bif decide (0 + l.length ≤ l.length) && true then some (Sum.inr (List.take l.length l, r0.snd)) else none
          else
            bif decide (l.length + 3 / OfNat.ofNat 3 ≤ 1073741824) then
              bif decide (0 + l.length ≤ l.length) then
                bif
                    decide
                        (0 + (l.length + 3 / OfNat.ofNat 3) ≤
                          (List.take l.length l ++ [(r0.fst.fst, r0.fst.snd, 0)]).length) &&
                      true then
                  some
                    (Sum.inl
                      (r0.snd,
                        List.take (l.length + 3 / OfNat.ofNat 3)
                          (List.drop 0 (List.take l.length l ++ [(r0.fst.fst, r0.fst.snd, 0)])),
                        IntKind.i64.wrap (t7 + 1)))
                else none
              else none
            else none
        else
          bif !r0.fst.snd then
            bif decide (0 + l.length ≤ l.length) && true then some (Sum.inr (List.take l.length l, r0.snd)) else none
          else
            bif decide (l.length + 3 / OfNat.ofNat 3 ≤ 1073741824) then
              bif decide (0 + l.length ≤ l.length) then
                bif
                    decide
                        (0 + (l.length + 3 / OfNat.ofNat 3) ≤
                          (List.take l.length l ++ [(r0.fst.fst, r0.fst.snd, r0.snd.fst)]).length) &&
                      true then
                  some
                    (Sum.inl
                      (r0.snd,
                        List.take (l.length + 3 / OfNat.ofNat 3)
                          (List.drop 0 (List.take l.length l ++ [(r0.fst.fst, r0.fst.snd, r0.snd.fst)])),
                        IntKind.i64.wrap (t7 + 1)))
                else none
              else none
            else none
    else
      bif decide (0 + l.length ≤ l.length) && true then
        some (Sum.inr (List.take l.length l, c0, c1, c2, c3, c4, c5, c6, c7, c8, c9))
      else none
theorem r1e (x23 : F23.FT) (kd : Int) (d : (Int × Bool × Int × Bool × Int × Bool × Int × Bool × Int × Bool) × (List (Int × Bool × Int)) × Int) : roundF (tabC Try.prog (tab x23) (pls x23) 100 10) 100 .none (u1 fun _ _ => none) (codeAt [1, 1, 0, 1, 0, 0] (bodyOf Try.prog 10)) kd d = r1P x23 kd d := by kernel_rfl
noncomputable def r1 : Int → ((Int × Bool × Int × Bool × Int × Bool × Int × Bool × Int × Bool) × (List (Int × Bool × Int)) × Int) → Option (((Int × Bool × Int × Bool × Int × Bool × Int × Bool × Int × Bool) × (List (Int × Bool × Int)) × Int) ⊕ (((List (Int × Bool × Int))) × ((Int × Bool × Int × Bool × Int × Bool × Int × Bool × Int × Bool)))) := r1P F23.f
noncomputable def l1 : G1 := fun kd d => iterO (r1 kd) d
theorem ok1 : UnOk Try.prog (u1 l1) (codeAt [1, 1, 0, 1, 0] (bodyOf Try.prog 10)) :=
  loopT (p := .none) (c := codeAt [1, 1, 0, 1, 0, 0] (bodyOf Try.prog 10)) (fuel := 100) (depth := 10) mixed tabS plsP (by kernel_rfl) trivial (by kernel_rfl) (fun kd d => r1e F23.f kd d) rfl
def fP (x23 : F23.FT) (l1 : G1) : FT := fun ((c0, c1, c2, c3, c4, c5, c6, c7, c8, c9), until0) =>
    (l1 until0 ((c0, c1, c2, c3, c4, c5, c6, c7, c8, c9), [], 0)).bind fun r0 =>
      bif decide (0 + List.length r0.fst ≤ List.length r0.fst) && true then
        some (List.take (List.length r0.fst) (List.drop 0 r0.fst), r0.snd)
      else none
theorem fe (x23 : F23.FT) (l1 : G1) (d : (Int × Bool × Int × Bool × Int × Bool × Int × Bool × Int × Bool) × Int) : bodyF (tabC Try.prog (tab x23) ((10, (.node .none (.node .none (.node (.node .none (.node (.unit (u1 l1)) .none)) .none)))) :: pls x23) 100 10) 100 10 i o d = fP x23 l1 d := by kernel_rfl
noncomputable def f : FT := fP F23.f l1
def plan (l1 : G1) : Plan := (.node .none (.node .none (.node (.node .none (.node (.unit (u1 l1)) .none)) .none)))
theorem planOk : PlanOk Try.prog (plan l1) (bodyOf Try.prog 10) := (planOk_of (plan l1) _ [([1, 1, 0, 1, 0], u1 l1)] rfl ⟨ok1, trivial⟩)
theorem meets : MeetsF Try.prog 10 ⟨i, o, f⟩ :=
  funcT (fuel := 100) (depth := 10) (pl := (10, plan l1) :: pls F23.f) mixed tabS ⟨planOk, plsP⟩ (fun d => fe F23.f l1 d)
theorem spec : SpecOk Try.prog (fun _ => none) 10 (specF ⟨i, o, f⟩) := specF_ok (by kernel_rfl) meets
end Go.Proofs.Ytemggodhikpmdaa.F10
