/- What comes of function 12 of this program, consulate.consulatelaw14.like, as the engine gives it. -/
import Derived.Test.YtendadfdbmoadaaDoorChecked
import Derived.Test.YtendadfdbmoadaaDoorZN
namespace Go.Proofs.YtendadfdbmoadaaDoor.F12
open Go Go.Proofs Go.Proofs.YtendadfdbmoadaaDoor Go.RowKit Go.Proofs.YtendadfdbmoadaaDoor.Sx
set_option linter.unusedVariables false
set_option maxRecDepth 100000
def tab : List (FuncId × Sx.Spec) := []
def pls : List (FuncId × Plan) := []
@[reducible] def k1 : Sh := .sl false 48 (.sc (.int .i64) (.sc (.int .u8) (.sc (.int .i64) (.sc (.int .u8) (.sc (.int .u8) (.sl false 5 (.sc (.int .u8) .nil) .nil)))))) (.sl false 63 (.sc (.int .i64) (.sc (.int .i64) (.sc (.int .i64) (.sc (.int .i64) (.sc (.int .i64) (.sl false 5 (.sc (.int .u8) .nil) .nil)))))) .nil)
@[reducible] def i1 : Sh := .sc (.int .i64) .nil
@[reducible] def o1 : Sh := .sc (.int .i64) (.sc .bool .nil)
abbrev G1 := ((List (Int × Int × Int × Int × Int × List (Int))) × (List (Int × Int × Int × Int × Int × List (Int)))) → Int → Option ((Int × Bool) × Unit)
def u1 (F : G1) : Un := ⟨74, [0, 1], k1, [5], i1, [4], o1, [0, 1], [(.exit 0, [false]), (.ret, [true])], F⟩
@[reducible] def i : Sh := .sl false 48 (.sc (.int .i64) (.sc (.int .u8) (.sc (.int .i64) (.sc (.int .u8) (.sc (.int .u8) (.sl false 5 (.sc (.int .u8) .nil) .nil)))))) (.sl false 63 (.sc (.int .i64) (.sc (.int .i64) (.sc (.int .i64) (.sc (.int .i64) (.sc (.int .i64) (.sl false 5 (.sc (.int .u8) .nil) .nil)))))) .nil)
@[reducible] def o : Sh := .sc .bool .nil
abbrev FT := ((List (Int × Int × Int × Int × Int × List (Int))) × (List (Int × Int × Int × Int × Int × List (Int)))) → Option (Bool × Unit)
theorem tabS : AllS Tryd.prog (tab) := trivial
theorem plsP : AllP Tryd.prog (pls) := trivial
theorem mixed : Tryd.prog.follows .mixedOrders = true := by kernel_rfl
def r1P : ((List (Int × Int × Int × Int × Int × List (Int))) × (List (Int × Int × Int × Int × Int × List (Int)))) → Int → Option (Int ⊕ ((Int × Bool) × Unit)) := fun (l, m) i =>
    bif decide (i < (↑l.length : Int)) then
      bif decide (0 ≤ i ∧ i < (↑l.length : Int) ∧ 0 < l.length) then
        bif decide (0 + i.toNat < l.length) then
          bif decide (0 ≤ i ∧ i < (↑m.length : Int) ∧ 0 < m.length) then
            bif decide (0 + i.toNat < m.length) then
              bif (l.getD (0 + i.toNat) (0, 0, 0, 0, 0, [])).fst != (m.getD (0 + i.toNat) (0, 0, 0, 0, 0, [])).fst then
                some (Sum.inr ((1, false), PUnit.unit))
              else
                bif
                    IntKind.i64.wrap (l.getD (0 + i.toNat) (0, 0, 0, 0, 0, [])).snd.fst !=
                      (m.getD (0 + i.toNat) (0, 0, 0, 0, 0, [])).snd.fst then
                  some (Sum.inr ((1, false), PUnit.unit))
                else
                  bif
                      (l.getD (0 + i.toNat) (0, 0, 0, 0, 0, [])).snd.snd.fst !=
                        (m.getD (0 + i.toNat) (0, 0, 0, 0, 0, [])).snd.snd.fst then
                    some (Sum.inr ((1, false), PUnit.unit))
                  else
                    bif
                        IntKind.i64.wrap (l.getD (0 + i.toNat) (0, 0, 0, 0, 0, [])).snd.snd.snd.fst !=
                          (m.getD (0 + i.toNat) (0, 0, 0, 0, 0, [])).snd.snd.snd.fst then
                      some (Sum.inr ((1, false), PUnit.unit))
                    else
                      bif
                          IntKind.i64.wrap (l.getD (0 + i.toNat) (0, 0, 0, 0, 0, [])).snd.snd.snd.snd.fst !=
                            (m.getD (0 + i.toNat) (0, 0, 0, 0, 0, [])).snd.snd.snd.snd.fst then
                        some (Sum.inr ((1, false), PUnit.unit))
                      else
                        bif
                            decide
                              (0 + List.length (l.getD (0 + i.toNat) (0, 0, 0, 0, 0, [])).snd.snd.snd.snd.snd ≤
                                List.length (l.getD (0 + i.toNat) (0, 0, 0, 0, 0, [])).snd.snd.snd.snd.snd) then
                          bif
                              decide
                                (0 + List.length (m.getD (0 + i.toNat) (0, 0, 0, 0, 0, [])).snd.snd.snd.snd.snd ≤
                                  List.length (m.getD (0 + i.toNat) (0, 0, 0, 0, 0, [])).snd.snd.snd.snd.snd) then
                            bif
                                !(ByteArray.mk
                                        (Array.mk
                                          (List.map (fun n => UInt8.ofNat n.toNat)
                                            (List.take
                                              (List.length (l.getD (0 + i.toNat) (0, 0, 0, 0, 0, [])).snd.snd.snd.snd.snd)
                                              (List.drop 0
                                                (l.getD (0 + i.toNat)
                                                            (0, 0, 0, 0, 0, [])).snd.snd.snd.snd.snd))))).toList ==
                                    (ByteArray.mk
                                        (Array.mk
                                          (List.map (fun n => UInt8.ofNat n.toNat)
                                            (List.take
                                              (List.length (m.getD (0 + i.toNat) (0, 0, 0, 0, 0, [])).snd.snd.snd.snd.snd)
                                              (List.drop 0
                                                (m.getD (0 + i.toNat)
                                                            (0, 0, 0, 0, 0, [])).snd.snd.snd.snd.snd))))).toList then
                              some (Sum.inr ((1, false), PUnit.unit))
                            else some (Sum.inl (IntKind.i64.wrap (i + 1)))
                          else none
                        else none
            else none
          else none
        else none
      else none
    else some (Sum.inr ((0, false), PUnit.unit))
theorem r1e (kd : (List (Int × Int × Int × Int × Int × List (Int))) × (List (Int × Int × Int × Int × Int × List (Int)))) (d : Int) : roundF (tabC Tryd.prog (tab) (pls) 100 10) 100 .none (u1 fun _ _ => none) (codeAt [1, 1, 0, 1, 0, 0] (bodyOf Tryd.prog 12)) kd d = r1P kd d := by kernel_rfl
noncomputable def r1 : ((List (Int × Int × Int × Int × Int × List (Int))) × (List (Int × Int × Int × Int × Int × List (Int)))) → Int → Option (Int ⊕ ((Int × Bool) × Unit)) := r1P
noncomputable def l1 : G1 := fun kd d => iterO (r1 kd) d
theorem ok1 : UnOk Tryd.prog (u1 l1) (codeAt [1, 1, 0, 1, 0] (bodyOf Tryd.prog 12)) :=
  loopT (p := .none) (c := codeAt [1, 1, 0, 1, 0, 0] (bodyOf Tryd.prog 12)) (fuel := 100) (depth := 10) mixed tabS plsP (by kernel_rfl) trivial (by kernel_rfl) (fun kd d => r1e  kd d) rfl
def fP (l1 : G1) : FT := fun (l, m) =>
    bif (↑l.length : Int) != (↑m.length : Int) then some (false, PUnit.unit)
    else
      bif decide (0 + l.length ≤ l.length) && true then
        bif decide (0 + m.length ≤ m.length) && true then
          (l1 (List.take l.length l, List.take m.length m) (OfNat.ofNat 0)).bind fun r0 =>
            bif decide (r0.fst.fst = 0) then some (true, PUnit.unit)
            else bif decide (r0.fst.fst = 1) then some (r0.fst.snd, PUnit.unit) else none
        else none
      else none
theorem fe (l1 : G1) (d : (List (Int × Int × Int × Int × Int × List (Int))) × (List (Int × Int × Int × Int × Int × List (Int)))) : bodyF (tabC Tryd.prog (tab) ((12, (.node .none (.node .none (.node (.node .none (.node (.unit (u1 l1)) .none)) .none)))) :: pls) 100 10) 100 12 i o d = fP l1 d := by kernel_rfl
noncomputable def f : FT := fP l1
def plan (l1 : G1) : Plan := (.node .none (.node .none (.node (.node .none (.node (.unit (u1 l1)) .none)) .none)))
theorem planOk : PlanOk Tryd.prog (plan l1) (bodyOf Tryd.prog 12) := (planOk_of (plan l1) _ [([1, 1, 0, 1, 0], u1 l1)] rfl ⟨ok1, trivial⟩)
theorem meets : MeetsF Tryd.prog 12 ⟨i, o, f⟩ :=
  funcT (fuel := 100) (depth := 10) (pl := (12, plan l1) :: pls) mixed tabS ⟨planOk, plsP⟩ (fun d => fe l1 d)
theorem spec : SpecOk Tryd.prog (fun _ => none) 12 (specF ⟨i, o, f⟩) := specF_ok (by kernel_rfl) meets
end Go.Proofs.YtendadfdbmoadaaDoor.F12
