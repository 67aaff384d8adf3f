/- What comes of function 17 of this program, (consulate.damp.Settings).May, as the engine gives it. -/
import Derived.Test.YtglbcjmebjeokaaChecked
import Derived.Test.YtglbcjmebjeokaaZN
namespace Go.Proofs.Ytglbcjmebjeokaa.F17
open Go Go.Proofs Go.Proofs.Ytglbcjmebjeokaa Go.RowKit Go.Proofs.Ytglbcjmebjeokaa.Sx
set_option linter.unusedVariables false
set_option maxRecDepth 100000
def tab : List (FuncId × Sx.Spec) := []
def pls : List (FuncId × Plan) := []
@[reducible] def i : Sh := .ag (.sc (.int .i64) (.sc (.flt .f64) (.sc (.flt .f64) (.sc (.flt .f64) .nil)))) .nil
@[reducible] def o : Sh := .sc .bool .nil
abbrev FT := ((Int × Nat × Nat × Nat)) → Option (Bool × Unit)
theorem tabS : AllS Try.prog (tab) := trivial
theorem plsP : AllP Try.prog (pls) := trivial
theorem mixed : Try.prog.follows .mixedOrders = true := by kernel_rfl
def fP : FT := fun (s0, s1, s2, s3) =>
    bif decide (s0 ≥ 1) then
      bif decide (s0 ≤ 1099511627776) then
        bif fCmp BinOp.geq FloatKind.f64 s2 4607182418800017408 then
          bif fCmp BinOp.lss FloatKind.f64 s2 s1 then
            bif fCmp BinOp.leq FloatKind.f64 s1 s3 then
              some (fCmp BinOp.leq FloatKind.f64 s3 4697254411347427328, PUnit.unit)
            else some (false, PUnit.unit)
          else some (false, PUnit.unit)
        else some (false, PUnit.unit)
      else some (false, PUnit.unit)
    else some (false, PUnit.unit)
theorem fe (d : (Int × Nat × Nat × Nat)) : bodyF (tabC Try.prog (tab) ((17, .none) :: pls) 100 12) 100 17 i o d = fP d := by kernel_rfl
noncomputable def f : FT := fP
def plan : Plan := .none
theorem planOk : PlanOk Try.prog (plan) (bodyOf Try.prog 17) := (planOk_of (plan) _ [] (by kernel_rfl) trivial)
theorem meets : MeetsF Try.prog 17 ⟨i, o, f⟩ :=
  funcT (fuel := 100) (depth := 12) (pl := (17, plan) :: pls) mixed tabS ⟨planOk, plsP⟩ (fun d => fe  d)
theorem spec : SpecOk Try.prog (fun _ => none) 17 (specF ⟨i, o, f⟩) := specF_ok (by kernel_rfl) meets
end Go.Proofs.Ytglbcjmebjeokaa.F17

/- What comes of function 27 of this program, (consulate.damp.Settings).may, as the engine gives it. -/
namespace Go.Proofs.Ytglbcjmebjeokaa.F27
open Go Go.Proofs Go.Proofs.Ytglbcjmebjeokaa Go.RowKit Go.Proofs.Ytglbcjmebjeokaa.Sx
set_option linter.unusedVariables false
set_option maxRecDepth 100000
def tab (x17 : F17.FT) : List (FuncId × Sx.Spec) := [(17, specF ⟨F17.i, F17.o, x17⟩)]
def pls (x17 : F17.FT) : List (FuncId × Plan) := []
@[reducible] def i : Sh := .ag (.sc (.int .i64) (.sc (.flt .f64) (.sc (.flt .f64) (.sc (.flt .f64) .nil)))) (.sc (.int .i64) .nil)
@[reducible] def o : Sh := .sc .bool .nil
abbrev FT := ((Int × Nat × Nat × Nat) × Int) → Option (Bool × Unit)
theorem tabS : AllS Try.prog (tab F17.f) := ⟨F17.spec, trivial⟩
theorem plsP : AllP Try.prog (pls F17.f) := trivial
theorem mixed : Try.prog.follows .mixedOrders = true := by kernel_rfl
def fP (x17 : F17.FT) : FT := fun ((s0, s1, s2, s3), now) =>
    (x17 (s0, s1, s2, s3)).bind fun r0 =>
      bif r0.fst then
        bif decide (now ≥ 0) then some (decide (now ≤ 1099511627776), PUnit.unit) else some (false, PUnit.unit)
      else some (false, PUnit.unit)
theorem fe (x17 : F17.FT) (d : (Int × Nat × Nat × Nat) × Int) : bodyF (tabC Try.prog (tab x17) ((27, .none) :: pls x17) 100 12) 100 27 i o d = fP x17 d := by kernel_rfl
noncomputable def f : FT := fP F17.f
def plan : Plan := .none
theorem planOk : PlanOk Try.prog (plan) (bodyOf Try.prog 27) := (planOk_of (plan) _ [] (by kernel_rfl) trivial)
theorem meets : MeetsF Try.prog 27 ⟨i, o, f⟩ :=
  funcT (fuel := 100) (depth := 12) (pl := (27, plan) :: pls F17.f) mixed tabS ⟨planOk, plsP⟩ (fun d => fe F17.f d)
theorem spec : SpecOk Try.prog (fun _ => none) 27 (specF ⟨i, o, f⟩) := specF_ok (by kernel_rfl) meets
end Go.Proofs.Ytglbcjmebjeokaa.F27

/- What comes of function 32 of this program, (consulate.damp.Figure).clean, as the engine gives it. -/
namespace Go.Proofs.Ytglbcjmebjeokaa.F32
open Go Go.Proofs Go.Proofs.Ytglbcjmebjeokaa Go.RowKit Go.Proofs.Ytglbcjmebjeokaa.Sx
set_option linter.unusedVariables false
set_option maxRecDepth 100000
def tab : List (FuncId × Sx.Spec) := []
def pls : List (FuncId × Plan) := []
@[reducible] def i : Sh := .ag (.sc (.cpx .f64) (.sc (.int .i64) (.sc .bool .nil))) .nil
@[reducible] def o : Sh := .ag (.sc (.cpx .f64) (.sc (.int .i64) (.sc .bool .nil))) .nil
abbrev FT := (((Nat × Nat) × Int × Bool)) → Option ((((Nat × Nat) × Int × Bool)) × Unit)
theorem tabS : AllS Try.prog (tab) := trivial
theorem plsP : AllP Try.prog (pls) := trivial
theorem mixed : Try.prog.follows .mixedOrders = true := by kernel_rfl
def fP : FT := fun (f0, f1, f2) =>
    bif fCmp BinOp.geq FloatKind.f64 f0.fst 4607182418800017408 then
      bif fMinOk FloatKind.f64 f0.fst 4787326403894837248 then
        bif fCmp BinOp.geq FloatKind.f64 f0.snd 4607182418800017408 then
          bif fMinOk FloatKind.f64 f0.snd 4787326403894837248 then
            some
              (((fMin FloatKind.f64 f0.fst 4787326403894837248, fMin FloatKind.f64 f0.snd 4787326403894837248),
                  if (if 1099511627776 < f1 then 1099511627776 else f1) > 0 then
                    if 1099511627776 < f1 then 1099511627776 else f1
                  else 0,
                  f2),
                PUnit.unit)
          else none
        else
          some
            (((fMin FloatKind.f64 f0.fst 4787326403894837248, 0),
                if (if 1099511627776 < f1 then 1099511627776 else f1) > 0 then
                  if 1099511627776 < f1 then 1099511627776 else f1
                else 0,
                f2),
              PUnit.unit)
      else none
    else
      bif fCmp BinOp.geq FloatKind.f64 f0.snd 4607182418800017408 then
        bif fMinOk FloatKind.f64 f0.snd 4787326403894837248 then
          some
            (((0, fMin FloatKind.f64 f0.snd 4787326403894837248),
                if (if 1099511627776 < f1 then 1099511627776 else f1) > 0 then
                  if 1099511627776 < f1 then 1099511627776 else f1
                else 0,
                f2),
              PUnit.unit)
        else none
      else
        some
          (((0, 0),
              if (if 1099511627776 < f1 then 1099511627776 else f1) > 0 then
                if 1099511627776 < f1 then 1099511627776 else f1
              else 0,
              f2),
            PUnit.unit)
theorem fe (d : ((Nat × Nat) × Int × Bool)) : bodyF (tabC Try.prog (tab) ((32, .none) :: pls) 100 12) 100 32 i o d = fP d := by kernel_rfl
noncomputable def f : FT := fP
def plan : Plan := .none
theorem planOk : PlanOk Try.prog (plan) (bodyOf Try.prog 32) := (planOk_of (plan) _ [] (by kernel_rfl) trivial)
theorem meets : MeetsF Try.prog 32 ⟨i, o, f⟩ :=
  funcT (fuel := 100) (depth := 12) (pl := (32, plan) :: pls) mixed tabS ⟨planOk, plsP⟩ (fun d => fe  d)
theorem spec : SpecOk Try.prog (fun _ => none) 32 (specF ⟨i, o, f⟩) := specF_ok (by kernel_rfl) meets
end Go.Proofs.Ytglbcjmebjeokaa.F32

/- What comes of function 33 of this program, consulate.damp.halved, as the engine gives it. -/
namespace Go.Proofs.Ytglbcjmebjeokaa.F33
open Go Go.Proofs Go.Proofs.Ytglbcjmebjeokaa Go.RowKit Go.Proofs.Ytglbcjmebjeokaa.Sx
set_option linter.unusedVariables false
set_option maxRecDepth 100000
def tab : List (FuncId × Sx.Spec) := []
def pls : List (FuncId × Plan) := []
@[reducible] def i : Sh := .sc (.cpx .f64) .nil
@[reducible] def o : Sh := .sc (.cpx .f64) .nil
abbrev FT := ((Nat × Nat)) → Option (((Nat × Nat)) × Unit)
theorem tabS : AllS Try.prog (tab) := trivial
theorem plsP : AllP Try.prog (pls) := trivial
theorem mixed : Try.prog.follows .mixedOrders = true := by kernel_rfl
def fP : FT := fun f_2 =>
    bif fOk BinOp.quo FloatKind.f64 f_2.fst 4611686018427387904 then
      bif fCmp BinOp.geq FloatKind.f64 (fVal BinOp.quo FloatKind.f64 f_2.fst 4611686018427387904) 4607182418800017408 then
        bif fOk BinOp.quo FloatKind.f64 f_2.snd 4611686018427387904 then
          bif
              fCmp BinOp.geq FloatKind.f64 (fVal BinOp.quo FloatKind.f64 f_2.snd 4611686018427387904)
                4607182418800017408 then
            some
              ((fVal BinOp.quo FloatKind.f64 f_2.fst 4611686018427387904,
                  fVal BinOp.quo FloatKind.f64 f_2.snd 4611686018427387904),
                PUnit.unit)
          else some ((fVal BinOp.quo FloatKind.f64 f_2.fst 4611686018427387904, 0), PUnit.unit)
        else none
      else
        bif fOk BinOp.quo FloatKind.f64 f_2.snd 4611686018427387904 then
          bif
              fCmp BinOp.geq FloatKind.f64 (fVal BinOp.quo FloatKind.f64 f_2.snd 4611686018427387904)
                4607182418800017408 then
            some ((0, fVal BinOp.quo FloatKind.f64 f_2.snd 4611686018427387904), PUnit.unit)
          else some ((0, 0), PUnit.unit)
        else none
    else none
theorem fe (d : (Nat × Nat)) : bodyF (tabC Try.prog (tab) ((33, .none) :: pls) 100 12) 100 33 i o d = fP d := by kernel_rfl
noncomputable def f : FT := fP
def plan : Plan := .none
theorem planOk : PlanOk Try.prog (plan) (bodyOf Try.prog 33) := (planOk_of (plan) _ [] (by kernel_rfl) trivial)
theorem meets : MeetsF Try.prog 33 ⟨i, o, f⟩ :=
  funcT (fuel := 100) (depth := 12) (pl := (33, plan) :: pls) mixed tabS ⟨planOk, plsP⟩ (fun d => fe  d)
theorem spec : SpecOk Try.prog (fun _ => none) 33 (specF ⟨i, o, f⟩) := specF_ok (by kernel_rfl) meets
end Go.Proofs.Ytglbcjmebjeokaa.F33

/- What comes of function 29 of this program, (consulate.damp.Settings).brought, as the engine gives it. -/
namespace Go.Proofs.Ytglbcjmebjeokaa.F29
open Go Go.Proofs Go.Proofs.Ytglbcjmebjeokaa Go.RowKit Go.Proofs.Ytglbcjmebjeokaa.Sx
set_option linter.unusedVariables false
set_option maxRecDepth 100000
def tab (x32 : F32.FT) (x33 : F33.FT) : List (FuncId × Sx.Spec) := [(32, specF ⟨F32.i, F32.o, x32⟩), (33, specF ⟨F33.i, F33.o, x33⟩)]
def pls (x32 : F32.FT) (x33 : F33.FT) : List (FuncId × Plan) := []
@[reducible] def k1 : Sh := .sc (.int .i64) .nil
@[reducible] def i1 : Sh := .pt true 28 (.sc (.cpx .f64) (.sc (.int .i64) (.sc .bool .nil))) (.sc (.int .i64) .nil)
@[reducible] def o1 : Sh := .nil
abbrev G1 := Int → (((Nat × Nat) × Int × Bool) × Int) → Option (Unit × (((Nat × Nat) × Int × Bool)))
def u1 (F : G1) : Un := ⟨43, [26], k1, [4, 27], i1, [], o1, [3, 4, 6, 7, 26], [(.exit 0, [])], F⟩
@[reducible] def i : Sh := .ag (.sc (.int .i64) (.sc (.flt .f64) (.sc (.flt .f64) (.sc (.flt .f64) .nil)))) (.ag (.sc (.cpx .f64) (.sc (.int .i64) (.sc .bool .nil))) (.sc (.int .i64) .nil))
@[reducible] def o : Sh := .ag (.sc (.cpx .f64) (.sc (.int .i64) (.sc .bool .nil))) .nil
abbrev FT := ((Int × Nat × Nat × Nat) × ((Nat × Nat) × Int × Bool) × Int) → Option ((((Nat × Nat) × Int × Bool)) × Unit)
theorem tabS : AllS Try.prog (tab F32.f F33.f) := ⟨F32.spec, F33.spec, trivial⟩
theorem plsP : AllP Try.prog (pls F32.f F33.f) := trivial
theorem mixed : Try.prog.follows .mixedOrders = true := by kernel_rfl
def r1P (x32 : F32.FT) (x33 : F33.FT) : Int → (((Nat × Nat) × Int × Bool) × Int) → Option ((((Nat × Nat) × Int × Bool) × Int) ⊕ (Unit × (((Nat × Nat) × Int × Bool)))) := fun t26 ((f0, f1, f2), t27) =>
    bif decide (t27 < t26) then
      (x33 (f0.fst, f0.snd)).bind fun r0 =>
        some (Sum.inl (((r0.fst.fst, r0.fst.snd), f1, f2), IntKind.i64.wrap (t27 + 1)))
    else some (Sum.inr (PUnit.unit, f0, f1, f2))
theorem r1e (x32 : F32.FT) (x33 : F33.FT) (kd : Int) (d : ((Nat × Nat) × Int × Bool) × Int) : roundF (tabC Try.prog (tab x32 x33) (pls x32 x33) 100 12) 100 .none (u1 fun _ _ => none) (codeAt [1, 1, 1, 1, 0, 1, 0, 0] (bodyOf Try.prog 29)) kd d = r1P x32 x33 kd d := by kernel_rfl
noncomputable def r1 : Int → (((Nat × Nat) × Int × Bool) × Int) → Option ((((Nat × Nat) × Int × Bool) × Int) ⊕ (Unit × (((Nat × Nat) × Int × Bool)))) := r1P F32.f F33.f
noncomputable def l1 : G1 := fun kd d => iterO (r1 kd) d
theorem ok1 : UnOk Try.prog (u1 l1) (codeAt [1, 1, 1, 1, 0, 1, 0] (bodyOf Try.prog 29)) :=
  loopT (p := .none) (c := codeAt [1, 1, 1, 1, 0, 1, 0, 0] (bodyOf Try.prog 29)) (fuel := 100) (depth := 12) mixed tabS plsP (by kernel_rfl) trivial (by kernel_rfl) (fun kd d => r1e F32.f F33.f kd d) rfl
def fP (x32 : F32.FT) (x33 : F33.FT) (l1 : G1) : FT := fun ((s0, s1, s2, s3), (f0, f1, f2), now) =>
    (x32 ((f0.fst, f0.snd), f1, f2)).bind fun r0 =>
      bif decide (IntKind.i64.wrap (now - r0.fst.snd.fst) < s0) then
        some (((r0.fst.fst.fst, r0.fst.fst.snd), r0.fst.snd.fst, r0.fst.snd.snd), PUnit.unit)
      else
        bif decide (s0 ≠ 0) then
          (l1
                (if 42 < IntKind.i64.wrap ((IntKind.i64.wrap (now - r0.fst.snd.fst)).tdiv s0) then 42
                else IntKind.i64.wrap ((IntKind.i64.wrap (now - r0.fst.snd.fst)).tdiv s0))
                (((r0.fst.fst.fst, r0.fst.fst.snd), r0.fst.snd.fst, r0.fst.snd.snd), 0)).bind
            fun r1 =>
            some
              (((r1.snd.fst.fst, r1.snd.fst.snd),
                  IntKind.i64.wrap
                    (r1.snd.snd.fst +
                      IntKind.i64.wrap (IntKind.i64.wrap ((IntKind.i64.wrap (now - r0.fst.snd.fst)).tdiv s0) * s0)),
                  r1.snd.snd.snd),
                PUnit.unit)
        else none
theorem fe (x32 : F32.FT) (x33 : F33.FT) (l1 : G1) (d : (Int × Nat × Nat × Nat) × ((Nat × Nat) × Int × Bool) × Int) : bodyF (tabC Try.prog (tab x32 x33) ((29, (.node .none (.node .none (.node .none (.node .none (.node (.node .none (.node (.unit (u1 l1)) .none)) .none)))))) :: pls x32 x33) 100 12) 100 29 i o d = fP x32 x33 l1 d := by kernel_rfl
noncomputable def f : FT := fP F32.f F33.f l1
def plan (l1 : G1) : Plan := (.node .none (.node .none (.node .none (.node .none (.node (.node .none (.node (.unit (u1 l1)) .none)) .none)))))
theorem planOk : PlanOk Try.prog (plan l1) (bodyOf Try.prog 29) := (planOk_of (plan l1) _ [([1, 1, 1, 1, 0, 1, 0], u1 l1)] rfl ⟨ok1, trivial⟩)
theorem meets : MeetsF Try.prog 29 ⟨i, o, f⟩ :=
  funcT (fuel := 100) (depth := 12) (pl := (29, plan l1) :: pls F32.f F33.f) mixed tabS ⟨planOk, plsP⟩ (fun d => fe F32.f F33.f l1 d)
theorem spec : SpecOk Try.prog (fun _ => none) 29 (specF ⟨i, o, f⟩) := specF_ok (by kernel_rfl) meets
end Go.Proofs.Ytglbcjmebjeokaa.F29

/- What comes of function 31 of this program, consulate.damp.square, as the engine gives it. -/
namespace Go.Proofs.Ytglbcjmebjeokaa.F31
open Go Go.Proofs Go.Proofs.Ytglbcjmebjeokaa Go.RowKit Go.Proofs.Ytglbcjmebjeokaa.Sx
set_option linter.unusedVariables false
set_option maxRecDepth 100000
def tab : List (FuncId × Sx.Spec) := []
def pls : List (FuncId × Plan) := []
@[reducible] def i : Sh := .sc (.cpx .f64) .nil
@[reducible] def o : Sh := .sc (.flt .f64) .nil
abbrev FT := ((Nat × Nat)) → Option (Nat × Unit)
theorem tabS : AllS Try.prog (tab) := trivial
theorem plsP : AllP Try.prog (pls) := trivial
theorem mixed : Try.prog.follows .mixedOrders = true := by kernel_rfl
def fP : FT := fun f_2 =>
    bif fOk BinOp.mul FloatKind.f64 f_2.fst f_2.fst then
      bif fOk BinOp.mul FloatKind.f64 f_2.snd f_2.snd then
        bif
            fOk BinOp.add FloatKind.f64 (fVal BinOp.mul FloatKind.f64 f_2.fst f_2.fst)
              (fVal BinOp.mul FloatKind.f64 f_2.snd f_2.snd) then
          some
            (fVal BinOp.add FloatKind.f64 (fVal BinOp.mul FloatKind.f64 f_2.fst f_2.fst)
                (fVal BinOp.mul FloatKind.f64 f_2.snd f_2.snd),
              PUnit.unit)
        else none
      else none
    else none
theorem fe (d : (Nat × Nat)) : bodyF (tabC Try.prog (tab) ((31, .none) :: pls) 100 12) 100 31 i o d = fP d := by kernel_rfl
noncomputable def f : FT := fP
def plan : Plan := .none
theorem planOk : PlanOk Try.prog (plan) (bodyOf Try.prog 31) := (planOk_of (plan) _ [] (by kernel_rfl) trivial)
theorem meets : MeetsF Try.prog 31 ⟨i, o, f⟩ :=
  funcT (fuel := 100) (depth := 12) (pl := (31, plan) :: pls) mixed tabS ⟨planOk, plsP⟩ (fun d => fe  d)
theorem spec : SpecOk Try.prog (fun _ => none) 31 (specF ⟨i, o, f⟩) := specF_ok (by kernel_rfl) meets
end Go.Proofs.Ytglbcjmebjeokaa.F31

/- What comes of function 28 of this program, (consulate.damp.Settings).asked, as the engine gives it. -/
namespace Go.Proofs.Ytglbcjmebjeokaa.F28
open Go Go.Proofs Go.Proofs.Ytglbcjmebjeokaa Go.RowKit Go.Proofs.Ytglbcjmebjeokaa.Sx
set_option linter.unusedVariables false
set_option maxRecDepth 100000
def tab (x31 : F31.FT) : List (FuncId × Sx.Spec) := [(31, specF ⟨F31.i, F31.o, x31⟩)]
def pls (x31 : F31.FT) : List (FuncId × Plan) := []
@[reducible] def i : Sh := .ag (.sc (.int .i64) (.sc (.flt .f64) (.sc (.flt .f64) (.sc (.flt .f64) .nil)))) (.ag (.sc (.cpx .f64) (.sc (.int .i64) (.sc .bool .nil))) .nil)
@[reducible] def o : Sh := .ag (.sc (.cpx .f64) (.sc (.int .i64) (.sc .bool .nil))) .nil
abbrev FT := ((Int × Nat × Nat × Nat) × ((Nat × Nat) × Int × Bool)) → Option ((((Nat × Nat) × Int × Bool)) × Unit)
theorem tabS : AllS Try.prog (tab F31.f) := ⟨F31.spec, trivial⟩
theorem plsP : AllP Try.prog (pls F31.f) := trivial
theorem mixed : Try.prog.follows .mixedOrders = true := by kernel_rfl
def fP (x31 : F31.FT) : FT := fun ((s0, s1, s2, s3), (f0, f1, f2)) =>
    (x31 (f0.fst, f0.snd)).bind fun r0 =>
      bif fOk BinOp.mul FloatKind.f64 s1 s1 then
        bif fCmp BinOp.geq FloatKind.f64 r0.fst (fVal BinOp.mul FloatKind.f64 s1 s1) then
          some (((f0.fst, f0.snd), f1, true), PUnit.unit)
        else
          bif fOk BinOp.mul FloatKind.f64 s2 s2 then
            bif fCmp BinOp.lss FloatKind.f64 r0.fst (fVal BinOp.mul FloatKind.f64 s2 s2) then
              some (((f0.fst, f0.snd), f1, false), PUnit.unit)
            else some (((f0.fst, f0.snd), f1, f2), PUnit.unit)
          else none
      else none
theorem fe (x31 : F31.FT) (d : (Int × Nat × Nat × Nat) × ((Nat × Nat) × Int × Bool)) : bodyF (tabC Try.prog (tab x31) ((28, .none) :: pls x31) 100 12) 100 28 i o d = fP x31 d := by kernel_rfl
noncomputable def f : FT := fP F31.f
def plan : Plan := .none
theorem planOk : PlanOk Try.prog (plan) (bodyOf Try.prog 28) := (planOk_of (plan) _ [] (by kernel_rfl) trivial)
theorem meets : MeetsF Try.prog 28 ⟨i, o, f⟩ :=
  funcT (fuel := 100) (depth := 12) (pl := (28, plan) :: pls F31.f) mixed tabS ⟨planOk, plsP⟩ (fun d => fe F31.f d)
theorem spec : SpecOk Try.prog (fun _ => none) 28 (specF ⟨i, o, f⟩) := specF_ok (by kernel_rfl) meets
end Go.Proofs.Ytglbcjmebjeokaa.F28

/- What comes of function 21 of this program, (consulate.damp.Settings).added, as the engine gives it. -/
namespace Go.Proofs.Ytglbcjmebjeokaa.F21
open Go Go.Proofs Go.Proofs.Ytglbcjmebjeokaa Go.RowKit Go.Proofs.Ytglbcjmebjeokaa.Sx
set_option linter.unusedVariables false
set_option maxRecDepth 100000
def tab (x27 : F27.FT) (x29 : F29.FT) (x31 : F31.FT) (x33 : F33.FT) (x28 : F28.FT) : List (FuncId × Sx.Spec) := [(27, specF ⟨F27.i, F27.o, x27⟩), (29, specF ⟨F29.i, F29.o, x29⟩), (31, specF ⟨F31.i, F31.o, x31⟩), (33, specF ⟨F33.i, F33.o, x33⟩), (28, specF ⟨F28.i, F28.o, x28⟩)]
def pls (x27 : F27.FT) (x29 : F29.FT) (x31 : F31.FT) (x33 : F33.FT) (x28 : F28.FT) : List (FuncId × Plan) := []
@[reducible] def k1 : Sh := .pt true 24 (.sc (.int .i64) (.sc (.flt .f64) (.sc (.flt .f64) (.sc (.flt .f64) .nil)))) .nil
@[reducible] def i1 : Sh := .pt true 28 (.sc (.cpx .f64) (.sc (.int .i64) (.sc .bool .nil))) .nil
@[reducible] def o1 : Sh := .nil
abbrev G1 := ((Int × Nat × Nat × Nat)) → (((Nat × Nat) × Int × Bool)) → Option (Unit × (((Nat × Nat) × Int × Bool)))
def u1 (F : G1) : Un := ⟨45, [4], k1, [5], i1, [], o1, [4, 5, 8], [(.exit 0, [])], F⟩
@[reducible] def i : Sh := .ag (.sc (.int .i64) (.sc (.flt .f64) (.sc (.flt .f64) (.sc (.flt .f64) .nil)))) (.ag (.sc (.cpx .f64) (.sc (.int .i64) (.sc .bool .nil))) (.sc (.cpx .f64) (.sc (.int .i64) .nil)))
@[reducible] def o : Sh := .ag (.sc (.cpx .f64) (.sc (.int .i64) (.sc .bool .nil))) (.sc (.int .i64) .nil)
abbrev FT := ((Int × Nat × Nat × Nat) × ((Nat × Nat) × Int × Bool) × (Nat × Nat) × Int) → Option ((((Nat × Nat) × Int × Bool) × Int) × Unit)
theorem tabS : AllS Try.prog (tab F27.f F29.f F31.f F33.f F28.f) := ⟨F27.spec, F29.spec, F31.spec, F33.spec, F28.spec, trivial⟩
theorem plsP : AllP Try.prog (pls F27.f F29.f F31.f F33.f F28.f) := trivial
theorem mixed : Try.prog.follows .mixedOrders = true := by kernel_rfl
def r1P (x27 : F27.FT) (x29 : F29.FT) (x31 : F31.FT) (x33 : F33.FT) (x28 : F28.FT) : ((Int × Nat × Nat × Nat)) → (((Nat × Nat) × Int × Bool)) → Option ((((Nat × Nat) × Int × Bool)) ⊕ (Unit × (((Nat × Nat) × Int × Bool)))) := fun (s0, s1, s2, s3) (f0, f1, f2) =>
    (x31 (f0.fst, f0.snd)).bind fun r0 =>
      bif fOk BinOp.mul FloatKind.f64 s3 s3 then
        bif fCmp BinOp.gtr FloatKind.f64 r0.fst (fVal BinOp.mul FloatKind.f64 s3 s3) then
          (x33 (f0.fst, f0.snd)).bind fun r1 => some (Sum.inl ((r1.fst.fst, r1.fst.snd), f1, f2))
        else some (Sum.inr (PUnit.unit, f0, f1, f2))
      else none
theorem r1e (x27 : F27.FT) (x29 : F29.FT) (x31 : F31.FT) (x33 : F33.FT) (x28 : F28.FT) (kd : (Int × Nat × Nat × Nat)) (d : ((Nat × Nat) × Int × Bool)) : roundF (tabC Try.prog (tab x27 x29 x31 x33 x28) (pls x27 x29 x31 x33 x28) 100 12) 100 .none (u1 fun _ _ => none) (codeAt [1, 1, 1, 1, 1, 0, 0, 0] (bodyOf Try.prog 21)) kd d = r1P x27 x29 x31 x33 x28 kd d := by kernel_rfl
noncomputable def r1 : ((Int × Nat × Nat × Nat)) → (((Nat × Nat) × Int × Bool)) → Option ((((Nat × Nat) × Int × Bool)) ⊕ (Unit × (((Nat × Nat) × Int × Bool)))) := r1P F27.f F29.f F31.f F33.f F28.f
noncomputable def l1 : G1 := fun kd d => iterO (r1 kd) d
theorem ok1 : UnOk Try.prog (u1 l1) (codeAt [1, 1, 1, 1, 1, 0, 0] (bodyOf Try.prog 21)) :=
  loopT (p := .none) (c := codeAt [1, 1, 1, 1, 1, 0, 0, 0] (bodyOf Try.prog 21)) (fuel := 100) (depth := 12) mixed tabS plsP (by kernel_rfl) trivial (by kernel_rfl) (fun kd d => r1e F27.f F29.f F31.f F33.f F28.f kd d) rfl
def fP (x27 : F27.FT) (x29 : F29.FT) (x31 : F31.FT) (x33 : F33.FT) (x28 : F28.FT) (l1 : G1) : FT := fun ((s0, s1, s2, s3), (f0, f1, f2), by0, now) =>
    (x27 ((s0, s1, s2, s3), now)).bind fun r0 =>
      bif !r0.fst then some ((((0, 0), 0, false), 1), PUnit.unit)
      else
        (x29 ((s0, s1, s2, s3), ((f0.fst, f0.snd), f1, f2), now)).bind fun r1 =>
          bif fCmp BinOp.eql FloatKind.f64 r1.fst.fst.fst 0 && fCmp BinOp.eql FloatKind.f64 r1.fst.fst.snd 0 then
            bif
                fOk BinOp.add FloatKind.f64 r1.fst.fst.fst by0.fst &&
                  fOk BinOp.add FloatKind.f64 r1.fst.fst.snd by0.snd then
              (l1 (s0, s1, s2, s3)
                    ((fVal BinOp.add FloatKind.f64 r1.fst.fst.fst by0.fst,
                        fVal BinOp.add FloatKind.f64 r1.fst.fst.snd by0.snd),
                      now, r1.fst.snd.snd)).bind
                fun r2 =>
                (x28 ((s0, s1, s2, s3), (r2.snd.fst.fst, r2.snd.fst.snd), r2.snd.snd.fst, r2.snd.snd.snd)).bind fun r3 =>
                  some ((((r3.fst.fst.fst, r3.fst.fst.snd), r3.fst.snd.fst, r3.fst.snd.snd), 0), PUnit.unit)
            else none
          else
            bif
                fOk BinOp.add FloatKind.f64 r1.fst.fst.fst by0.fst &&
                  fOk BinOp.add FloatKind.f64 r1.fst.fst.snd by0.snd then
              (l1 (s0, s1, s2, s3)
                    ((fVal BinOp.add FloatKind.f64 r1.fst.fst.fst by0.fst,
                        fVal BinOp.add FloatKind.f64 r1.fst.fst.snd by0.snd),
                      r1.fst.snd.fst, r1.fst.snd.snd)).bind
                fun r2 =>
                (x28 ((s0, s1, s2, s3), (r2.snd.fst.fst, r2.snd.fst.snd), r2.snd.snd.fst, r2.snd.snd.snd)).bind fun r3 =>
                  some ((((r3.fst.fst.fst, r3.fst.fst.snd), r3.fst.snd.fst, r3.fst.snd.snd), 0), PUnit.unit)
            else none
theorem fe (x27 : F27.FT) (x29 : F29.FT) (x31 : F31.FT) (x33 : F33.FT) (x28 : F28.FT) (l1 : G1) (d : (Int × Nat × Nat × Nat) × ((Nat × Nat) × Int × Bool) × (Nat × Nat) × Int) : bodyF (tabC Try.prog (tab x27 x29 x31 x33 x28) ((21, (.node .none (.node .none (.node .none (.node .none (.node .none (.node (.node (.unit (u1 l1)) .none) .none))))))) :: pls x27 x29 x31 x33 x28) 100 12) 100 21 i o d = fP x27 x29 x31 x33 x28 l1 d := by kernel_rfl
noncomputable def f : FT := fP F27.f F29.f F31.f F33.f F28.f l1
def plan (l1 : G1) : Plan := (.node .none (.node .none (.node .none (.node .none (.node .none (.node (.node (.unit (u1 l1)) .none) .none))))))
theorem planOk : PlanOk Try.prog (plan l1) (bodyOf Try.prog 21) := (planOk_of (plan l1) _ [([1, 1, 1, 1, 1, 0, 0], u1 l1)] rfl ⟨ok1, trivial⟩)
theorem meets : MeetsF Try.prog 21 ⟨i, o, f⟩ :=
  funcT (fuel := 100) (depth := 12) (pl := (21, plan l1) :: pls F27.f F29.f F31.f F33.f F28.f) mixed tabS ⟨planOk, plsP⟩ (fun d => fe F27.f F29.f F31.f F33.f F28.f l1 d)
theorem spec : SpecOk Try.prog (fun _ => none) 21 (specF ⟨i, o, f⟩) := specF_ok (by kernel_rfl) meets
end Go.Proofs.Ytglbcjmebjeokaa.F21

/- What comes of function 8 of this program, (consulate.damp.Settings).Withdrawn, as the engine gives it. -/
namespace Go.Proofs.Ytglbcjmebjeokaa.F8
open Go Go.Proofs Go.Proofs.Ytglbcjmebjeokaa Go.RowKit Go.Proofs.Ytglbcjmebjeokaa.Sx
set_option linter.unusedVariables false
set_option maxRecDepth 100000
def tab (x21 : F21.FT) : List (FuncId × Sx.Spec) := [(21, specF ⟨F21.i, F21.o, x21⟩)]
def pls (x21 : F21.FT) : List (FuncId × Plan) := []
@[reducible] def i : Sh := .ag (.sc (.int .i64) (.sc (.flt .f64) (.sc (.flt .f64) (.sc (.flt .f64) .nil)))) (.ag (.sc (.cpx .f64) (.sc (.int .i64) (.sc .bool .nil))) (.sc (.int .i64) .nil))
@[reducible] def o : Sh := .ag (.sc (.cpx .f64) (.sc (.int .i64) (.sc .bool .nil))) (.sc (.int .i64) .nil)
abbrev FT := ((Int × Nat × Nat × Nat) × ((Nat × Nat) × Int × Bool) × Int) → Option ((((Nat × Nat) × Int × Bool) × Int) × Unit)
theorem tabS : AllS Try.prog (tab F21.f) := ⟨F21.spec, trivial⟩
theorem plsP : AllP Try.prog (pls F21.f) := trivial
theorem mixed : Try.prog.follows .mixedOrders = true := by kernel_rfl
def fP (x21 : F21.FT) : FT := fun ((s0, s1, s2, s3), (f0, f1, f2), now) =>
    (x21 ((s0, s1, s2, s3), ((f0.fst, f0.snd), f1, f2), (4652007308841189376, 0), now)).bind fun r0 =>
      some ((((r0.fst.fst.fst.fst, r0.fst.fst.fst.snd), r0.fst.fst.snd.fst, r0.fst.fst.snd.snd), r0.fst.snd), PUnit.unit)
theorem fe (x21 : F21.FT) (d : (Int × Nat × Nat × Nat) × ((Nat × Nat) × Int × Bool) × Int) : bodyF (tabC Try.prog (tab x21) ((8, .none) :: pls x21) 100 12) 100 8 i o d = fP x21 d := by kernel_rfl
noncomputable def f : FT := fP F21.f
def plan : Plan := .none
theorem planOk : PlanOk Try.prog (plan) (bodyOf Try.prog 8) := (planOk_of (plan) _ [] (by kernel_rfl) trivial)
theorem meets : MeetsF Try.prog 8 ⟨i, o, f⟩ :=
  funcT (fuel := 100) (depth := 12) (pl := (8, plan) :: pls F21.f) mixed tabS ⟨planOk, plsP⟩ (fun d => fe F21.f d)
theorem spec : SpecOk Try.prog (fun _ => none) 8 (specF ⟨i, o, f⟩) := specF_ok (by kernel_rfl) meets
end Go.Proofs.Ytglbcjmebjeokaa.F8

/- What comes of function 10 of this program, (consulate.damp.Settings).Changed, as the engine gives it. -/
namespace Go.Proofs.Ytglbcjmebjeokaa.F10
open Go Go.Proofs Go.Proofs.Ytglbcjmebjeokaa Go.RowKit Go.Proofs.Ytglbcjmebjeokaa.Sx
set_option linter.unusedVariables false
set_option maxRecDepth 100000
def tab (x21 : F21.FT) : List (FuncId × Sx.Spec) := [(21, specF ⟨F21.i, F21.o, x21⟩)]
def pls (x21 : F21.FT) : List (FuncId × Plan) := []
@[reducible] def i : Sh := .ag (.sc (.int .i64) (.sc (.flt .f64) (.sc (.flt .f64) (.sc (.flt .f64) .nil)))) (.ag (.sc (.cpx .f64) (.sc (.int .i64) (.sc .bool .nil))) (.sc (.int .i64) .nil))
@[reducible] def o : Sh := .ag (.sc (.cpx .f64) (.sc (.int .i64) (.sc .bool .nil))) (.sc (.int .i64) .nil)
abbrev FT := ((Int × Nat × Nat × Nat) × ((Nat × Nat) × Int × Bool) × Int) → Option ((((Nat × Nat) × Int × Bool) × Int) × Unit)
theorem tabS : AllS Try.prog (tab F21.f) := ⟨F21.spec, trivial⟩
theorem plsP : AllP Try.prog (pls F21.f) := trivial
theorem mixed : Try.prog.follows .mixedOrders = true := by kernel_rfl
def fP (x21 : F21.FT) : FT := fun ((s0, s1, s2, s3), (f0, f1, f2), now) =>
    (x21 ((s0, s1, s2, s3), ((f0.fst, f0.snd), f1, f2), (0, 4647503709213818880), now)).bind fun r0 =>
      some ((((r0.fst.fst.fst.fst, r0.fst.fst.fst.snd), r0.fst.fst.snd.fst, r0.fst.fst.snd.snd), r0.fst.snd), PUnit.unit)
theorem fe (x21 : F21.FT) (d : (Int × Nat × Nat × Nat) × ((Nat × Nat) × Int × Bool) × Int) : bodyF (tabC Try.prog (tab x21) ((10, .none) :: pls x21) 100 12) 100 10 i o d = fP x21 d := by kernel_rfl
noncomputable def f : FT := fP F21.f
def plan : Plan := .none
theorem planOk : PlanOk Try.prog (plan) (bodyOf Try.prog 10) := (planOk_of (plan) _ [] (by kernel_rfl) trivial)
theorem meets : MeetsF Try.prog 10 ⟨i, o, f⟩ :=
  funcT (fuel := 100) (depth := 12) (pl := (10, plan) :: pls F21.f) mixed tabS ⟨planOk, plsP⟩ (fun d => fe F21.f d)
theorem spec : SpecOk Try.prog (fun _ => none) 10 (specF ⟨i, o, f⟩) := specF_ok (by kernel_rfl) meets
end Go.Proofs.Ytglbcjmebjeokaa.F10

/- What comes of function 22 of this program, consulate.consulateref20.May, as the engine gives it. -/
namespace Go.Proofs.Ytglbcjmebjeokaa.F22
open Go Go.Proofs Go.Proofs.Ytglbcjmebjeokaa Go.RowKit Go.Proofs.Ytglbcjmebjeokaa.Sx
set_option linter.unusedVariables false
set_option maxRecDepth 100000
def tab : List (FuncId × Sx.Spec) := []
def pls : List (FuncId × Plan) := []
@[reducible] def i : Sh := .ag (.sc (.int .i64) (.sc (.flt .f64) (.sc (.flt .f64) (.sc (.flt .f64) .nil)))) .nil
@[reducible] def o : Sh := .sc .bool .nil
abbrev FT := ((Int × Nat × Nat × Nat)) → Option (Bool × Unit)
theorem tabS : AllS Try.prog (tab) := trivial
theorem plsP : AllP Try.prog (pls) := trivial
theorem mixed : Try.prog.follows .mixedOrders = true := by kernel_rfl
def fP : FT := fun (s0, s1, s2, s3) =>
    bif decide (s0 < 1) then some (false, PUnit.unit)
    else
      bif decide (s0 > 1099511627776) then some (false, PUnit.unit)
      else
        bif fCmp BinOp.geq FloatKind.f64 s2 4607182418800017408 then
          bif fCmp BinOp.gtr FloatKind.f64 s1 s2 then
            bif fCmp BinOp.geq FloatKind.f64 s3 s1 then
              some (fCmp BinOp.leq FloatKind.f64 s3 4697254411347427328, PUnit.unit)
            else some (false, PUnit.unit)
          else some (false, PUnit.unit)
        else some (false, PUnit.unit)
theorem fe (d : (Int × Nat × Nat × Nat)) : bodyF (tabC Try.prog (tab) ((22, .none) :: pls) 100 12) 100 22 i o d = fP d := by kernel_rfl
noncomputable def f : FT := fP
def plan : Plan := .none
theorem planOk : PlanOk Try.prog (plan) (bodyOf Try.prog 22) := (planOk_of (plan) _ [] (by kernel_rfl) trivial)
theorem meets : MeetsF Try.prog 22 ⟨i, o, f⟩ :=
  funcT (fuel := 100) (depth := 12) (pl := (22, plan) :: pls) mixed tabS ⟨planOk, plsP⟩ (fun d => fe  d)
theorem spec : SpecOk Try.prog (fun _ => none) 22 (specF ⟨i, o, f⟩) := specF_ok (by kernel_rfl) meets
end Go.Proofs.Ytglbcjmebjeokaa.F22

/- What comes of function 35 of this program, consulate.consulateref20.part, as the engine gives it. -/
namespace Go.Proofs.Ytglbcjmebjeokaa.F35
open Go Go.Proofs Go.Proofs.Ytglbcjmebjeokaa Go.RowKit Go.Proofs.Ytglbcjmebjeokaa.Sx
set_option linter.unusedVariables false
set_option maxRecDepth 100000
def tab : List (FuncId × Sx.Spec) := []
def pls : List (FuncId × Plan) := []
@[reducible] def i : Sh := .sc (.flt .f64) .nil
@[reducible] def o : Sh := .sc (.flt .f64) .nil
abbrev FT := Nat → Option (Nat × Unit)
theorem tabS : AllS Try.prog (tab) := trivial
theorem plsP : AllP Try.prog (pls) := trivial
theorem mixed : Try.prog.follows .mixedOrders = true := by kernel_rfl
def fP : FT := fun x =>
    bif !fCmp BinOp.geq FloatKind.f64 x 4607182418800017408 then some (0, PUnit.unit)
    else
      bif fCmp BinOp.gtr FloatKind.f64 x 4787326403894837248 then some (4787326403894837248, PUnit.unit)
      else some (x, PUnit.unit)
theorem fe (d : Nat) : bodyF (tabC Try.prog (tab) ((35, .none) :: pls) 100 12) 100 35 i o d = fP d := by kernel_rfl
noncomputable def f : FT := fP
def plan : Plan := .none
theorem planOk : PlanOk Try.prog (plan) (bodyOf Try.prog 35) := (planOk_of (plan) _ [] (by kernel_rfl) trivial)
theorem meets : MeetsF Try.prog 35 ⟨i, o, f⟩ :=
  funcT (fuel := 100) (depth := 12) (pl := (35, plan) :: pls) mixed tabS ⟨planOk, plsP⟩ (fun d => fe  d)
theorem spec : SpecOk Try.prog (fun _ => none) 35 (specF ⟨i, o, f⟩) := specF_ok (by kernel_rfl) meets
end Go.Proofs.Ytglbcjmebjeokaa.F35

/- What comes of function 34 of this program, consulate.consulateref20.Clean, as the engine gives it. -/
namespace Go.Proofs.Ytglbcjmebjeokaa.F34
open Go Go.Proofs Go.Proofs.Ytglbcjmebjeokaa Go.RowKit Go.Proofs.Ytglbcjmebjeokaa.Sx
set_option linter.unusedVariables false
set_option maxRecDepth 100000
def tab (x35 : F35.FT) : List (FuncId × Sx.Spec) := [(35, specF ⟨F35.i, F35.o, x35⟩)]
def pls (x35 : F35.FT) : List (FuncId × Plan) := []
@[reducible] def i : Sh := .ag (.sc (.flt .f64) (.sc (.flt .f64) (.sc (.int .i64) (.sc .bool .nil)))) .nil
@[reducible] def o : Sh := .ag (.sc (.flt .f64) (.sc (.flt .f64) (.sc (.int .i64) (.sc .bool .nil)))) .nil
abbrev FT := ((Nat × Nat × Int × Bool)) → Option (((Nat × Nat × Int × Bool)) × Unit)
theorem tabS : AllS Try.prog (tab F35.f) := ⟨F35.spec, trivial⟩
theorem plsP : AllP Try.prog (pls F35.f) := trivial
theorem mixed : Try.prog.follows .mixedOrders = true := by kernel_rfl
def fP (x35 : F35.FT) : FT := fun (f0, f1, f2, f3) =>
    (x35 f0).bind fun r0 =>
      (x35 f1).bind fun r1 =>
        bif decide (f2 < 0) then some ((r0.fst, r1.fst, 0, f3), PUnit.unit)
        else
          bif decide (f2 > 1099511627776) then some ((r0.fst, r1.fst, 1099511627776, f3), PUnit.unit)
          else some ((r0.fst, r1.fst, f2, f3), PUnit.unit)
theorem fe (x35 : F35.FT) (d : (Nat × Nat × Int × Bool)) : bodyF (tabC Try.prog (tab x35) ((34, .none) :: pls x35) 100 12) 100 34 i o d = fP x35 d := by kernel_rfl
noncomputable def f : FT := fP F35.f
def plan : Plan := .none
theorem planOk : PlanOk Try.prog (plan) (bodyOf Try.prog 34) := (planOk_of (plan) _ [] (by kernel_rfl) trivial)
theorem meets : MeetsF Try.prog 34 ⟨i, o, f⟩ :=
  funcT (fuel := 100) (depth := 12) (pl := (34, plan) :: pls F35.f) mixed tabS ⟨planOk, plsP⟩ (fun d => fe F35.f d)
theorem spec : SpecOk Try.prog (fun _ => none) 34 (specF ⟨i, o, f⟩) := specF_ok (by kernel_rfl) meets
end Go.Proofs.Ytglbcjmebjeokaa.F34

/- What comes of function 25 of this program, consulate.consulateref20.half, as the engine gives it. -/
namespace Go.Proofs.Ytglbcjmebjeokaa.F25
open Go Go.Proofs Go.Proofs.Ytglbcjmebjeokaa Go.RowKit Go.Proofs.Ytglbcjmebjeokaa.Sx
set_option linter.unusedVariables false
set_option maxRecDepth 100000
def tab (x35 : F35.FT) : List (FuncId × Sx.Spec) := [(35, specF ⟨F35.i, F35.o, x35⟩)]
def pls (x35 : F35.FT) : List (FuncId × Plan) := []
@[reducible] def i : Sh := .ag (.sc (.flt .f64) (.sc (.flt .f64) (.sc (.int .i64) (.sc .bool .nil)))) .nil
@[reducible] def o : Sh := .ag (.sc (.flt .f64) (.sc (.flt .f64) (.sc (.int .i64) (.sc .bool .nil)))) .nil
abbrev FT := ((Nat × Nat × Int × Bool)) → Option (((Nat × Nat × Int × Bool)) × Unit)
theorem tabS : AllS Try.prog (tab F35.f) := ⟨F35.spec, trivial⟩
theorem plsP : AllP Try.prog (pls F35.f) := trivial
theorem mixed : Try.prog.follows .mixedOrders = true := by kernel_rfl
def fP (x35 : F35.FT) : FT := fun (f0, f1, f2, f3) =>
    bif fOk BinOp.quo FloatKind.f64 f0 4611686018427387904 then
      (x35 (fVal BinOp.quo FloatKind.f64 f0 4611686018427387904)).bind fun r0 =>
        bif fOk BinOp.quo FloatKind.f64 f1 4611686018427387904 then
          (x35 (fVal BinOp.quo FloatKind.f64 f1 4611686018427387904)).bind fun r1 =>
            some ((r0.fst, r1.fst, f2, f3), PUnit.unit)
        else none
    else none
theorem fe (x35 : F35.FT) (d : (Nat × Nat × Int × Bool)) : bodyF (tabC Try.prog (tab x35) ((25, .none) :: pls x35) 100 12) 100 25 i o d = fP x35 d := by kernel_rfl
noncomputable def f : FT := fP F35.f
def plan : Plan := .none
theorem planOk : PlanOk Try.prog (plan) (bodyOf Try.prog 25) := (planOk_of (plan) _ [] (by kernel_rfl) trivial)
theorem meets : MeetsF Try.prog 25 ⟨i, o, f⟩ :=
  funcT (fuel := 100) (depth := 12) (pl := (25, plan) :: pls F35.f) mixed tabS ⟨planOk, plsP⟩ (fun d => fe F35.f d)
theorem spec : SpecOk Try.prog (fun _ => none) 25 (specF ⟨i, o, f⟩) := specF_ok (by kernel_rfl) meets
end Go.Proofs.Ytglbcjmebjeokaa.F25

/- What comes of function 23 of this program, consulate.consulateref20.bring, as the engine gives it. -/
namespace Go.Proofs.Ytglbcjmebjeokaa.F23
open Go Go.Proofs Go.Proofs.Ytglbcjmebjeokaa Go.RowKit Go.Proofs.Ytglbcjmebjeokaa.Sx
set_option linter.unusedVariables false
set_option maxRecDepth 100000
def tab (x34 : F34.FT) (x25 : F25.FT) : List (FuncId × Sx.Spec) := [(34, specF ⟨F34.i, F34.o, x34⟩), (25, specF ⟨F25.i, F25.o, x25⟩)]
def pls (x34 : F34.FT) (x25 : F25.FT) : List (FuncId × Plan) := []
@[reducible] def k1 : Sh := .sc (.int .i64) (.pt true 38 (.sc (.int .i64) (.sc (.flt .f64) (.sc (.flt .f64) (.sc (.flt .f64) .nil)))) .nil)
@[reducible] def i1 : Sh := .pt true 30 (.sc (.flt .f64) (.sc (.flt .f64) (.sc (.int .i64) (.sc .bool .nil)))) .nil
@[reducible] def o1 : Sh := .nil
abbrev G1 := (Int × (Int × Nat × Nat × Nat)) → ((Nat × Nat × Int × Bool)) → Option (Unit × ((Nat × Nat × Int × Bool)))
def u1 (F : G1) : Un := ⟨55, [2, 3], k1, [4], i1, [], o1, [2, 3, 4, 6], [(.exit 0, [])], F⟩
@[reducible] def i : Sh := .ag (.sc (.int .i64) (.sc (.flt .f64) (.sc (.flt .f64) (.sc (.flt .f64) .nil)))) (.ag (.sc (.flt .f64) (.sc (.flt .f64) (.sc (.int .i64) (.sc .bool .nil)))) (.sc (.int .i64) .nil))
@[reducible] def o : Sh := .ag (.sc (.flt .f64) (.sc (.flt .f64) (.sc (.int .i64) (.sc .bool .nil)))) .nil
abbrev FT := ((Int × Nat × Nat × Nat) × (Nat × Nat × Int × Bool) × Int) → Option (((Nat × Nat × Int × Bool)) × Unit)
theorem tabS : AllS Try.prog (tab F34.f F25.f) := ⟨F34.spec, F25.spec, trivial⟩
theorem plsP : AllP Try.prog (pls F34.f F25.f) := trivial
theorem mixed : Try.prog.follows .mixedOrders = true := by kernel_rfl
def r1P (x34 : F34.FT) (x25 : F25.FT) : (Int × (Int × Nat × Nat × Nat)) → ((Nat × Nat × Int × Bool)) → Option (((Nat × Nat × Int × Bool)) ⊕ (Unit × ((Nat × Nat × Int × Bool)))) := fun (now, (s0, s1, s2, s3)) (f0, f1, f2, f3) =>
    bif decide (now ≥ f2) then
      bif decide (IntKind.i64.wrap (now - f2) ≥ s0) then
        bif fCmp BinOp.gtr FloatKind.f64 f0 0 then
          (x25 (f0, f1, f2, f3)).bind fun r0 =>
            some (Sum.inl (r0.fst.fst, r0.fst.snd.fst, IntKind.i64.wrap (r0.fst.snd.snd.fst + s0), r0.fst.snd.snd.snd))
        else
          bif fCmp BinOp.gtr FloatKind.f64 f1 0 then
            (x25 (f0, f1, f2, f3)).bind fun r0 =>
              some (Sum.inl (r0.fst.fst, r0.fst.snd.fst, IntKind.i64.wrap (r0.fst.snd.snd.fst + s0), r0.fst.snd.snd.snd))
          else some (Sum.inr (PUnit.unit, f0, f1, f2, f3))
      else some (Sum.inr (PUnit.unit, f0, f1, f2, f3))
    else some (Sum.inr (PUnit.unit, f0, f1, f2, f3))
theorem r1e (x34 : F34.FT) (x25 : F25.FT) (kd : Int × (Int × Nat × Nat × Nat)) (d : (Nat × Nat × Int × Bool)) : roundF (tabC Try.prog (tab x34 x25) (pls x34 x25) 100 12) 100 .none (u1 fun _ _ => none) (codeAt [1, 1, 0, 0, 0] (bodyOf Try.prog 23)) kd d = r1P x34 x25 kd d := by kernel_rfl
noncomputable def r1 : (Int × (Int × Nat × Nat × Nat)) → ((Nat × Nat × Int × Bool)) → Option (((Nat × Nat × Int × Bool)) ⊕ (Unit × ((Nat × Nat × Int × Bool)))) := r1P F34.f F25.f
noncomputable def l1 : G1 := fun kd d => iterO (r1 kd) d
theorem ok1 : UnOk Try.prog (u1 l1) (codeAt [1, 1, 0, 0] (bodyOf Try.prog 23)) :=
  loopT (p := .none) (c := codeAt [1, 1, 0, 0, 0] (bodyOf Try.prog 23)) (fuel := 100) (depth := 12) mixed tabS plsP (by kernel_rfl) trivial (by kernel_rfl) (fun kd d => r1e F34.f F25.f kd d) rfl
def fP (x34 : F34.FT) (x25 : F25.FT) (l1 : G1) : FT := fun ((s0, s1, s2, s3), (f0, f1, f2, f3), now) =>
    (x34 (f0, f1, f2, f3)).bind fun r0 =>
      (l1 (now, s0, s1, s2, s3) (r0.fst.fst, r0.fst.snd.fst, r0.fst.snd.snd.fst, r0.fst.snd.snd.snd)).bind fun r1 =>
        bif decide (now ≥ r1.snd.snd.snd.fst) then
          bif decide (s0 ≠ 0) then
            some
              ((r1.snd.fst, r1.snd.snd.fst,
                  IntKind.i64.wrap (now - (IntKind.i64.wrap (now - r1.snd.snd.snd.fst)).tmod s0), r1.snd.snd.snd.snd),
                PUnit.unit)
          else none
        else some ((r1.snd.fst, r1.snd.snd.fst, r1.snd.snd.snd.fst, r1.snd.snd.snd.snd), PUnit.unit)
theorem fe (x34 : F34.FT) (x25 : F25.FT) (l1 : G1) (d : (Int × Nat × Nat × Nat) × (Nat × Nat × Int × Bool) × Int) : bodyF (tabC Try.prog (tab x34 x25) ((23, (.node .none (.node .none (.node (.node (.unit (u1 l1)) .none) .none)))) :: pls x34 x25) 100 12) 100 23 i o d = fP x34 x25 l1 d := by kernel_rfl
noncomputable def f : FT := fP F34.f F25.f l1
def plan (l1 : G1) : Plan := (.node .none (.node .none (.node (.node (.unit (u1 l1)) .none) .none)))
theorem planOk : PlanOk Try.prog (plan l1) (bodyOf Try.prog 23) := (planOk_of (plan l1) _ [([1, 1, 0, 0], u1 l1)] rfl ⟨ok1, trivial⟩)
theorem meets : MeetsF Try.prog 23 ⟨i, o, f⟩ :=
  funcT (fuel := 100) (depth := 12) (pl := (23, plan l1) :: pls F34.f F25.f) mixed tabS ⟨planOk, plsP⟩ (fun d => fe F34.f F25.f l1 d)
theorem spec : SpecOk Try.prog (fun _ => none) 23 (specF ⟨i, o, f⟩) := specF_ok (by kernel_rfl) meets
end Go.Proofs.Ytglbcjmebjeokaa.F23

/- What comes of function 24 of this program, consulate.consulateref20.Square, as the engine gives it. -/
namespace Go.Proofs.Ytglbcjmebjeokaa.F24
open Go Go.Proofs Go.Proofs.Ytglbcjmebjeokaa Go.RowKit Go.Proofs.Ytglbcjmebjeokaa.Sx
set_option linter.unusedVariables false
set_option maxRecDepth 100000
def tab (x34 : F34.FT) : List (FuncId × Sx.Spec) := [(34, specF ⟨F34.i, F34.o, x34⟩)]
def pls (x34 : F34.FT) : List (FuncId × Plan) := []
@[reducible] def i : Sh := .ag (.sc (.flt .f64) (.sc (.flt .f64) (.sc (.int .i64) (.sc .bool .nil)))) .nil
@[reducible] def o : Sh := .sc (.flt .f64) .nil
abbrev FT := ((Nat × Nat × Int × Bool)) → Option (Nat × Unit)
theorem tabS : AllS Try.prog (tab F34.f) := ⟨F34.spec, trivial⟩
theorem plsP : AllP Try.prog (pls F34.f) := trivial
theorem mixed : Try.prog.follows .mixedOrders = true := by kernel_rfl
def fP (x34 : F34.FT) : FT := fun (f0, f1, f2, f3) =>
    (x34 (f0, f1, f2, f3)).bind fun r0 =>
      bif fOk BinOp.mul FloatKind.f64 r0.fst.fst r0.fst.fst then
        bif fOk BinOp.mul FloatKind.f64 r0.fst.snd.fst r0.fst.snd.fst then
          bif
              fOk BinOp.add FloatKind.f64 (fVal BinOp.mul FloatKind.f64 r0.fst.fst r0.fst.fst)
                (fVal BinOp.mul FloatKind.f64 r0.fst.snd.fst r0.fst.snd.fst) then
            some
              (fVal BinOp.add FloatKind.f64 (fVal BinOp.mul FloatKind.f64 r0.fst.fst r0.fst.fst)
                  (fVal BinOp.mul FloatKind.f64 r0.fst.snd.fst r0.fst.snd.fst),
                PUnit.unit)
          else none
        else none
      else none
theorem fe (x34 : F34.FT) (d : (Nat × Nat × Int × Bool)) : bodyF (tabC Try.prog (tab x34) ((24, .none) :: pls x34) 100 12) 100 24 i o d = fP x34 d := by kernel_rfl
noncomputable def f : FT := fP F34.f
def plan : Plan := .none
theorem planOk : PlanOk Try.prog (plan) (bodyOf Try.prog 24) := (planOk_of (plan) _ [] (by kernel_rfl) trivial)
theorem meets : MeetsF Try.prog 24 ⟨i, o, f⟩ :=
  funcT (fuel := 100) (depth := 12) (pl := (24, plan) :: pls F34.f) mixed tabS ⟨planOk, plsP⟩ (fun d => fe F34.f d)
theorem spec : SpecOk Try.prog (fun _ => none) 24 (specF ⟨i, o, f⟩) := specF_ok (by kernel_rfl) meets
end Go.Proofs.Ytglbcjmebjeokaa.F24

/- What comes of function 26 of this program, consulate.consulateref20.ask, as the engine gives it. -/
namespace Go.Proofs.Ytglbcjmebjeokaa.F26
open Go Go.Proofs Go.Proofs.Ytglbcjmebjeokaa Go.RowKit Go.Proofs.Ytglbcjmebjeokaa.Sx
set_option linter.unusedVariables false
set_option maxRecDepth 100000
def tab (x24 : F24.FT) : List (FuncId × Sx.Spec) := [(24, specF ⟨F24.i, F24.o, x24⟩)]
def pls (x24 : F24.FT) : List (FuncId × Plan) := []
@[reducible] def i : Sh := .ag (.sc (.int .i64) (.sc (.flt .f64) (.sc (.flt .f64) (.sc (.flt .f64) .nil)))) (.ag (.sc (.flt .f64) (.sc (.flt .f64) (.sc (.int .i64) (.sc .bool .nil)))) .nil)
@[reducible] def o : Sh := .ag (.sc (.flt .f64) (.sc (.flt .f64) (.sc (.int .i64) (.sc .bool .nil)))) .nil
abbrev FT := ((Int × Nat × Nat × Nat) × (Nat × Nat × Int × Bool)) → Option (((Nat × Nat × Int × Bool)) × Unit)
theorem tabS : AllS Try.prog (tab F24.f) := ⟨F24.spec, trivial⟩
theorem plsP : AllP Try.prog (pls F24.f) := trivial
theorem mixed : Try.prog.follows .mixedOrders = true := by kernel_rfl
def fP (x24 : F24.FT) : FT := fun ((s0, s1, s2, s3), (f0, f1, f2, f3)) =>
    (x24 (f0, f1, f2, f3)).bind fun r0 =>
      bif fOk BinOp.mul FloatKind.f64 s1 s1 then
        bif fCmp BinOp.geq FloatKind.f64 r0.fst (fVal BinOp.mul FloatKind.f64 s1 s1) then
          some ((f0, f1, f2, true), PUnit.unit)
        else
          bif fOk BinOp.mul FloatKind.f64 s2 s2 then
            bif fCmp BinOp.lss FloatKind.f64 r0.fst (fVal BinOp.mul FloatKind.f64 s2 s2) then
              some ((f0, f1, f2, false), PUnit.unit)
            else some ((f0, f1, f2, f3), PUnit.unit)
          else none
      else none
theorem fe (x24 : F24.FT) (d : (Int × Nat × Nat × Nat) × (Nat × Nat × Int × Bool)) : bodyF (tabC Try.prog (tab x24) ((26, .none) :: pls x24) 100 12) 100 26 i o d = fP x24 d := by kernel_rfl
noncomputable def f : FT := fP F24.f
def plan : Plan := .none
theorem planOk : PlanOk Try.prog (plan) (bodyOf Try.prog 26) := (planOk_of (plan) _ [] (by kernel_rfl) trivial)
theorem meets : MeetsF Try.prog 26 ⟨i, o, f⟩ :=
  funcT (fuel := 100) (depth := 12) (pl := (26, plan) :: pls F24.f) mixed tabS ⟨planOk, plsP⟩ (fun d => fe F24.f d)
theorem spec : SpecOk Try.prog (fun _ => none) 26 (specF ⟨i, o, f⟩) := specF_ok (by kernel_rfl) meets
end Go.Proofs.Ytglbcjmebjeokaa.F26

/- What comes of function 12 of this program, consulate.consulateref20.To, as the engine gives it. -/
namespace Go.Proofs.Ytglbcjmebjeokaa.F12
open Go Go.Proofs Go.Proofs.Ytglbcjmebjeokaa Go.RowKit Go.Proofs.Ytglbcjmebjeokaa.Sx
set_option linter.unusedVariables false
set_option maxRecDepth 100000
def tab (x22 : F22.FT) (x23 : F23.FT) (x26 : F26.FT) : List (FuncId × Sx.Spec) := [(22, specF ⟨F22.i, F22.o, x22⟩), (23, specF ⟨F23.i, F23.o, x23⟩), (26, specF ⟨F26.i, F26.o, x26⟩)]
def pls (x22 : F22.FT) (x23 : F23.FT) (x26 : F26.FT) : List (FuncId × Plan) := []
@[reducible] def i : Sh := .ag (.sc (.int .i64) (.sc (.flt .f64) (.sc (.flt .f64) (.sc (.flt .f64) .nil)))) (.ag (.sc (.flt .f64) (.sc (.flt .f64) (.sc (.int .i64) (.sc .bool .nil)))) (.sc (.int .i64) .nil))
@[reducible] def o : Sh := .ag (.sc (.flt .f64) (.sc (.flt .f64) (.sc (.int .i64) (.sc .bool .nil)))) (.sc (.int .i64) .nil)
abbrev FT := ((Int × Nat × Nat × Nat) × (Nat × Nat × Int × Bool) × Int) → Option (((Nat × Nat × Int × Bool) × Int) × Unit)
theorem tabS : AllS Try.prog (tab F22.f F23.f F26.f) := ⟨F22.spec, F23.spec, F26.spec, trivial⟩
theorem plsP : AllP Try.prog (pls F22.f F23.f F26.f) := trivial
theorem mixed : Try.prog.follows .mixedOrders = true := by kernel_rfl
def fP (x22 : F22.FT) (x23 : F23.FT) (x26 : F26.FT) : FT := fun ((s0, s1, s2, s3), (f0, f1, f2, f3), now) =>
    (x22 (s0, s1, s2, s3)).bind fun r0 =>
      bif !r0.fst then some (((0, 0, 0, false), 1), PUnit.unit)
      else
        bif decide (now < 0) then some (((0, 0, 0, false), 1), PUnit.unit)
        else
          bif decide (now > 1099511627776) then some (((0, 0, 0, false), 1), PUnit.unit)
          else
            (x23 ((s0, s1, s2, s3), (f0, f1, f2, f3), now)).bind fun r1 =>
              (x26 ((s0, s1, s2, s3), r1.fst.fst, r1.fst.snd.fst, r1.fst.snd.snd.fst, r1.fst.snd.snd.snd)).bind fun r2 =>
                some (((r2.fst.fst, r2.fst.snd.fst, r2.fst.snd.snd.fst, r2.fst.snd.snd.snd), 0), PUnit.unit)
theorem fe (x22 : F22.FT) (x23 : F23.FT) (x26 : F26.FT) (d : (Int × Nat × Nat × Nat) × (Nat × Nat × Int × Bool) × Int) : bodyF (tabC Try.prog (tab x22 x23 x26) ((12, .none) :: pls x22 x23 x26) 100 12) 100 12 i o d = fP x22 x23 x26 d := by kernel_rfl
noncomputable def f : FT := fP F22.f F23.f F26.f
def plan : Plan := .none
theorem planOk : PlanOk Try.prog (plan) (bodyOf Try.prog 12) := (planOk_of (plan) _ [] (by kernel_rfl) trivial)
theorem meets : MeetsF Try.prog 12 ⟨i, o, f⟩ :=
  funcT (fuel := 100) (depth := 12) (pl := (12, plan) :: pls F22.f F23.f F26.f) mixed tabS ⟨planOk, plsP⟩ (fun d => fe F22.f F23.f F26.f d)
theorem spec : SpecOk Try.prog (fun _ => none) 12 (specF ⟨i, o, f⟩) := specF_ok (by kernel_rfl) meets
end Go.Proofs.Ytglbcjmebjeokaa.F12

/- What comes of function 9 of this program, consulate.consulateref20.Add, as the engine gives it. -/
namespace Go.Proofs.Ytglbcjmebjeokaa.F9
open Go Go.Proofs Go.Proofs.Ytglbcjmebjeokaa Go.RowKit Go.Proofs.Ytglbcjmebjeokaa.Sx
set_option linter.unusedVariables false
set_option maxRecDepth 100000
def tab (x22 : F22.FT) (x23 : F23.FT) (x24 : F24.FT) (x25 : F25.FT) (x26 : F26.FT) : List (FuncId × Sx.Spec) := [(22, specF ⟨F22.i, F22.o, x22⟩), (23, specF ⟨F23.i, F23.o, x23⟩), (24, specF ⟨F24.i, F24.o, x24⟩), (25, specF ⟨F25.i, F25.o, x25⟩), (26, specF ⟨F26.i, F26.o, x26⟩)]
def pls (x22 : F22.FT) (x23 : F23.FT) (x24 : F24.FT) (x25 : F25.FT) (x26 : F26.FT) : List (FuncId × Plan) := []
@[reducible] def k1 : Sh := .pt true 38 (.sc (.int .i64) (.sc (.flt .f64) (.sc (.flt .f64) (.sc (.flt .f64) .nil)))) .nil
@[reducible] def i1 : Sh := .pt true 30 (.sc (.flt .f64) (.sc (.flt .f64) (.sc (.int .i64) (.sc .bool .nil)))) .nil
@[reducible] def o1 : Sh := .nil
abbrev G1 := ((Int × Nat × Nat × Nat)) → ((Nat × Nat × Int × Bool)) → Option (Unit × ((Nat × Nat × Int × Bool)))
def u1 (F : G1) : Un := ⟨58, [4], k1, [5], i1, [], o1, [4, 5, 8], [(.exit 0, [])], F⟩
@[reducible] def i : Sh := .ag (.sc (.int .i64) (.sc (.flt .f64) (.sc (.flt .f64) (.sc (.flt .f64) .nil)))) (.ag (.sc (.flt .f64) (.sc (.flt .f64) (.sc (.int .i64) (.sc .bool .nil)))) (.sc .bool (.sc (.int .i64) .nil)))
@[reducible] def o : Sh := .ag (.sc (.flt .f64) (.sc (.flt .f64) (.sc (.int .i64) (.sc .bool .nil)))) (.sc (.int .i64) .nil)
abbrev FT := ((Int × Nat × Nat × Nat) × (Nat × Nat × Int × Bool) × Bool × Int) → Option (((Nat × Nat × Int × Bool) × Int) × Unit)
theorem tabS : AllS Try.prog (tab F22.f F23.f F24.f F25.f F26.f) := ⟨F22.spec, F23.spec, F24.spec, F25.spec, F26.spec, trivial⟩
theorem plsP : AllP Try.prog (pls F22.f F23.f F24.f F25.f F26.f) := trivial
theorem mixed : Try.prog.follows .mixedOrders = true := by kernel_rfl
def r1P (x22 : F22.FT) (x23 : F23.FT) (x24 : F24.FT) (x25 : F25.FT) (x26 : F26.FT) : ((Int × Nat × Nat × Nat)) → ((Nat × Nat × Int × Bool)) → Option (((Nat × Nat × Int × Bool)) ⊕ (Unit × ((Nat × Nat × Int × Bool)))) := fun (s0, s1, s2, s3) (f0, f1, f2, f3) =>
    (x24 (f0, f1, f2, f3)).bind fun r0 =>
      bif fOk BinOp.mul FloatKind.f64 s3 s3 then
        bif fCmp BinOp.gtr FloatKind.f64 r0.fst (fVal BinOp.mul FloatKind.f64 s3 s3) then
          (x25 (f0, f1, f2, f3)).bind fun r1 =>
            some (Sum.inl (r1.fst.fst, r1.fst.snd.fst, r1.fst.snd.snd.fst, r1.fst.snd.snd.snd))
        else some (Sum.inr (PUnit.unit, f0, f1, f2, f3))
      else none
theorem r1e (x22 : F22.FT) (x23 : F23.FT) (x24 : F24.FT) (x25 : F25.FT) (x26 : F26.FT) (kd : (Int × Nat × Nat × Nat)) (d : (Nat × Nat × Int × Bool)) : roundF (tabC Try.prog (tab x22 x23 x24 x25 x26) (pls x22 x23 x24 x25 x26) 100 12) 100 .none (u1 fun _ _ => none) (codeAt [1, 1, 1, 1, 1, 0, 0, 0] (bodyOf Try.prog 9)) kd d = r1P x22 x23 x24 x25 x26 kd d := by kernel_rfl
noncomputable def r1 : ((Int × Nat × Nat × Nat)) → ((Nat × Nat × Int × Bool)) → Option (((Nat × Nat × Int × Bool)) ⊕ (Unit × ((Nat × Nat × Int × Bool)))) := r1P F22.f F23.f F24.f F25.f F26.f
noncomputable def l1 : G1 := fun kd d => iterO (r1 kd) d
theorem ok1 : UnOk Try.prog (u1 l1) (codeAt [1, 1, 1, 1, 1, 0, 0] (bodyOf Try.prog 9)) :=
  loopT (p := .none) (c := codeAt [1, 1, 1, 1, 1, 0, 0, 0] (bodyOf Try.prog 9)) (fuel := 100) (depth := 12) mixed tabS plsP (by kernel_rfl) trivial (by kernel_rfl) (fun kd d => r1e F22.f F23.f F24.f F25.f F26.f kd d) rfl
def fP (x22 : F22.FT) (x23 : F23.FT) (x24 : F24.FT) (x25 : F25.FT) (x26 : F26.FT) (l1 : G1) : FT := fun ((s0, s1, s2, s3), (f0, f1, f2, f3), withdrawn, now) =>
    (x22 (s0, s1, s2, s3)).bind fun r0 =>
      bif !r0.fst then some (((0, 0, 0, false), 1), PUnit.unit)
      else
        bif decide (now < 0) then some (((0, 0, 0, false), 1), PUnit.unit)
        else
          bif decide (now > 1099511627776) then some (((0, 0, 0, false), 1), PUnit.unit)
          else
            (x23 ((s0, s1, s2, s3), (f0, f1, f2, f3), now)).bind fun r1 =>
              bif fCmp BinOp.eql FloatKind.f64 r1.fst.fst 0 then
                bif fCmp BinOp.eql FloatKind.f64 r1.fst.snd.fst 0 then
                  bif withdrawn then
                    bif fOk BinOp.add FloatKind.f64 r1.fst.fst 4652007308841189376 then
                      (l1 (s0, s1, s2, s3)
                            (fVal BinOp.add FloatKind.f64 r1.fst.fst 4652007308841189376, r1.fst.snd.fst, now,
                              r1.fst.snd.snd.snd)).bind
                        fun r2 =>
                        (x26 ((s0, s1, s2, s3), r2.snd.fst, r2.snd.snd.fst, r2.snd.snd.snd.fst, r2.snd.snd.snd.snd)).bind
                          fun r3 =>
                          some (((r3.fst.fst, r3.fst.snd.fst, r3.fst.snd.snd.fst, r3.fst.snd.snd.snd), 0), PUnit.unit)
                    else none
                  else
                    bif fOk BinOp.add FloatKind.f64 r1.fst.snd.fst 4647503709213818880 then
                      (l1 (s0, s1, s2, s3)
                            (r1.fst.fst, fVal BinOp.add FloatKind.f64 r1.fst.snd.fst 4647503709213818880, now,
                              r1.fst.snd.snd.snd)).bind
                        fun r2 =>
                        (x26 ((s0, s1, s2, s3), r2.snd.fst, r2.snd.snd.fst, r2.snd.snd.snd.fst, r2.snd.snd.snd.snd)).bind
                          fun r3 =>
                          some (((r3.fst.fst, r3.fst.snd.fst, r3.fst.snd.snd.fst, r3.fst.snd.snd.snd), 0), PUnit.unit)
                    else none
                else
                  bif withdrawn then
                    bif fOk BinOp.add FloatKind.f64 r1.fst.fst 4652007308841189376 then
                      (l1 (s0, s1, s2, s3)
                            (fVal BinOp.add FloatKind.f64 r1.fst.fst 4652007308841189376, r1.fst.snd.fst,
                              r1.fst.snd.snd.fst, r1.fst.snd.snd.snd)).bind
                        fun r2 =>
                        (x26 ((s0, s1, s2, s3), r2.snd.fst, r2.snd.snd.fst, r2.snd.snd.snd.fst, r2.snd.snd.snd.snd)).bind
                          fun r3 =>
                          some (((r3.fst.fst, r3.fst.snd.fst, r3.fst.snd.snd.fst, r3.fst.snd.snd.snd), 0), PUnit.unit)
                    else none
                  else
                    bif fOk BinOp.add FloatKind.f64 r1.fst.snd.fst 4647503709213818880 then
                      (l1 (s0, s1, s2, s3)
                            (r1.fst.fst, fVal BinOp.add FloatKind.f64 r1.fst.snd.fst 4647503709213818880,
                              r1.fst.snd.snd.fst, r1.fst.snd.snd.snd)).bind
                        fun r2 =>
                        (x26 ((s0, s1, s2, s3), r2.snd.fst, r2.snd.snd.fst, r2.snd.snd.snd.fst, r2.snd.snd.snd.snd)).bind
                          fun r3 =>
                          some (((r3.fst.fst, r3.fst.snd.fst, r3.fst.snd.snd.fst, r3.fst.snd.snd.snd), 0), PUnit.unit)
                    else none
              else
                bif withdrawn then
                  bif fOk BinOp.add FloatKind.f64 r1.fst.fst 4652007308841189376 then
                    (l1 (s0, s1, s2, s3)
                          (fVal BinOp.add FloatKind.f64 r1.fst.fst 4652007308841189376, r1.fst.snd.fst,
                            r1.fst.snd.snd.fst, r1.fst.snd.snd.snd)).bind
                      fun r2 =>
                      (x26 ((s0, s1, s2, s3), r2.snd.fst, r2.snd.snd.fst, r2.snd.snd.snd.fst, r2.snd.snd.snd.snd)).bind
                        fun r3 =>
                        some (((r3.fst.fst, r3.fst.snd.fst, r3.fst.snd.snd.fst, r3.fst.snd.snd.snd), 0), PUnit.unit)
                  else none
                else
                  bif fOk BinOp.add FloatKind.f64 r1.fst.snd.fst 4647503709213818880 then
                    (l1 (s0, s1, s2, s3)
                          (r1.fst.fst, fVal BinOp.add FloatKind.f64 r1.fst.snd.fst 4647503709213818880,
                            r1.fst.snd.snd.fst, r1.fst.snd.snd.snd)).bind
                      fun r2 =>
                      (x26 ((s0, s1, s2, s3), r2.snd.fst, r2.snd.snd.fst, r2.snd.snd.snd.fst, r2.snd.snd.snd.snd)).bind
                        fun r3 =>
                        some (((r3.fst.fst, r3.fst.snd.fst, r3.fst.snd.snd.fst, r3.fst.snd.snd.snd), 0), PUnit.unit)
                  else none
theorem fe (x22 : F22.FT) (x23 : F23.FT) (x24 : F24.FT) (x25 : F25.FT) (x26 : F26.FT) (l1 : G1) (d : (Int × Nat × Nat × Nat) × (Nat × Nat × Int × Bool) × Bool × Int) : bodyF (tabC Try.prog (tab x22 x23 x24 x25 x26) ((9, (.node .none (.node .none (.node .none (.node .none (.node .none (.node (.node (.unit (u1 l1)) .none) .none))))))) :: pls x22 x23 x24 x25 x26) 100 12) 100 9 i o d = fP x22 x23 x24 x25 x26 l1 d := by kernel_rfl
noncomputable def f : FT := fP F22.f F23.f F24.f F25.f F26.f l1
def plan (l1 : G1) : Plan := (.node .none (.node .none (.node .none (.node .none (.node .none (.node (.node (.unit (u1 l1)) .none) .none))))))
theorem planOk : PlanOk Try.prog (plan l1) (bodyOf Try.prog 9) := (planOk_of (plan l1) _ [([1, 1, 1, 1, 1, 0, 0], u1 l1)] rfl ⟨ok1, trivial⟩)
theorem meets : MeetsF Try.prog 9 ⟨i, o, f⟩ :=
  funcT (fuel := 100) (depth := 12) (pl := (9, plan l1) :: pls F22.f F23.f F24.f F25.f F26.f) mixed tabS ⟨planOk, plsP⟩ (fun d => fe F22.f F23.f F24.f F25.f F26.f l1 d)
theorem spec : SpecOk Try.prog (fun _ => none) 9 (specF ⟨i, o, f⟩) := specF_ok (by kernel_rfl) meets
end Go.Proofs.Ytglbcjmebjeokaa.F9

/- What comes of function 13 of this program, consulate.consulatelaw20.of, as the engine gives it. -/
namespace Go.Proofs.Ytglbcjmebjeokaa.F13
open Go Go.Proofs Go.Proofs.Ytglbcjmebjeokaa Go.RowKit Go.Proofs.Ytglbcjmebjeokaa.Sx
set_option linter.unusedVariables false
set_option maxRecDepth 100000
def tab : List (FuncId × Sx.Spec) := []
def pls : List (FuncId × Plan) := []
@[reducible] def i : Sh := .ag (.sc (.cpx .f64) (.sc (.int .i64) (.sc .bool .nil))) .nil
@[reducible] def o : Sh := .ag (.sc (.flt .f64) (.sc (.flt .f64) (.sc (.int .i64) (.sc .bool .nil)))) .nil
abbrev FT := (((Nat × Nat) × Int × Bool)) → Option (((Nat × Nat × Int × Bool)) × Unit)
theorem tabS : AllS Try.prog (tab) := trivial
theorem plsP : AllP Try.prog (pls) := trivial
theorem mixed : Try.prog.follows .mixedOrders = true := by kernel_rfl
def fP : FT := fun (f0, f1, f2) =>
   some ((f0.fst, f0.snd, f1, f2), PUnit.unit)
theorem fe (d : ((Nat × Nat) × Int × Bool)) : bodyF (tabC Try.prog (tab) ((13, .none) :: pls) 100 12) 100 13 i o d = fP d := by kernel_rfl
noncomputable def f : FT := fP
def plan : Plan := .none
theorem planOk : PlanOk Try.prog (plan) (bodyOf Try.prog 13) := (planOk_of (plan) _ [] (by kernel_rfl) trivial)
theorem meets : MeetsF Try.prog 13 ⟨i, o, f⟩ :=
  funcT (fuel := 100) (depth := 12) (pl := (13, plan) :: pls) mixed tabS ⟨planOk, plsP⟩ (fun d => fe  d)
theorem spec : SpecOk Try.prog (fun _ => none) 13 (specF ⟨i, o, f⟩) := specF_ok (by kernel_rfl) meets
end Go.Proofs.Ytglbcjmebjeokaa.F13

/- What comes of function 11 of this program, (consulate.damp.Settings).To, as the engine gives it. -/
namespace Go.Proofs.Ytglbcjmebjeokaa.F11
open Go Go.Proofs Go.Proofs.Ytglbcjmebjeokaa Go.RowKit Go.Proofs.Ytglbcjmebjeokaa.Sx
set_option linter.unusedVariables false
set_option maxRecDepth 100000
def tab (x27 : F27.FT) (x29 : F29.FT) (x28 : F28.FT) : List (FuncId × Sx.Spec) := [(27, specF ⟨F27.i, F27.o, x27⟩), (29, specF ⟨F29.i, F29.o, x29⟩), (28, specF ⟨F28.i, F28.o, x28⟩)]
def pls (x27 : F27.FT) (x29 : F29.FT) (x28 : F28.FT) : List (FuncId × Plan) := []
@[reducible] def i : Sh := .ag (.sc (.int .i64) (.sc (.flt .f64) (.sc (.flt .f64) (.sc (.flt .f64) .nil)))) (.ag (.sc (.cpx .f64) (.sc (.int .i64) (.sc .bool .nil))) (.sc (.int .i64) .nil))
@[reducible] def o : Sh := .ag (.sc (.cpx .f64) (.sc (.int .i64) (.sc .bool .nil))) (.sc (.int .i64) .nil)
abbrev FT := ((Int × Nat × Nat × Nat) × ((Nat × Nat) × Int × Bool) × Int) → Option ((((Nat × Nat) × Int × Bool) × Int) × Unit)
theorem tabS : AllS Try.prog (tab F27.f F29.f F28.f) := ⟨F27.spec, F29.spec, F28.spec, trivial⟩
theorem plsP : AllP Try.prog (pls F27.f F29.f F28.f) := trivial
theorem mixed : Try.prog.follows .mixedOrders = true := by kernel_rfl
def fP (x27 : F27.FT) (x29 : F29.FT) (x28 : F28.FT) : FT := fun ((s0, s1, s2, s3), (f0, f1, f2), now) =>
    (x27 ((s0, s1, s2, s3), now)).bind fun r0 =>
      bif !r0.fst then some ((((0, 0), 0, false), 1), PUnit.unit)
      else
        (x29 ((s0, s1, s2, s3), ((f0.fst, f0.snd), f1, f2), now)).bind fun r1 =>
          (x28 ((s0, s1, s2, s3), (r1.fst.fst.fst, r1.fst.fst.snd), r1.fst.snd.fst, r1.fst.snd.snd)).bind fun r2 =>
            some ((((r2.fst.fst.fst, r2.fst.fst.snd), r2.fst.snd.fst, r2.fst.snd.snd), 0), PUnit.unit)
theorem fe (x27 : F27.FT) (x29 : F29.FT) (x28 : F28.FT) (d : (Int × Nat × Nat × Nat) × ((Nat × Nat) × Int × Bool) × Int) : bodyF (tabC Try.prog (tab x27 x29 x28) ((11, .none) :: pls x27 x29 x28) 100 12) 100 11 i o d = fP x27 x29 x28 d := by kernel_rfl
noncomputable def f : FT := fP F27.f F29.f F28.f
def plan : Plan := .none
theorem planOk : PlanOk Try.prog (plan) (bodyOf Try.prog 11) := (planOk_of (plan) _ [] (by kernel_rfl) trivial)
theorem meets : MeetsF Try.prog 11 ⟨i, o, f⟩ :=
  funcT (fuel := 100) (depth := 12) (pl := (11, plan) :: pls F27.f F29.f F28.f) mixed tabS ⟨planOk, plsP⟩ (fun d => fe F27.f F29.f F28.f d)
theorem spec : SpecOk Try.prog (fun _ => none) 11 (specF ⟨i, o, f⟩) := specF_ok (by kernel_rfl) meets
end Go.Proofs.Ytglbcjmebjeokaa.F11

/- What stands on its own: function 14 says true. -/
namespace Go.Proofs.Ytglbcjmebjeokaa.KA
open Go Go.Proofs Go.Proofs.Ytglbcjmebjeokaa Go.RowKit Go.Proofs.Ytglbcjmebjeokaa.Sx
theorem mixed : Try.prog.follows .mixedOrders = true := by kernel_rfl
theorem tells (W : World) (hW : GlobW W) : Calls Try.prog 14 #[] W (Law.Told W) :=
  closed_law (C := tower (base Try.prog) [] 100 20) (tower_ok (base_ok _) (noPlans _ rfl) mixed (fun _ _ h => by cases h) 20) rfl (by kernel_rfl) W hW
end Go.Proofs.Ytglbcjmebjeokaa.KA

/- What comes of function 3 of this program, consulate.consulatelaw20.DampRuns, as the engine gives it. -/
namespace Go.Proofs.Ytglbcjmebjeokaa.F3
open Go Go.Proofs Go.Proofs.Ytglbcjmebjeokaa Go.RowKit Go.Proofs.Ytglbcjmebjeokaa.Sx
set_option linter.unusedVariables false
set_option maxRecDepth 100000
def tab (x8 : F8.FT) (x9 : F9.FT) (x10 : F10.FT) (x11 : F11.FT) (x12 : F12.FT) (x13 : F13.FT) : List (FuncId × Sx.Spec) := [(8, specF ⟨F8.i, F8.o, x8⟩), (9, specF ⟨F9.i, F9.o, x9⟩), (10, specF ⟨F10.i, F10.o, x10⟩), (11, specF ⟨F11.i, F11.o, x11⟩), (12, specF ⟨F12.i, F12.o, x12⟩), (13, specF ⟨F13.i, F13.o, x13⟩), (14, pureS saysS)]
def pls (x8 : F8.FT) (x9 : F9.FT) (x10 : F10.FT) (x11 : F11.FT) (x12 : F12.FT) (x13 : F13.FT) : List (FuncId × Plan) := []
@[reducible] def k1 : Sh := .sl false 32 (.sc (.int .u8) (.sc (.int .u8) .nil)) (.pt true 24 (.sc (.int .i64) (.sc (.flt .f64) (.sc (.flt .f64) (.sc (.flt .f64) .nil)))) .nil)
@[reducible] def i1 : Sh := .pt true 28 (.sc (.cpx .f64) (.sc (.int .i64) (.sc .bool .nil))) (.pt true 30 (.sc (.flt .f64) (.sc (.flt .f64) (.sc (.int .i64) (.sc .bool .nil)))) (.sc (.int .i64) (.sc (.int .i64) .nil)))
@[reducible] def o1 : Sh := .sc (.int .i64) (.sc .bool .nil)
abbrev G1 := ((List (Int × Int)) × (Int × Nat × Nat × Nat)) → (((Nat × Nat) × Int × Bool) × (Nat × Nat × Int × Bool) × Int × Int) → Option ((Int × Bool) × (((Nat × Nat) × Int × Bool) × (Nat × Nat × Int × Bool)))
def u1 (F : G1) : Un := ⟨91, [1, 2], k1, [5, 6, 7, 8], i1, [4], o1, [1, 2, 5, 6], [(.exit 0, [false]), (.ret, [true])], F⟩
@[reducible] def i : Sh := .ag (.sc (.int .i64) (.sc (.flt .f64) (.sc (.flt .f64) (.sc (.flt .f64) .nil)))) (.sl false 32 (.sc (.int .u8) (.sc (.int .u8) .nil)) .nil)
@[reducible] def o : Sh := .sc .bool .nil
abbrev FT := ((Int × Nat × Nat × Nat) × (List (Int × Int))) → Option (Bool × Unit)
theorem tabS : AllS Try.prog (tab F8.f F9.f F10.f F11.f F12.f F13.f) := ⟨F8.spec, F9.spec, F10.spec, F11.spec, F12.spec, F13.spec, says_ok (by kernel_rfl) KA.tells, trivial⟩
theorem plsP : AllP Try.prog (pls F8.f F9.f F10.f F11.f F12.f F13.f) := trivial
theorem mixed : Try.prog.follows .mixedOrders = true := by kernel_rfl
def r1P (x8 : F8.FT) (x9 : F9.FT) (x10 : F10.FT) (x11 : F11.FT) (x12 : F12.FT) (x13 : F13.FT) : ((List (Int × Int)) × (Int × Nat × Nat × Nat)) → (((Nat × Nat) × Int × Bool) × (Nat × Nat × Int × Bool) × Int × Int) → Option ((((Nat × Nat) × Int × Bool) × (Nat × Nat × Int × Bool) × Int × Int) ⊕ ((Int × Bool) × (((Nat × Nat) × Int × Bool) × (Nat × Nat × Int × Bool)))) := fun (l, (s0, s1, s2, s3)) ((f0, f1, f2), (w0, w1, w2, w3), now, i) =>
    bif decide (i < (↑l.length : Int)) then
      bif decide (i < 60) then
        bif decide (0 ≤ i ∧ i < (↑l.length : Int) ∧ 0 < l.length) then
          bif decide (0 + i.toNat < l.length) then
            bif decide (0 ≤ i ∧ i < (↑l.length : Int) ∧ 0 < l.length) then
              bif decide (0 + i.toNat < l.length) then
                bif (l.getD (0 + i.toNat) (0, 0)).fst == 0 then
                  (x8
                        ((s0, s1, s2, s3), ((f0.fst, f0.snd), f1, f2),
                          IntKind.i64.wrap (now + IntKind.i64.wrap (l.getD (0 + i.toNat) (0, 0)).snd))).bind
                    fun r0 =>
                    (x9
                          ((s0, s1, s2, s3), (w0, w1, w2, w3), true,
                            IntKind.i64.wrap (now + IntKind.i64.wrap (l.getD (0 + i.toNat) (0, 0)).snd))).bind
                      fun r1 =>
                      (x13 ((r0.fst.fst.fst.fst, r0.fst.fst.fst.snd), r0.fst.fst.snd.fst, r0.fst.fst.snd.snd)).bind
                        fun r2 =>
                        bif
                            !(Op.floatEq FloatKind.f64 r2.fst.fst r1.fst.fst.fst &&
                                (Op.floatEq FloatKind.f64 r2.fst.snd.fst r1.fst.fst.snd.fst &&
                                  (r2.fst.snd.snd.fst == r1.fst.fst.snd.snd.fst &&
                                    (r2.fst.snd.snd.snd == r1.fst.fst.snd.snd.snd && true)))) then
                          some
                            (Sum.inr
                              ((1, false),
                                ((r0.fst.fst.fst.fst, r0.fst.fst.fst.snd), r0.fst.fst.snd.fst, r0.fst.fst.snd.snd),
                                r1.fst.fst.fst, r1.fst.fst.snd.fst, r1.fst.fst.snd.snd.fst, r1.fst.fst.snd.snd.snd))
                        else
                          bif r0.fst.snd != r1.fst.snd then
                            some
                              (Sum.inr
                                ((1, false),
                                  ((r0.fst.fst.fst.fst, r0.fst.fst.fst.snd), r0.fst.fst.snd.fst, r0.fst.fst.snd.snd),
                                  r1.fst.fst.fst, r1.fst.fst.snd.fst, r1.fst.fst.snd.snd.fst, r1.fst.fst.snd.snd.snd))
                          else
                            some
                              (Sum.inl
                                (((r0.fst.fst.fst.fst, r0.fst.fst.fst.snd), r0.fst.fst.snd.fst, r0.fst.fst.snd.snd),
                                  (r1.fst.fst.fst, r1.fst.fst.snd.fst, r1.fst.fst.snd.snd.fst, r1.fst.fst.snd.snd.snd),
                                  IntKind.i64.wrap (now + IntKind.i64.wrap (l.getD (0 + i.toNat) (0, 0)).snd),
                                  IntKind.i64.wrap (i + 1)))
                else
                  bif (l.getD (0 + i.toNat) (0, 0)).fst == 1 then
                    (x10
                          ((s0, s1, s2, s3), ((f0.fst, f0.snd), f1, f2),
                            IntKind.i64.wrap (now + IntKind.i64.wrap (l.getD (0 + i.toNat) (0, 0)).snd))).bind
                      fun r0 =>
                      (x9
                            ((s0, s1, s2, s3), (w0, w1, w2, w3), false,
                              IntKind.i64.wrap (now + IntKind.i64.wrap (l.getD (0 + i.toNat) (0, 0)).snd))).bind
                        fun r1 =>
                        (x13 ((r0.fst.fst.fst.fst, r0.fst.fst.fst.snd), r0.fst.fst.snd.fst, r0.fst.fst.snd.snd)).bind
                          fun r2 =>
                          bif
                              !(Op.floatEq FloatKind.f64 r2.fst.fst r1.fst.fst.fst &&
                                  (Op.floatEq FloatKind.f64 r2.fst.snd.fst r1.fst.fst.snd.fst &&
                                    (r2.fst.snd.snd.fst == r1.fst.fst.snd.snd.fst &&
                                      (r2.fst.snd.snd.snd == r1.fst.fst.snd.snd.snd && true)))) then
                            some
                              (Sum.inr
                                ((1, false),
                                  ((r0.fst.fst.fst.fst, r0.fst.fst.fst.snd), r0.fst.fst.snd.fst, r0.fst.fst.snd.snd),
                                  r1.fst.fst.fst, r1.fst.fst.snd.fst, r1.fst.fst.snd.snd.fst, r1.fst.fst.snd.snd.snd))
                          else
                            bif r0.fst.snd != r1.fst.snd then
                              some
                                (Sum.inr
                                  ((1, false),
                                    ((r0.fst.fst.fst.fst, r0.fst.fst.fst.snd), r0.fst.fst.snd.fst, r0.fst.fst.snd.snd),
                                    r1.fst.fst.fst, r1.fst.fst.snd.fst, r1.fst.fst.snd.snd.fst, r1.fst.fst.snd.snd.snd))
                            else
                              some
                                (Sum.inl
                                  (((r0.fst.fst.fst.fst, r0.fst.fst.fst.snd), r0.fst.fst.snd.fst, r0.fst.fst.snd.snd),
                                    (r1.fst.fst.fst, r1.fst.fst.snd.fst, r1.fst.fst.snd.snd.fst, r1.fst.fst.snd.snd.snd),
                                    IntKind.i64.wrap (now + IntKind.i64.wrap (l.getD (0 + i.toNat) (0, 0)).snd),
                                    IntKind.i64.wrap (i + 1)))
                  else
                    (x11
                          ((s0, s1, s2, s3), ((f0.fst, f0.snd), f1, f2),
                            IntKind.i64.wrap (now + IntKind.i64.wrap (l.getD (0 + i.toNat) (0, 0)).snd))).bind
                      fun r0 =>
                      (x12
                            ((s0, s1, s2, s3), (w0, w1, w2, w3),
                              IntKind.i64.wrap (now + IntKind.i64.wrap (l.getD (0 + i.toNat) (0, 0)).snd))).bind
                        fun r1 =>
                        (x13 ((r0.fst.fst.fst.fst, r0.fst.fst.fst.snd), r0.fst.fst.snd.fst, r0.fst.fst.snd.snd)).bind
                          fun r2 =>
                          bif
                              !(Op.floatEq FloatKind.f64 r2.fst.fst r1.fst.fst.fst &&
                                  (Op.floatEq FloatKind.f64 r2.fst.snd.fst r1.fst.fst.snd.fst &&
                                    (r2.fst.snd.snd.fst == r1.fst.fst.snd.snd.fst &&
                                      (r2.fst.snd.snd.snd == r1.fst.fst.snd.snd.snd && true)))) then
                            some
                              (Sum.inr
                                ((1, false),
                                  ((r0.fst.fst.fst.fst, r0.fst.fst.fst.snd), r0.fst.fst.snd.fst, r0.fst.fst.snd.snd),
                                  r1.fst.fst.fst, r1.fst.fst.snd.fst, r1.fst.fst.snd.snd.fst, r1.fst.fst.snd.snd.snd))
                          else
                            bif r0.fst.snd != r1.fst.snd then
                              some
                                (Sum.inr
                                  ((1, false),
                                    ((r0.fst.fst.fst.fst, r0.fst.fst.fst.snd), r0.fst.fst.snd.fst, r0.fst.fst.snd.snd),
                                    r1.fst.fst.fst, r1.fst.fst.snd.fst, r1.fst.fst.snd.snd.fst, r1.fst.fst.snd.snd.snd))
                            else
                              some
                                (Sum.inl
                                  (((r0.fst.fst.fst.fst, r0.fst.fst.fst.snd), r0.fst.fst.snd.fst, r0.fst.fst.snd.snd),
                                    (r1.fst.fst.fst, r1.fst.fst.snd.fst, r1.fst.fst.snd.snd.fst, r1.fst.fst.snd.snd.snd),
                                    IntKind.i64.wrap (now + IntKind.i64.wrap (l.getD (0 + i.toNat) (0, 0)).snd),
                                    IntKind.i64.wrap (i + 1)))
              else none
            else none
          else none
        else none
      else some (Sum.inr ((0, false), (f0, f1, f2), w0, w1, w2, w3))
    else some (Sum.inr ((0, false), (f0, f1, f2), w0, w1, w2, w3))
theorem r1e (x8 : F8.FT) (x9 : F9.FT) (x10 : F10.FT) (x11 : F11.FT) (x12 : F12.FT) (x13 : F13.FT) (kd : (List (Int × Int)) × (Int × Nat × Nat × Nat)) (d : ((Nat × Nat) × Int × Bool) × (Nat × Nat × Int × Bool) × Int × Int) : roundF (tabC Try.prog (tab x8 x9 x10 x11 x12 x13) (pls x8 x9 x10 x11 x12 x13) 100 12) 100 .none (u1 fun _ _ => none) (codeAt [1, 1, 1, 1, 0, 1, 0, 0] (bodyOf Try.prog 3)) kd d = r1P x8 x9 x10 x11 x12 x13 kd d := by kernel_rfl
noncomputable def r1 : ((List (Int × Int)) × (Int × Nat × Nat × Nat)) → (((Nat × Nat) × Int × Bool) × (Nat × Nat × Int × Bool) × Int × Int) → Option ((((Nat × Nat) × Int × Bool) × (Nat × Nat × Int × Bool) × Int × Int) ⊕ ((Int × Bool) × (((Nat × Nat) × Int × Bool) × (Nat × Nat × Int × Bool)))) := r1P F8.f F9.f F10.f F11.f F12.f F13.f
noncomputable def l1 : G1 := fun kd d => iterO (r1 kd) d
theorem ok1 : UnOk Try.prog (u1 l1) (codeAt [1, 1, 1, 1, 0, 1, 0] (bodyOf Try.prog 3)) :=
  loopT (p := .none) (c := codeAt [1, 1, 1, 1, 0, 1, 0, 0] (bodyOf Try.prog 3)) (fuel := 100) (depth := 12) mixed tabS plsP (by kernel_rfl) trivial (by kernel_rfl) (fun kd d => r1e F8.f F9.f F10.f F11.f F12.f F13.f kd d) rfl
def fP (x8 : F8.FT) (x9 : F9.FT) (x10 : F10.FT) (x11 : F11.FT) (x12 : F12.FT) (x13 : F13.FT) (l1 : G1) : FT := fun ((s0, s1, s2, s3), l) =>
    bif decide (0 + l.length ≤ l.length) && true then
      (l1 (List.take l.length l, s0, s1, s2, s3) (((0, 0), 0, false), (0, 0, 0, false), 0, 0)).bind fun r0 =>
        bif decide (r0.fst.fst = 0) then some (true, PUnit.unit)
        else bif decide (r0.fst.fst = 1) then some (r0.fst.snd, PUnit.unit) else none
    else none
theorem fe (x8 : F8.FT) (x9 : F9.FT) (x10 : F10.FT) (x11 : F11.FT) (x12 : F12.FT) (x13 : F13.FT) (l1 : G1) (d : (Int × Nat × Nat × Nat) × (List (Int × Int))) : bodyF (tabC Try.prog (tab x8 x9 x10 x11 x12 x13) ((3, (.node .none (.node .none (.node .none (.node .none (.node (.node .none (.node (.unit (u1 l1)) .none)) .none)))))) :: pls x8 x9 x10 x11 x12 x13) 100 12) 100 3 i o d = fP x8 x9 x10 x11 x12 x13 l1 d := by kernel_rfl
noncomputable def f : FT := fP F8.f F9.f F10.f F11.f F12.f F13.f l1
def plan (l1 : G1) : Plan := (.node .none (.node .none (.node .none (.node .none (.node (.node .none (.node (.unit (u1 l1)) .none)) .none)))))
theorem planOk : PlanOk Try.prog (plan l1) (bodyOf Try.prog 3) := (planOk_of (plan l1) _ [([1, 1, 1, 1, 0, 1, 0], u1 l1)] rfl ⟨ok1, trivial⟩)
theorem meets : MeetsF Try.prog 3 ⟨i, o, f⟩ :=
  funcT (fuel := 100) (depth := 12) (pl := (3, plan l1) :: pls F8.f F9.f F10.f F11.f F12.f F13.f) mixed tabS ⟨planOk, plsP⟩ (fun d => fe F8.f F9.f F10.f F11.f F12.f F13.f l1 d)
theorem spec : SpecOk Try.prog (fun _ => none) 3 (specF ⟨i, o, f⟩) := specF_ok (by kernel_rfl) meets
end Go.Proofs.Ytglbcjmebjeokaa.F3

/- What comes of function 15 of this program, (consulate.consulatelaw20.Numbers).settings, as the engine gives it. -/
namespace Go.Proofs.Ytglbcjmebjeokaa.F15
open Go Go.Proofs Go.Proofs.Ytglbcjmebjeokaa Go.RowKit Go.Proofs.Ytglbcjmebjeokaa.Sx
set_option linter.unusedVariables false
set_option maxRecDepth 100000
def tab : List (FuncId × Sx.Spec) := []
def pls : List (FuncId × Plan) := []
@[reducible] def i : Sh := .ag (.sc (.int .u16) (.sc (.int .u16) (.sc (.int .u16) (.sc (.int .u16) .nil)))) .nil
@[reducible] def o : Sh := .ag (.sc (.int .i64) (.sc (.flt .f64) (.sc (.flt .f64) (.sc (.flt .f64) .nil)))) .nil
abbrev FT := ((Int × Int × Int × Int)) → Option (((Int × Nat × Nat × Nat)) × Unit)
theorem tabS : AllS Try.prog (tab) := trivial
theorem plsP : AllP Try.prog (pls) := trivial
theorem mixed : Try.prog.follows .mixedOrders = true := by kernel_rfl
def fP : FT := fun (n0, n1, n2, n3) =>
    bif fOk BinOp.add FloatKind.f64 4607182418800017408 (FloatKind.f64.nearest (n1.tmod 1000)) then
      bif
          fOk BinOp.add FloatKind.f64
            (fVal BinOp.add FloatKind.f64 4607182418800017408 (FloatKind.f64.nearest (n1.tmod 1000)))
            4607182418800017408 then
        bif
            fOk BinOp.add FloatKind.f64
              (fVal BinOp.add FloatKind.f64
                (fVal BinOp.add FloatKind.f64 4607182418800017408 (FloatKind.f64.nearest (n1.tmod 1000)))
                4607182418800017408)
              (FloatKind.f64.nearest (n2.tmod 4000)) then
          bif
              fOk BinOp.add FloatKind.f64
                (fVal BinOp.add FloatKind.f64
                  (fVal BinOp.add FloatKind.f64
                    (fVal BinOp.add FloatKind.f64 4607182418800017408 (FloatKind.f64.nearest (n1.tmod 1000)))
                    4607182418800017408)
                  (FloatKind.f64.nearest (n2.tmod 4000)))
                (FloatKind.f64.nearest n3) then
            some
              ((IntKind.i64.wrap (1 + IntKind.i64.wrap (n0.tmod 256)),
                  fVal BinOp.add FloatKind.f64
                    (fVal BinOp.add FloatKind.f64
                      (fVal BinOp.add FloatKind.f64 4607182418800017408 (FloatKind.f64.nearest (n1.tmod 1000)))
                      4607182418800017408)
                    (FloatKind.f64.nearest (n2.tmod 4000)),
                  fVal BinOp.add FloatKind.f64 4607182418800017408 (FloatKind.f64.nearest (n1.tmod 1000)),
                  fVal BinOp.add FloatKind.f64
                    (fVal BinOp.add FloatKind.f64
                      (fVal BinOp.add FloatKind.f64
                        (fVal BinOp.add FloatKind.f64 4607182418800017408 (FloatKind.f64.nearest (n1.tmod 1000)))
                        4607182418800017408)
                      (FloatKind.f64.nearest (n2.tmod 4000)))
                    (FloatKind.f64.nearest n3)),
                PUnit.unit)
          else none
        else none
      else none
    else none
theorem fe (d : (Int × Int × Int × Int)) : bodyF (tabC Try.prog (tab) ((15, .none) :: pls) 100 12) 100 15 i o d = fP d := by kernel_rfl
noncomputable def f : FT := fP
def plan : Plan := .none
theorem planOk : PlanOk Try.prog (plan) (bodyOf Try.prog 15) := (planOk_of (plan) _ [] (by kernel_rfl) trivial)
theorem meets : MeetsF Try.prog 15 ⟨i, o, f⟩ :=
  funcT (fuel := 100) (depth := 12) (pl := (15, plan) :: pls) mixed tabS ⟨planOk, plsP⟩ (fun d => fe  d)
theorem spec : SpecOk Try.prog (fun _ => none) 15 (specF ⟨i, o, f⟩) := specF_ok (by kernel_rfl) meets
end Go.Proofs.Ytglbcjmebjeokaa.F15

/- What comes of function 16 of this program, consulate.consulatelaw20.run, as the engine gives it. -/
namespace Go.Proofs.Ytglbcjmebjeokaa.F16
open Go Go.Proofs Go.Proofs.Ytglbcjmebjeokaa Go.RowKit Go.Proofs.Ytglbcjmebjeokaa.Sx
set_option linter.unusedVariables false
set_option maxRecDepth 100000
def tab (x8 : F8.FT) (x10 : F10.FT) (x11 : F11.FT) : List (FuncId × Sx.Spec) := [(8, specF ⟨F8.i, F8.o, x8⟩), (10, specF ⟨F10.i, F10.o, x10⟩), (11, specF ⟨F11.i, F11.o, x11⟩)]
def pls (x8 : F8.FT) (x10 : F10.FT) (x11 : F11.FT) : List (FuncId × Plan) := []
@[reducible] def k1 : Sh := .pt true 24 (.sc (.int .i64) (.sc (.flt .f64) (.sc (.flt .f64) (.sc (.flt .f64) .nil)))) (.sl false 32 (.sc (.int .u8) (.sc (.int .u8) .nil)) (.sc (.int .i64) .nil))
@[reducible] def i1 : Sh := .pt true 28 (.sc (.cpx .f64) (.sc (.int .i64) (.sc .bool .nil))) (.sc (.int .i64) (.sc (.int .i64) .nil))
@[reducible] def o1 : Sh := .sc (.int .i64) .nil
abbrev G1 := ((Int × Nat × Nat × Nat) × (List (Int × Int)) × Int) → (((Nat × Nat) × Int × Bool) × Int × Int) → Option (Int × (((Nat × Nat) × Int × Bool)))
def u1 (F : G1) : Un := ⟨54, [2, 10, 11], k1, [6, 7, 12], i1, [7], o1, [2, 4, 6, 10, 11], [(.exit 0, [true])], F⟩
@[reducible] def i : Sh := .ag (.sc (.int .i64) (.sc (.flt .f64) (.sc (.flt .f64) (.sc (.flt .f64) .nil)))) (.sl false 32 (.sc (.int .u8) (.sc (.int .u8) .nil)) .nil)
@[reducible] def o : Sh := .ag (.sc (.cpx .f64) (.sc (.int .i64) (.sc .bool .nil))) (.sc (.int .i64) .nil)
abbrev FT := ((Int × Nat × Nat × Nat) × (List (Int × Int))) → Option ((((Nat × Nat) × Int × Bool) × Int) × Unit)
theorem tabS : AllS Try.prog (tab F8.f F10.f F11.f) := ⟨F8.spec, F10.spec, F11.spec, trivial⟩
theorem plsP : AllP Try.prog (pls F8.f F10.f F11.f) := trivial
theorem mixed : Try.prog.follows .mixedOrders = true := by kernel_rfl
def r1P (x8 : F8.FT) (x10 : F10.FT) (x11 : F11.FT) : ((Int × Nat × Nat × Nat) × (List (Int × Int)) × Int) → (((Nat × Nat) × Int × Bool) × Int × Int) → Option ((((Nat × Nat) × Int × Bool) × Int × Int) ⊕ (Int × (((Nat × Nat) × Int × Bool)))) := fun ((s0, s1, s2, s3), t10, t11) ((f0, f1, f2), now, t12) =>
    bif decide (t12 < t11) then
      bif decide (0 ≤ t12 ∧ t12 < (↑t10.length : Int) ∧ 0 < t10.length) then
        bif decide (0 + t12.toNat < t10.length) then
          bif t12 == 60 then some (Sum.inr (now, f0, f1, f2))
          else
            bif (t10.getD (0 + t12.toNat) (0, 0)).fst == 0 then
              (x8
                    ((s0, s1, s2, s3), ((f0.fst, f0.snd), f1, f2),
                      IntKind.i64.wrap (now + IntKind.i64.wrap (t10.getD (0 + t12.toNat) (0, 0)).snd))).bind
                fun r0 =>
                some
                  (Sum.inl
                    (((r0.fst.fst.fst.fst, r0.fst.fst.fst.snd), r0.fst.fst.snd.fst, r0.fst.fst.snd.snd),
                      IntKind.i64.wrap (now + IntKind.i64.wrap (t10.getD (0 + t12.toNat) (0, 0)).snd),
                      IntKind.i64.wrap (t12 + 1)))
            else
              bif (t10.getD (0 + t12.toNat) (0, 0)).fst == 1 then
                (x10
                      ((s0, s1, s2, s3), ((f0.fst, f0.snd), f1, f2),
                        IntKind.i64.wrap (now + IntKind.i64.wrap (t10.getD (0 + t12.toNat) (0, 0)).snd))).bind
                  fun r0 =>
                  some
                    (Sum.inl
                      (((r0.fst.fst.fst.fst, r0.fst.fst.fst.snd), r0.fst.fst.snd.fst, r0.fst.fst.snd.snd),
                        IntKind.i64.wrap (now + IntKind.i64.wrap (t10.getD (0 + t12.toNat) (0, 0)).snd),
                        IntKind.i64.wrap (t12 + 1)))
              else
                (x11
                      ((s0, s1, s2, s3), ((f0.fst, f0.snd), f1, f2),
                        IntKind.i64.wrap (now + IntKind.i64.wrap (t10.getD (0 + t12.toNat) (0, 0)).snd))).bind
                  fun r0 =>
                  some
                    (Sum.inl
                      (((r0.fst.fst.fst.fst, r0.fst.fst.fst.snd), r0.fst.fst.snd.fst, r0.fst.fst.snd.snd),
                        IntKind.i64.wrap (now + IntKind.i64.wrap (t10.getD (0 + t12.toNat) (0, 0)).snd),
                        IntKind.i64.wrap (t12 + 1)))
        else none
      else none
    else some (Sum.inr (now, f0, f1, f2))
theorem r1e (x8 : F8.FT) (x10 : F10.FT) (x11 : F11.FT) (kd : (Int × Nat × Nat × Nat) × (List (Int × Int)) × Int) (d : ((Nat × Nat) × Int × Bool) × Int × Int) : roundF (tabC Try.prog (tab x8 x10 x11) (pls x8 x10 x11) 100 12) 100 .none (u1 fun _ _ => none) (codeAt [1, 1, 1, 0, 1, 0, 0] (bodyOf Try.prog 16)) kd d = r1P x8 x10 x11 kd d := by kernel_rfl
noncomputable def r1 : ((Int × Nat × Nat × Nat) × (List (Int × Int)) × Int) → (((Nat × Nat) × Int × Bool) × Int × Int) → Option ((((Nat × Nat) × Int × Bool) × Int × Int) ⊕ (Int × (((Nat × Nat) × Int × Bool)))) := r1P F8.f F10.f F11.f
noncomputable def l1 : G1 := fun kd d => iterO (r1 kd) d
theorem ok1 : UnOk Try.prog (u1 l1) (codeAt [1, 1, 1, 0, 1, 0] (bodyOf Try.prog 16)) :=
  loopT (p := .none) (c := codeAt [1, 1, 1, 0, 1, 0, 0] (bodyOf Try.prog 16)) (fuel := 100) (depth := 12) mixed tabS plsP (by kernel_rfl) trivial (by kernel_rfl) (fun kd d => r1e F8.f F10.f F11.f kd d) rfl
def fP (x8 : F8.FT) (x10 : F10.FT) (x11 : F11.FT) (l1 : G1) : FT := fun ((s0, s1, s2, s3), l) =>
    bif decide (0 + l.length ≤ l.length) && true then
      (l1 ((s0, s1, s2, s3), List.take l.length l, (↑l.length : Int)) (((0, 0), 0, false), 0, 0)).bind fun r0 =>
        some ((((r0.snd.fst.fst, r0.snd.fst.snd), r0.snd.snd.fst, r0.snd.snd.snd), r0.fst), PUnit.unit)
    else none
theorem fe (x8 : F8.FT) (x10 : F10.FT) (x11 : F11.FT) (l1 : G1) (d : (Int × Nat × Nat × Nat) × (List (Int × Int))) : bodyF (tabC Try.prog (tab x8 x10 x11) ((16, (.node .none (.node .none (.node .none (.node (.node .none (.node (.unit (u1 l1)) .none)) .none))))) :: pls x8 x10 x11) 100 12) 100 16 i o d = fP x8 x10 x11 l1 d := by kernel_rfl
noncomputable def f : FT := fP F8.f F10.f F11.f l1
def plan (l1 : G1) : Plan := (.node .none (.node .none (.node .none (.node (.node .none (.node (.unit (u1 l1)) .none)) .none))))
theorem planOk : PlanOk Try.prog (plan l1) (bodyOf Try.prog 16) := (planOk_of (plan l1) _ [([1, 1, 1, 0, 1, 0], u1 l1)] rfl ⟨ok1, trivial⟩)
theorem meets : MeetsF Try.prog 16 ⟨i, o, f⟩ :=
  funcT (fuel := 100) (depth := 12) (pl := (16, plan l1) :: pls F8.f F10.f F11.f) mixed tabS ⟨planOk, plsP⟩ (fun d => fe F8.f F10.f F11.f l1 d)
theorem spec : SpecOk Try.prog (fun _ => none) 16 (specF ⟨i, o, f⟩) := specF_ok (by kernel_rfl) meets
end Go.Proofs.Ytglbcjmebjeokaa.F16

/- What comes of function 18 of this program, (consulate.damp.Figure).Square, as the engine gives it. -/
namespace Go.Proofs.Ytglbcjmebjeokaa.F18
open Go Go.Proofs Go.Proofs.Ytglbcjmebjeokaa Go.RowKit Go.Proofs.Ytglbcjmebjeokaa.Sx
set_option linter.unusedVariables false
set_option maxRecDepth 100000
def tab (x32 : F32.FT) (x31 : F31.FT) : List (FuncId × Sx.Spec) := [(32, specF ⟨F32.i, F32.o, x32⟩), (31, specF ⟨F31.i, F31.o, x31⟩)]
def pls (x32 : F32.FT) (x31 : F31.FT) : List (FuncId × Plan) := []
@[reducible] def i : Sh := .ag (.sc (.cpx .f64) (.sc (.int .i64) (.sc .bool .nil))) .nil
@[reducible] def o : Sh := .sc (.flt .f64) .nil
abbrev FT := (((Nat × Nat) × Int × Bool)) → Option (Nat × Unit)
theorem tabS : AllS Try.prog (tab F32.f F31.f) := ⟨F32.spec, F31.spec, trivial⟩
theorem plsP : AllP Try.prog (pls F32.f F31.f) := trivial
theorem mixed : Try.prog.follows .mixedOrders = true := by kernel_rfl
def fP (x32 : F32.FT) (x31 : F31.FT) : FT := fun (f0, f1, f2) =>
    (x32 ((f0.fst, f0.snd), f1, f2)).bind fun r0 =>
      (x31 (r0.fst.fst.fst, r0.fst.fst.snd)).bind fun r1 => some (r1.fst, PUnit.unit)
theorem fe (x32 : F32.FT) (x31 : F31.FT) (d : ((Nat × Nat) × Int × Bool)) : bodyF (tabC Try.prog (tab x32 x31) ((18, .none) :: pls x32 x31) 100 12) 100 18 i o d = fP x32 x31 d := by kernel_rfl
noncomputable def f : FT := fP F32.f F31.f
def plan : Plan := .none
theorem planOk : PlanOk Try.prog (plan) (bodyOf Try.prog 18) := (planOk_of (plan) _ [] (by kernel_rfl) trivial)
theorem meets : MeetsF Try.prog 18 ⟨i, o, f⟩ :=
  funcT (fuel := 100) (depth := 12) (pl := (18, plan) :: pls F32.f F31.f) mixed tabS ⟨planOk, plsP⟩ (fun d => fe F32.f F31.f d)
theorem spec : SpecOk Try.prog (fun _ => none) 18 (specF ⟨i, o, f⟩) := specF_ok (by kernel_rfl) meets
end Go.Proofs.Ytglbcjmebjeokaa.F18

/- What comes of function 4 of this program, consulate.consulatelaw20.DampSteps, as the engine gives it. -/
namespace Go.Proofs.Ytglbcjmebjeokaa.F4
open Go Go.Proofs Go.Proofs.Ytglbcjmebjeokaa Go.RowKit Go.Proofs.Ytglbcjmebjeokaa.Sx
set_option linter.unusedVariables false
set_option maxRecDepth 100000
def tab (x15 : F15.FT) (x16 : F16.FT) (x11 : F11.FT) (x17 : F17.FT) (x18 : F18.FT) : List (FuncId × Sx.Spec) := [(15, specF ⟨F15.i, F15.o, x15⟩), (16, specF ⟨F16.i, F16.o, x16⟩), (11, specF ⟨F11.i, F11.o, x11⟩), (17, specF ⟨F17.i, F17.o, x17⟩), (18, specF ⟨F18.i, F18.o, x18⟩), (14, pureS saysS)]
def pls (x15 : F15.FT) (x16 : F16.FT) (x11 : F11.FT) (x17 : F17.FT) (x18 : F18.FT) : List (FuncId × Plan) := []
@[reducible] def i : Sh := .ag (.sc (.int .u16) (.sc (.int .u16) (.sc (.int .u16) (.sc (.int .u16) .nil)))) (.sl false 32 (.sc (.int .u8) (.sc (.int .u8) .nil)) (.sc (.int .u16) (.sc (.int .u16) .nil)))
@[reducible] def o : Sh := .sc .bool .nil
abbrev FT := ((Int × Int × Int × Int) × (List (Int × Int)) × Int × Int) → Option (Bool × Unit)
theorem tabS : AllS Try.prog (tab F15.f F16.f F11.f F17.f F18.f) := ⟨F15.spec, F16.spec, F11.spec, F17.spec, F18.spec, says_ok (by kernel_rfl) KA.tells, trivial⟩
theorem plsP : AllP Try.prog (pls F15.f F16.f F11.f F17.f F18.f) := trivial
theorem mixed : Try.prog.follows .mixedOrders = true := by kernel_rfl
def fP (x15 : F15.FT) (x16 : F16.FT) (x11 : F11.FT) (x17 : F17.FT) (x18 : F18.FT) : FT := fun ((n0, n1, n2, n3), l, one, two) =>
    (x15 (n0, n1, n2, n3)).bind fun r0 =>
      bif decide (0 + l.length ≤ l.length) && true then
        (x16 ((r0.fst.fst, r0.fst.snd.fst, r0.fst.snd.snd.fst, r0.fst.snd.snd.snd), List.take l.length l)).bind fun r1 =>
          (x11
                ((r0.fst.fst, r0.fst.snd.fst, r0.fst.snd.snd.fst, r0.fst.snd.snd.snd),
                  ((r1.fst.fst.fst.fst, r1.fst.fst.fst.snd), r1.fst.fst.snd.fst, r1.fst.fst.snd.snd),
                  IntKind.i64.wrap (r1.fst.snd + IntKind.i64.wrap one))).bind
            fun r2 =>
            (x11
                  ((r0.fst.fst, r0.fst.snd.fst, r0.fst.snd.snd.fst, r0.fst.snd.snd.snd),
                    ((r2.fst.fst.fst.fst, r2.fst.fst.fst.snd), r2.fst.fst.snd.fst, r2.fst.fst.snd.snd),
                    IntKind.i64.wrap (IntKind.i64.wrap (r1.fst.snd + IntKind.i64.wrap one) + IntKind.i64.wrap two))).bind
              fun r3 =>
              (x11
                    ((r0.fst.fst, r0.fst.snd.fst, r0.fst.snd.snd.fst, r0.fst.snd.snd.snd),
                      ((r1.fst.fst.fst.fst, r1.fst.fst.fst.snd), r1.fst.fst.snd.fst, r1.fst.fst.snd.snd),
                      IntKind.i64.wrap
                        (IntKind.i64.wrap (r1.fst.snd + IntKind.i64.wrap one) + IntKind.i64.wrap two))).bind
                fun r4 =>
                (x17 (r0.fst.fst, r0.fst.snd.fst, r0.fst.snd.snd.fst, r0.fst.snd.snd.snd)).bind fun r5 =>
                  bif !r5.fst then some (false, PUnit.unit)
                  else
                    bif r2.fst.snd != 0 then some (false, PUnit.unit)
                    else
                      bif r3.fst.snd != 0 then some (false, PUnit.unit)
                      else
                        bif r4.fst.snd != 0 then some (false, PUnit.unit)
                        else
                          bif
                              !(Op.floatEq FloatKind.f64 r3.fst.fst.fst.fst r4.fst.fst.fst.fst &&
                                    Op.floatEq FloatKind.f64 r3.fst.fst.fst.snd r4.fst.fst.fst.snd &&
                                  (r3.fst.fst.snd.fst == r4.fst.fst.snd.fst &&
                                    (r3.fst.fst.snd.snd == r4.fst.fst.snd.snd && true))) then
                            some (false, PUnit.unit)
                          else
                            (x18 ((r2.fst.fst.fst.fst, r2.fst.fst.fst.snd), r2.fst.fst.snd.fst, r2.fst.fst.snd.snd)).bind
                              fun r6 =>
                              (x18
                                    ((r1.fst.fst.fst.fst, r1.fst.fst.fst.snd), r1.fst.fst.snd.fst,
                                      r1.fst.fst.snd.snd)).bind
                                fun r7 =>
                                bif fCmp BinOp.gtr FloatKind.f64 r6.fst r7.fst then some (false, PUnit.unit)
                                else
                                  (x18
                                        ((r3.fst.fst.fst.fst, r3.fst.fst.fst.snd), r3.fst.fst.snd.fst,
                                          r3.fst.fst.snd.snd)).bind
                                    fun r8 =>
                                    (x18
                                          ((r2.fst.fst.fst.fst, r2.fst.fst.fst.snd), r2.fst.fst.snd.fst,
                                            r2.fst.fst.snd.snd)).bind
                                      fun r9 =>
                                      bif fCmp BinOp.gtr FloatKind.f64 r8.fst r9.fst then some (false, PUnit.unit)
                                      else
                                        (x18
                                              ((r1.fst.fst.fst.fst, r1.fst.fst.fst.snd), r1.fst.fst.snd.fst,
                                                r1.fst.fst.snd.snd)).bind
                                          fun r10 =>
                                          bif fOk BinOp.mul FloatKind.f64 r0.fst.snd.snd.snd r0.fst.snd.snd.snd then
                                            bif
                                                fCmp BinOp.gtr FloatKind.f64 r10.fst
                                                  (fVal BinOp.mul FloatKind.f64 r0.fst.snd.snd.snd
                                                    r0.fst.snd.snd.snd) then
                                              some (false, PUnit.unit)
                                            else
                                              (x11
                                                    ((r0.fst.fst, r0.fst.snd.fst, r0.fst.snd.snd.fst, r0.fst.snd.snd.snd),
                                                      ((r1.fst.fst.fst.fst, r1.fst.fst.fst.snd), r1.fst.fst.snd.fst,
                                                        r1.fst.fst.snd.snd),
                                                      IntKind.i64.wrap
                                                        (r1.fst.snd + IntKind.i64.wrap (42 * r0.fst.fst)))).bind
                                                fun r11 =>
                                                bif r11.fst.snd == 0 then
                                                  bif
                                                      fCmp BinOp.eql FloatKind.f64 r11.fst.fst.fst.fst 0 &&
                                                        fCmp BinOp.eql FloatKind.f64 r11.fst.fst.fst.snd 0 then
                                                    bif !r11.fst.fst.snd.snd then
                                                      bif fCmp BinOp.geq FloatKind.f64 r1.fst.fst.fst.fst 0 then
                                                        bif fCmp BinOp.geq FloatKind.f64 r1.fst.fst.fst.snd 0 then
                                                          bif decide (r1.fst.fst.snd.fst ≤ r1.fst.snd) then
                                                            bif
                                                                decide
                                                                  (IntKind.i64.wrap (r1.fst.snd - r1.fst.fst.snd.fst) <
                                                                    r0.fst.fst) then
                                                              some (true, PUnit.unit)
                                                            else some (false, PUnit.unit)
                                                          else some (false, PUnit.unit)
                                                        else some (false, PUnit.unit)
                                                      else some (false, PUnit.unit)
                                                    else some (false, PUnit.unit)
                                                  else some (false, PUnit.unit)
                                                else some (false, PUnit.unit)
                                          else none
      else none
theorem fe (x15 : F15.FT) (x16 : F16.FT) (x11 : F11.FT) (x17 : F17.FT) (x18 : F18.FT) (d : (Int × Int × Int × Int) × (List (Int × Int)) × Int × Int) : bodyF (tabC Try.prog (tab x15 x16 x11 x17 x18) ((4, .none) :: pls x15 x16 x11 x17 x18) 100 12) 100 4 i o d = fP x15 x16 x11 x17 x18 d := by kernel_rfl
noncomputable def f : FT := fP F15.f F16.f F11.f F17.f F18.f
def plan : Plan := .none
theorem planOk : PlanOk Try.prog (plan) (bodyOf Try.prog 4) := (planOk_of (plan) _ [] (by kernel_rfl) trivial)
theorem meets : MeetsF Try.prog 4 ⟨i, o, f⟩ :=
  funcT (fuel := 100) (depth := 12) (pl := (4, plan) :: pls F15.f F16.f F11.f F17.f F18.f) mixed tabS ⟨planOk, plsP⟩ (fun d => fe F15.f F16.f F11.f F17.f F18.f d)
theorem spec : SpecOk Try.prog (fun _ => none) 4 (specF ⟨i, o, f⟩) := specF_ok (by kernel_rfl) meets
end Go.Proofs.Ytglbcjmebjeokaa.F4

/- What comes of function 5 of this program, consulate.consulatelaw20.DampParts, as the engine gives it. -/
namespace Go.Proofs.Ytglbcjmebjeokaa.F5
open Go Go.Proofs Go.Proofs.Ytglbcjmebjeokaa Go.RowKit Go.Proofs.Ytglbcjmebjeokaa.Sx
set_option linter.unusedVariables false
set_option maxRecDepth 100000
def tab (x8 : F8.FT) (x10 : F10.FT) (x15 : F15.FT) (x16 : F16.FT) (x18 : F18.FT) : List (FuncId × Sx.Spec) := [(8, specF ⟨F8.i, F8.o, x8⟩), (10, specF ⟨F10.i, F10.o, x10⟩), (15, specF ⟨F15.i, F15.o, x15⟩), (16, specF ⟨F16.i, F16.o, x16⟩), (18, specF ⟨F18.i, F18.o, x18⟩), (14, pureS saysS)]
def pls (x8 : F8.FT) (x10 : F10.FT) (x15 : F15.FT) (x16 : F16.FT) (x18 : F18.FT) : List (FuncId × Plan) := []
@[reducible] def k1 : Sh := .pt true 24 (.sc (.int .i64) (.sc (.flt .f64) (.sc (.flt .f64) (.sc (.flt .f64) .nil)))) (.sc (.int .u8) .nil)
@[reducible] def i1 : Sh := .pt true 28 (.sc (.cpx .f64) (.sc (.int .i64) (.sc .bool .nil))) (.pt true 28 (.sc (.cpx .f64) (.sc (.int .i64) (.sc .bool .nil))) (.sc (.int .u8) .nil))
@[reducible] def o1 : Sh := .nil
abbrev G1 := ((Int × Nat × Nat × Nat) × Int) → (((Nat × Nat) × Int × Bool) × ((Nat × Nat) × Int × Bool) × Int) → Option (Unit × (((Nat × Nat) × Int × Bool) × ((Nat × Nat) × Int × Bool)))
def u1 (F : G1) : Un := ⟨168, [7, 22], k1, [8, 9, 23], i1, [], o1, [2, 3, 4, 7, 8, 9, 10, 22], [(.exit 0, [])], F⟩
@[reducible] def k2 : Sh := .pt true 24 (.sc (.int .i64) (.sc (.flt .f64) (.sc (.flt .f64) (.sc (.flt .f64) .nil)))) (.sc (.int .u8) .nil)
@[reducible] def i2 : Sh := .pt true 28 (.sc (.cpx .f64) (.sc (.int .i64) (.sc .bool .nil))) (.pt true 28 (.sc (.cpx .f64) (.sc (.int .i64) (.sc .bool .nil))) (.sc (.int .u8) .nil))
@[reducible] def o2 : Sh := .nil
abbrev G2 := ((Int × Nat × Nat × Nat) × Int) → (((Nat × Nat) × Int × Bool) × ((Nat × Nat) × Int × Bool) × Int) → Option (Unit × (((Nat × Nat) × Int × Bool) × ((Nat × Nat) × Int × Bool)))
def u2 (F : G2) : Un := ⟨168, [7, 40], k2, [8, 10, 41], i2, [], o2, [2, 3, 4, 7, 8, 9, 10, 40], [(.exit 2, [])], F⟩
@[reducible] def i : Sh := .ag (.sc (.int .u8) (.sc (.int .u8) .nil)) (.ag (.sc (.int .u16) (.sc (.int .u16) (.sc (.int .u16) (.sc (.int .u16) .nil)))) (.sl false 32 (.sc (.int .u8) (.sc (.int .u8) .nil)) .nil))
@[reducible] def o : Sh := .sc .bool .nil
abbrev FT := ((Int × Int) × (Int × Int × Int × Int) × (List (Int × Int))) → Option (Bool × Unit)
theorem tabS : AllS Try.prog (tab F8.f F10.f F15.f F16.f F18.f) := ⟨F8.spec, F10.spec, F15.spec, F16.spec, F18.spec, says_ok (by kernel_rfl) KA.tells, trivial⟩
theorem plsP : AllP Try.prog (pls F8.f F10.f F15.f F16.f F18.f) := trivial
theorem mixed : Try.prog.follows .mixedOrders = true := by kernel_rfl
def r1P (x8 : F8.FT) (x10 : F10.FT) (x15 : F15.FT) (x16 : F16.FT) (x18 : F18.FT) : ((Int × Nat × Nat × Nat) × Int) → (((Nat × Nat) × Int × Bool) × ((Nat × Nat) × Int × Bool) × Int) → Option ((((Nat × Nat) × Int × Bool) × ((Nat × Nat) × Int × Bool) × Int) ⊕ (Unit × (((Nat × Nat) × Int × Bool) × ((Nat × Nat) × Int × Bool)))) := fun ((far0, far1, far2, far3), t22) ((both0, both1, both2), (real10, real11, real12), t23) =>
    bif decide (t23 < t22) then
      (x8 ((far0, far1, far2, far3), ((both0.fst, both0.snd), both1, both2), 3)).bind fun r0 =>
        (x8 ((far0, far1, far2, far3), ((real10.fst, real10.snd), real11, real12), 3)).bind fun r1 =>
          some
            (Sum.inl
              (((r0.fst.fst.fst.fst, r0.fst.fst.fst.snd), r0.fst.fst.snd.fst, r0.fst.fst.snd.snd),
                ((r1.fst.fst.fst.fst, r1.fst.fst.fst.snd), r1.fst.fst.snd.fst, r1.fst.fst.snd.snd),
                IntKind.u8.wrap (t23 + 1)))
    else some (Sum.inr (PUnit.unit, (both0, both1, both2), real10, real11, real12))
theorem r1e (x8 : F8.FT) (x10 : F10.FT) (x15 : F15.FT) (x16 : F16.FT) (x18 : F18.FT) (kd : (Int × Nat × Nat × Nat) × Int) (d : ((Nat × Nat) × Int × Bool) × ((Nat × Nat) × Int × Bool) × Int) : roundF (tabC Try.prog (tab x8 x10 x15 x16 x18) (pls x8 x10 x15 x16 x18) 100 12) 100 .none (u1 fun _ _ => none) (codeAt [1, 1, 1, 0, 1, 0, 0] (bodyOf Try.prog 5)) kd d = r1P x8 x10 x15 x16 x18 kd d := by kernel_rfl
noncomputable def r1 : ((Int × Nat × Nat × Nat) × Int) → (((Nat × Nat) × Int × Bool) × ((Nat × Nat) × Int × Bool) × Int) → Option ((((Nat × Nat) × Int × Bool) × ((Nat × Nat) × Int × Bool) × Int) ⊕ (Unit × (((Nat × Nat) × Int × Bool) × ((Nat × Nat) × Int × Bool)))) := r1P F8.f F10.f F15.f F16.f F18.f
noncomputable def l1 : G1 := fun kd d => iterO (r1 kd) d
theorem ok1 : UnOk Try.prog (u1 l1) (codeAt [1, 1, 1, 0, 1, 0] (bodyOf Try.prog 5)) :=
  loopT (p := .none) (c := codeAt [1, 1, 1, 0, 1, 0, 0] (bodyOf Try.prog 5)) (fuel := 100) (depth := 12) mixed tabS plsP (by kernel_rfl) trivial (by kernel_rfl) (fun kd d => r1e F8.f F10.f F15.f F16.f F18.f kd d) rfl
def r2P (x8 : F8.FT) (x10 : F10.FT) (x15 : F15.FT) (x16 : F16.FT) (x18 : F18.FT) : ((Int × Nat × Nat × Nat) × Int) → (((Nat × Nat) × Int × Bool) × ((Nat × Nat) × Int × Bool) × Int) → Option ((((Nat × Nat) × Int × Bool) × ((Nat × Nat) × Int × Bool) × Int) ⊕ (Unit × (((Nat × Nat) × Int × Bool) × ((Nat × Nat) × Int × Bool)))) := fun ((far0, far1, far2, far3), t40) ((both0, both1, both2), (imag10, imag11, imag12), t41) =>
    bif decide (t41 < t40) then
      (x10 ((far0, far1, far2, far3), ((both0.fst, both0.snd), both1, both2), 3)).bind fun r0 =>
        (x10 ((far0, far1, far2, far3), ((imag10.fst, imag10.snd), imag11, imag12), 3)).bind fun r1 =>
          some
            (Sum.inl
              (((r0.fst.fst.fst.fst, r0.fst.fst.fst.snd), r0.fst.fst.snd.fst, r0.fst.fst.snd.snd),
                ((r1.fst.fst.fst.fst, r1.fst.fst.fst.snd), r1.fst.fst.snd.fst, r1.fst.fst.snd.snd),
                IntKind.u8.wrap (t41 + 1)))
    else some (Sum.inr (PUnit.unit, (both0, both1, both2), imag10, imag11, imag12))
theorem r2e (x8 : F8.FT) (x10 : F10.FT) (x15 : F15.FT) (x16 : F16.FT) (x18 : F18.FT) (kd : (Int × Nat × Nat × Nat) × Int) (d : ((Nat × Nat) × Int × Bool) × ((Nat × Nat) × Int × Bool) × Int) : roundF (tabC Try.prog (tab x8 x10 x15 x16 x18) (pls x8 x10 x15 x16 x18) 100 12) 100 .none (u2 fun _ _ => none) (codeAt [1, 1, 1, 1, 0, 1, 0, 0] (bodyOf Try.prog 5)) kd d = r2P x8 x10 x15 x16 x18 kd d := by kernel_rfl
noncomputable def r2 : ((Int × Nat × Nat × Nat) × Int) → (((Nat × Nat) × Int × Bool) × ((Nat × Nat) × Int × Bool) × Int) → Option ((((Nat × Nat) × Int × Bool) × ((Nat × Nat) × Int × Bool) × Int) ⊕ (Unit × (((Nat × Nat) × Int × Bool) × ((Nat × Nat) × Int × Bool)))) := r2P F8.f F10.f F15.f F16.f F18.f
noncomputable def l2 : G2 := fun kd d => iterO (r2 kd) d
theorem ok2 : UnOk Try.prog (u2 l2) (codeAt [1, 1, 1, 1, 0, 1, 0] (bodyOf Try.prog 5)) :=
  loopT (p := .none) (c := codeAt [1, 1, 1, 1, 0, 1, 0, 0] (bodyOf Try.prog 5)) (fuel := 100) (depth := 12) mixed tabS plsP (by kernel_rfl) trivial (by kernel_rfl) (fun kd d => r2e F8.f F10.f F15.f F16.f F18.f kd d) rfl
def fP (x8 : F8.FT) (x10 : F10.FT) (x15 : F15.FT) (x16 : F16.FT) (x18 : F18.FT) (l1 : G1) (l2 : G2) : FT := fun ((many0, many1), (n0, n1, n2, n3), l) =>
    (l1 ((5, 4657715973212602368, 4649368480934526976, 4697254411347427328), many0.tmod 8)
          (((0, 0), 0, false), ((0, 0), 0, false), 0)).bind
      fun r0 =>
      (l2 ((5, 4657715973212602368, 4649368480934526976, 4697254411347427328), many1.tmod 8)
            (r0.snd.fst, ((0, 0), 0, false), 0)).bind
        fun r1 =>
        bif fOk BinOp.mul FloatKind.f64 (FloatKind.f64.nearest (many0.tmod 8)) 4652007308841189376 then
          bif fOk BinOp.mul FloatKind.f64 (FloatKind.f64.nearest (many1.tmod 8)) 4647503709213818880 then
            bif
                !(fCmp BinOp.eql FloatKind.f64 r1.snd.fst.fst.fst
                      (fVal BinOp.mul FloatKind.f64 (FloatKind.f64.nearest (many0.tmod 8)) 4652007308841189376) &&
                    fCmp BinOp.eql FloatKind.f64 r1.snd.fst.fst.snd
                      (fVal BinOp.mul FloatKind.f64 (FloatKind.f64.nearest (many1.tmod 8)) 4647503709213818880)) then
              some (false, PUnit.unit)
            else
              bif
                  fOk BinOp.add FloatKind.f64 r0.snd.snd.fst.fst r1.snd.snd.fst.fst &&
                    fOk BinOp.add FloatKind.f64 r0.snd.snd.fst.snd r1.snd.snd.fst.snd then
                bif
                    !(fCmp BinOp.eql FloatKind.f64 r1.snd.fst.fst.fst
                          (fVal BinOp.add FloatKind.f64 r0.snd.snd.fst.fst r1.snd.snd.fst.fst) &&
                        fCmp BinOp.eql FloatKind.f64 r1.snd.fst.fst.snd
                          (fVal BinOp.add FloatKind.f64 r0.snd.snd.fst.snd r1.snd.snd.fst.snd)) then
                  some (false, PUnit.unit)
                else
                  bif r0.snd.snd.snd.snd then
                    bif !r1.snd.fst.snd.snd then some (false, PUnit.unit)
                    else
                      (x15 (n0, n1, n2, n3)).bind fun r2 =>
                        bif decide (0 + l.length ≤ l.length) && true then
                          (x16
                                ((r2.fst.fst, r2.fst.snd.fst, r2.fst.snd.snd.fst, r2.fst.snd.snd.snd),
                                  List.take l.length l)).bind
                            fun r3 =>
                            (x8
                                  ((r2.fst.fst, r2.fst.snd.fst, r2.fst.snd.snd.fst, r2.fst.snd.snd.snd),
                                    ((r3.fst.fst.fst.fst, r3.fst.fst.fst.snd), r3.fst.fst.snd.fst, r3.fst.fst.snd.snd),
                                    r3.fst.snd)).bind
                              fun r4 =>
                              (x10
                                    ((r2.fst.fst, r2.fst.snd.fst, r2.fst.snd.snd.fst, r2.fst.snd.snd.snd),
                                      ((r3.fst.fst.fst.fst, r3.fst.fst.fst.snd), r3.fst.fst.snd.fst, r3.fst.fst.snd.snd),
                                      r3.fst.snd)).bind
                                fun r5 =>
                                bif r4.fst.snd != 0 then some (false, PUnit.unit)
                                else
                                  bif r5.fst.snd != 0 then some (false, PUnit.unit)
                                  else
                                    (x18
                                          ((r3.fst.fst.fst.fst, r3.fst.fst.fst.snd), r3.fst.fst.snd.fst,
                                            r3.fst.fst.snd.snd)).bind
                                      fun r6 =>
                                      (x18
                                            ((r4.fst.fst.fst.fst, r4.fst.fst.fst.snd), r4.fst.fst.snd.fst,
                                              r4.fst.fst.snd.snd)).bind
                                        fun r7 =>
                                        bif fCmp BinOp.geq FloatKind.f64 r7.fst r6.fst then
                                          (x18
                                                ((r5.fst.fst.fst.fst, r5.fst.fst.fst.snd), r5.fst.fst.snd.fst,
                                                  r5.fst.fst.snd.snd)).bind
                                            fun r8 =>
                                            bif fCmp BinOp.geq FloatKind.f64 r8.fst r6.fst then some (true, PUnit.unit)
                                            else
                                              bif fOk BinOp.add FloatKind.f64 r6.fst 4687829947429945344 then
                                                bif
                                                    fOk BinOp.mul FloatKind.f64 4652007308841189376
                                                      r3.fst.fst.fst.snd then
                                                  bif
                                                      fOk BinOp.add FloatKind.f64
                                                        (fVal BinOp.add FloatKind.f64 r6.fst 4687829947429945344)
                                                        (fVal BinOp.mul FloatKind.f64 4652007308841189376
                                                          r3.fst.fst.fst.snd) then
                                                    bif
                                                        fOk BinOp.mul FloatKind.f64 4616189618054758400
                                                          (fVal BinOp.add FloatKind.f64
                                                            (fVal BinOp.add FloatKind.f64 r6.fst 4687829947429945344)
                                                            (fVal BinOp.mul FloatKind.f64 4652007308841189376
                                                              r3.fst.fst.fst.snd)) then
                                                      bif
                                                          fOk BinOp.mul FloatKind.f64 r2.fst.snd.snd.snd
                                                            r2.fst.snd.snd.snd then
                                                        bif
                                                            fCmp BinOp.gtr FloatKind.f64
                                                              (fVal BinOp.mul FloatKind.f64 4616189618054758400
                                                                (fVal BinOp.add FloatKind.f64
                                                                  (fVal BinOp.add FloatKind.f64 r6.fst
                                                                    4687829947429945344)
                                                                  (fVal BinOp.mul FloatKind.f64 4652007308841189376
                                                                    r3.fst.fst.fst.snd)))
                                                              (fVal BinOp.mul FloatKind.f64 r2.fst.snd.snd.snd
                                                                r2.fst.snd.snd.snd) then
                                                          some (true, PUnit.unit)
                                                        else some (false, PUnit.unit)
                                                      else none
                                                    else none
                                                  else none
                                                else none
                                              else none
                                        else
                                          bif fOk BinOp.add FloatKind.f64 r6.fst 4696837146684686336 then
                                            bif fOk BinOp.mul FloatKind.f64 4656510908468559872 r3.fst.fst.fst.fst then
                                              bif
                                                  fOk BinOp.add FloatKind.f64
                                                    (fVal BinOp.add FloatKind.f64 r6.fst 4696837146684686336)
                                                    (fVal BinOp.mul FloatKind.f64 4656510908468559872
                                                      r3.fst.fst.fst.fst) then
                                                bif
                                                    fOk BinOp.mul FloatKind.f64 4616189618054758400
                                                      (fVal BinOp.add FloatKind.f64
                                                        (fVal BinOp.add FloatKind.f64 r6.fst 4696837146684686336)
                                                        (fVal BinOp.mul FloatKind.f64 4656510908468559872
                                                          r3.fst.fst.fst.fst)) then
                                                  bif
                                                      fOk BinOp.mul FloatKind.f64 r2.fst.snd.snd.snd
                                                        r2.fst.snd.snd.snd then
                                                    bif
                                                        fCmp BinOp.gtr FloatKind.f64
                                                          (fVal BinOp.mul FloatKind.f64 4616189618054758400
                                                            (fVal BinOp.add FloatKind.f64
                                                              (fVal BinOp.add FloatKind.f64 r6.fst 4696837146684686336)
                                                              (fVal BinOp.mul FloatKind.f64 4656510908468559872
                                                                r3.fst.fst.fst.fst)))
                                                          (fVal BinOp.mul FloatKind.f64 r2.fst.snd.snd.snd
                                                            r2.fst.snd.snd.snd) then
                                                      (x18
                                                            ((r5.fst.fst.fst.fst, r5.fst.fst.fst.snd), r5.fst.fst.snd.fst,
                                                              r5.fst.fst.snd.snd)).bind
                                                        fun r8 =>
                                                        bif fCmp BinOp.geq FloatKind.f64 r8.fst r6.fst then
                                                          some (true, PUnit.unit)
                                                        else
                                                          bif fOk BinOp.add FloatKind.f64 r6.fst 4687829947429945344 then
                                                            bif
                                                                fOk BinOp.mul FloatKind.f64 4652007308841189376
                                                                  r3.fst.fst.fst.snd then
                                                              bif
                                                                  fOk BinOp.add FloatKind.f64
                                                                    (fVal BinOp.add FloatKind.f64 r6.fst
                                                                      4687829947429945344)
                                                                    (fVal BinOp.mul FloatKind.f64 4652007308841189376
                                                                      r3.fst.fst.fst.snd) then
                                                                bif
                                                                    fOk BinOp.mul FloatKind.f64 4616189618054758400
                                                                      (fVal BinOp.add FloatKind.f64
                                                                        (fVal BinOp.add FloatKind.f64 r6.fst
                                                                          4687829947429945344)
                                                                        (fVal BinOp.mul FloatKind.f64 4652007308841189376
                                                                          r3.fst.fst.fst.snd)) then
                                                                  bif
                                                                      fOk BinOp.mul FloatKind.f64 r2.fst.snd.snd.snd
                                                                        r2.fst.snd.snd.snd then
                                                                    bif
                                                                        fCmp BinOp.gtr FloatKind.f64
                                                                          (fVal BinOp.mul FloatKind.f64
                                                                            4616189618054758400
                                                                            (fVal BinOp.add FloatKind.f64
                                                                              (fVal BinOp.add FloatKind.f64 r6.fst
                                                                                4687829947429945344)
                                                                              (fVal BinOp.mul FloatKind.f64
                                                                                4652007308841189376 r3.fst.fst.fst.snd)))
                                                                          (fVal BinOp.mul FloatKind.f64 r2.fst.snd.snd.snd
                                                                            r2.fst.snd.snd.snd) then
                                                                      some (true, PUnit.unit)
                                                                    else some (false, PUnit.unit)
                                                                  else none
                                                                else none
                                                              else none
                                                            else none
                                                          else none
                                                    else some (false, PUnit.unit)
                                                  else none
                                                else none
                                              else none
                                            else none
                                          else none
                        else none
                  else
                    bif r1.snd.snd.snd.snd then
                      bif !r1.snd.fst.snd.snd then some (false, PUnit.unit)
                      else
                        (x15 (n0, n1, n2, n3)).bind fun r2 =>
                          bif decide (0 + l.length ≤ l.length) && true then
                            (x16
                                  ((r2.fst.fst, r2.fst.snd.fst, r2.fst.snd.snd.fst, r2.fst.snd.snd.snd),
                                    List.take l.length l)).bind
                              fun r3 =>
                              (x8
                                    ((r2.fst.fst, r2.fst.snd.fst, r2.fst.snd.snd.fst, r2.fst.snd.snd.snd),
                                      ((r3.fst.fst.fst.fst, r3.fst.fst.fst.snd), r3.fst.fst.snd.fst, r3.fst.fst.snd.snd),
                                      r3.fst.snd)).bind
                                fun r4 =>
                                (x10
                                      ((r2.fst.fst, r2.fst.snd.fst, r2.fst.snd.snd.fst, r2.fst.snd.snd.snd),
                                        ((r3.fst.fst.fst.fst, r3.fst.fst.fst.snd), r3.fst.fst.snd.fst,
                                          r3.fst.fst.snd.snd),
                                        r3.fst.snd)).bind
                                  fun r5 =>
                                  bif r4.fst.snd != 0 then some (false, PUnit.unit)
                                  else
                                    bif r5.fst.snd != 0 then some (false, PUnit.unit)
                                    else
                                      (x18
                                            ((r3.fst.fst.fst.fst, r3.fst.fst.fst.snd), r3.fst.fst.snd.fst,
                                              r3.fst.fst.snd.snd)).bind
                                        fun r6 =>
                                        (x18
                                              ((r4.fst.fst.fst.fst, r4.fst.fst.fst.snd), r4.fst.fst.snd.fst,
                                                r4.fst.fst.snd.snd)).bind
                                          fun r7 =>
                                          bif fCmp BinOp.geq FloatKind.f64 r7.fst r6.fst then
                                            (x18
                                                  ((r5.fst.fst.fst.fst, r5.fst.fst.fst.snd), r5.fst.fst.snd.fst,
                                                    r5.fst.fst.snd.snd)).bind
                                              fun r8 =>
                                              bif fCmp BinOp.geq FloatKind.f64 r8.fst r6.fst then some (true, PUnit.unit)
                                              else
                                                bif fOk BinOp.add FloatKind.f64 r6.fst 4687829947429945344 then
                                                  bif
                                                      fOk BinOp.mul FloatKind.f64 4652007308841189376
                                                        r3.fst.fst.fst.snd then
                                                    bif
                                                        fOk BinOp.add FloatKind.f64
                                                          (fVal BinOp.add FloatKind.f64 r6.fst 4687829947429945344)
                                                          (fVal BinOp.mul FloatKind.f64 4652007308841189376
                                                            r3.fst.fst.fst.snd) then
                                                      bif
                                                          fOk BinOp.mul FloatKind.f64 4616189618054758400
                                                            (fVal BinOp.add FloatKind.f64
                                                              (fVal BinOp.add FloatKind.f64 r6.fst 4687829947429945344)
                                                              (fVal BinOp.mul FloatKind.f64 4652007308841189376
                                                                r3.fst.fst.fst.snd)) then
                                                        bif
                                                            fOk BinOp.mul FloatKind.f64 r2.fst.snd.snd.snd
                                                              r2.fst.snd.snd.snd then
                                                          bif
                                                              fCmp BinOp.gtr FloatKind.f64
                                                                (fVal BinOp.mul FloatKind.f64 4616189618054758400
                                                                  (fVal BinOp.add FloatKind.f64
                                                                    (fVal BinOp.add FloatKind.f64 r6.fst
                                                                      4687829947429945344)
                                                                    (fVal BinOp.mul FloatKind.f64 4652007308841189376
                                                                      r3.fst.fst.fst.snd)))
                                                                (fVal BinOp.mul FloatKind.f64 r2.fst.snd.snd.snd
                                                                  r2.fst.snd.snd.snd) then
                                                            some (true, PUnit.unit)
                                                          else some (false, PUnit.unit)
                                                        else none
                                                      else none
                                                    else none
                                                  else none
                                                else none
                                          else
                                            bif fOk BinOp.add FloatKind.f64 r6.fst 4696837146684686336 then
                                              bif fOk BinOp.mul FloatKind.f64 4656510908468559872 r3.fst.fst.fst.fst then
                                                bif
                                                    fOk BinOp.add FloatKind.f64
                                                      (fVal BinOp.add FloatKind.f64 r6.fst 4696837146684686336)
                                                      (fVal BinOp.mul FloatKind.f64 4656510908468559872
                                                        r3.fst.fst.fst.fst) then
                                                  bif
                                                      fOk BinOp.mul FloatKind.f64 4616189618054758400
                                                        (fVal BinOp.add FloatKind.f64
                                                          (fVal BinOp.add FloatKind.f64 r6.fst 4696837146684686336)
                                                          (fVal BinOp.mul FloatKind.f64 4656510908468559872
                                                            r3.fst.fst.fst.fst)) then
                                                    bif
                                                        fOk BinOp.mul FloatKind.f64 r2.fst.snd.snd.snd
                                                          r2.fst.snd.snd.snd then
                                                      bif
                                                          fCmp BinOp.gtr FloatKind.f64
                                                            (fVal BinOp.mul FloatKind.f64 4616189618054758400
                                                              (fVal BinOp.add FloatKind.f64
                                                                (fVal BinOp.add FloatKind.f64 r6.fst 4696837146684686336)
                                                                (fVal BinOp.mul FloatKind.f64 4656510908468559872
                                                                  r3.fst.fst.fst.fst)))
                                                            (fVal BinOp.mul FloatKind.f64 r2.fst.snd.snd.snd
                                                              r2.fst.snd.snd.snd) then
                                                        (x18
                                                              ((r5.fst.fst.fst.fst, r5.fst.fst.fst.snd),
                                                                r5.fst.fst.snd.fst, r5.fst.fst.snd.snd)).bind
                                                          fun r8 =>
                                                          bif fCmp BinOp.geq FloatKind.f64 r8.fst r6.fst then
                                                            some (true, PUnit.unit)
                                                          else
                                                            bif
                                                                fOk BinOp.add FloatKind.f64 r6.fst
                                                                  4687829947429945344 then
                                                              bif
                                                                  fOk BinOp.mul FloatKind.f64 4652007308841189376
                                                                    r3.fst.fst.fst.snd then
                                                                bif
                                                                    fOk BinOp.add FloatKind.f64
                                                                      (fVal BinOp.add FloatKind.f64 r6.fst
                                                                        4687829947429945344)
                                                                      (fVal BinOp.mul FloatKind.f64 4652007308841189376
                                                                        r3.fst.fst.fst.snd) then
                                                                  bif
                                                                      fOk BinOp.mul FloatKind.f64 4616189618054758400
                                                                        (fVal BinOp.add FloatKind.f64
                                                                          (fVal BinOp.add FloatKind.f64 r6.fst
                                                                            4687829947429945344)
                                                                          (fVal BinOp.mul FloatKind.f64
                                                                            4652007308841189376 r3.fst.fst.fst.snd)) then
                                                                    bif
                                                                        fOk BinOp.mul FloatKind.f64 r2.fst.snd.snd.snd
                                                                          r2.fst.snd.snd.snd then
                                                                      bif
                                                                          fCmp BinOp.gtr FloatKind.f64
                                                                            (fVal BinOp.mul FloatKind.f64
                                                                              4616189618054758400
                                                                              (fVal BinOp.add FloatKind.f64
                                                                                (fVal BinOp.add FloatKind.f64 r6.fst
                                                                                  4687829947429945344)
                                                                                (fVal BinOp.mul FloatKind.f64
                                                                                  4652007308841189376
                                                                                  r3.fst.fst.fst.snd)))
                                                                            (fVal BinOp.mul FloatKind.f64
                                                                              r2.fst.snd.snd.snd r2.fst.snd.snd.snd) then
                                                                        some (true, PUnit.unit)
                                                                      else some (false, PUnit.unit)
                                                                    else none
                                                                  else none
                                                                else none
                                                              else none
                                                            else none
                                                      else some (false, PUnit.unit)
                                                    else none
                                                  else none
                                                else none
                                              else none
                                            else none
                          else none
                    else
                      (x15 (n0, n1, n2, n3)).bind fun r2 =>
                        bif decide (0 + l.length ≤ l.length) && true then
                          (x16
                                ((r2.fst.fst, r2.fst.snd.fst, r2.fst.snd.snd.fst, r2.fst.snd.snd.snd),
                                  List.take l.length l)).bind
                            fun r3 =>
                            (x8
                                  ((r2.fst.fst, r2.fst.snd.fst, r2.fst.snd.snd.fst, r2.fst.snd.snd.snd),
                                    ((r3.fst.fst.fst.fst, r3.fst.fst.fst.snd), r3.fst.fst.snd.fst, r3.fst.fst.snd.snd),
                                    r3.fst.snd)).bind
                              fun r4 =>
                              (x10
                                    ((r2.fst.fst, r2.fst.snd.fst, r2.fst.snd.snd.fst, r2.fst.snd.snd.snd),
                                      ((r3.fst.fst.fst.fst, r3.fst.fst.fst.snd), r3.fst.fst.snd.fst, r3.fst.fst.snd.snd),
                                      r3.fst.snd)).bind
                                fun r5 =>
                                bif r4.fst.snd != 0 then some (false, PUnit.unit)
                                else
                                  bif r5.fst.snd != 0 then some (false, PUnit.unit)
                                  else
                                    (x18
                                          ((r3.fst.fst.fst.fst, r3.fst.fst.fst.snd), r3.fst.fst.snd.fst,
                                            r3.fst.fst.snd.snd)).bind
                                      fun r6 =>
                                      (x18
                                            ((r4.fst.fst.fst.fst, r4.fst.fst.fst.snd), r4.fst.fst.snd.fst,
                                              r4.fst.fst.snd.snd)).bind
                                        fun r7 =>
                                        bif fCmp BinOp.geq FloatKind.f64 r7.fst r6.fst then
                                          (x18
                                                ((r5.fst.fst.fst.fst, r5.fst.fst.fst.snd), r5.fst.fst.snd.fst,
                                                  r5.fst.fst.snd.snd)).bind
                                            fun r8 =>
                                            bif fCmp BinOp.geq FloatKind.f64 r8.fst r6.fst then some (true, PUnit.unit)
                                            else
                                              bif fOk BinOp.add FloatKind.f64 r6.fst 4687829947429945344 then
                                                bif
                                                    fOk BinOp.mul FloatKind.f64 4652007308841189376
                                                      r3.fst.fst.fst.snd then
                                                  bif
                                                      fOk BinOp.add FloatKind.f64
                                                        (fVal BinOp.add FloatKind.f64 r6.fst 4687829947429945344)
                                                        (fVal BinOp.mul FloatKind.f64 4652007308841189376
                                                          r3.fst.fst.fst.snd) then
                                                    bif
                                                        fOk BinOp.mul FloatKind.f64 4616189618054758400
                                                          (fVal BinOp.add FloatKind.f64
                                                            (fVal BinOp.add FloatKind.f64 r6.fst 4687829947429945344)
                                                            (fVal BinOp.mul FloatKind.f64 4652007308841189376
                                                              r3.fst.fst.fst.snd)) then
                                                      bif
                                                          fOk BinOp.mul FloatKind.f64 r2.fst.snd.snd.snd
                                                            r2.fst.snd.snd.snd then
                                                        bif
                                                            fCmp BinOp.gtr FloatKind.f64
                                                              (fVal BinOp.mul FloatKind.f64 4616189618054758400
                                                                (fVal BinOp.add FloatKind.f64
                                                                  (fVal BinOp.add FloatKind.f64 r6.fst
                                                                    4687829947429945344)
                                                                  (fVal BinOp.mul FloatKind.f64 4652007308841189376
                                                                    r3.fst.fst.fst.snd)))
                                                              (fVal BinOp.mul FloatKind.f64 r2.fst.snd.snd.snd
                                                                r2.fst.snd.snd.snd) then
                                                          some (true, PUnit.unit)
                                                        else some (false, PUnit.unit)
                                                      else none
                                                    else none
                                                  else none
                                                else none
                                              else none
                                        else
                                          bif fOk BinOp.add FloatKind.f64 r6.fst 4696837146684686336 then
                                            bif fOk BinOp.mul FloatKind.f64 4656510908468559872 r3.fst.fst.fst.fst then
                                              bif
                                                  fOk BinOp.add FloatKind.f64
                                                    (fVal BinOp.add FloatKind.f64 r6.fst 4696837146684686336)
                                                    (fVal BinOp.mul FloatKind.f64 4656510908468559872
                                                      r3.fst.fst.fst.fst) then
                                                bif
                                                    fOk BinOp.mul FloatKind.f64 4616189618054758400
                                                      (fVal BinOp.add FloatKind.f64
                                                        (fVal BinOp.add FloatKind.f64 r6.fst 4696837146684686336)
                                                        (fVal BinOp.mul FloatKind.f64 4656510908468559872
                                                          r3.fst.fst.fst.fst)) then
                                                  bif
                                                      fOk BinOp.mul FloatKind.f64 r2.fst.snd.snd.snd
                                                        r2.fst.snd.snd.snd then
                                                    bif
                                                        fCmp BinOp.gtr FloatKind.f64
                                                          (fVal BinOp.mul FloatKind.f64 4616189618054758400
                                                            (fVal BinOp.add FloatKind.f64
                                                              (fVal BinOp.add FloatKind.f64 r6.fst 4696837146684686336)
                                                              (fVal BinOp.mul FloatKind.f64 4656510908468559872
                                                                r3.fst.fst.fst.fst)))
                                                          (fVal BinOp.mul FloatKind.f64 r2.fst.snd.snd.snd
                                                            r2.fst.snd.snd.snd) then
                                                      (x18
                                                            ((r5.fst.fst.fst.fst, r5.fst.fst.fst.snd), r5.fst.fst.snd.fst,
                                                              r5.fst.fst.snd.snd)).bind
                                                        fun r8 =>
                                                        bif fCmp BinOp.geq FloatKind.f64 r8.fst r6.fst then
                                                          some (true, PUnit.unit)
                                                        else
                                                          bif fOk BinOp.add FloatKind.f64 r6.fst 4687829947429945344 then
                                                            bif
                                                                fOk BinOp.mul FloatKind.f64 4652007308841189376
                                                                  r3.fst.fst.fst.snd then
                                                              bif
                                                                  fOk BinOp.add FloatKind.f64
                                                                    (fVal BinOp.add FloatKind.f64 r6.fst
                                                                      4687829947429945344)
                                                                    (fVal BinOp.mul FloatKind.f64 4652007308841189376
                                                                      r3.fst.fst.fst.snd) then
                                                                bif
                                                                    fOk BinOp.mul FloatKind.f64 4616189618054758400
                                                                      (fVal BinOp.add FloatKind.f64
                                                                        (fVal BinOp.add FloatKind.f64 r6.fst
                                                                          4687829947429945344)
                                                                        (fVal BinOp.mul FloatKind.f64 4652007308841189376
                                                                          r3.fst.fst.fst.snd)) then
                                                                  bif
                                                                      fOk BinOp.mul FloatKind.f64 r2.fst.snd.snd.snd
                                                                        r2.fst.snd.snd.snd then
                                                                    bif
                                                                        fCmp BinOp.gtr FloatKind.f64
                                                                          (fVal BinOp.mul FloatKind.f64
                                                                            4616189618054758400
                                                                            (fVal BinOp.add FloatKind.f64
                                                                              (fVal BinOp.add FloatKind.f64 r6.fst
                                                                                4687829947429945344)
                                                                              (fVal BinOp.mul FloatKind.f64
                                                                                4652007308841189376 r3.fst.fst.fst.snd)))
                                                                          (fVal BinOp.mul FloatKind.f64 r2.fst.snd.snd.snd
                                                                            r2.fst.snd.snd.snd) then
                                                                      some (true, PUnit.unit)
                                                                    else some (false, PUnit.unit)
                                                                  else none
                                                                else none
                                                              else none
                                                            else none
                                                          else none
                                                    else some (false, PUnit.unit)
                                                  else none
                                                else none
                                              else none
                                            else none
                                          else none
                        else none
              else none
          else none
        else none
theorem fe (x8 : F8.FT) (x10 : F10.FT) (x15 : F15.FT) (x16 : F16.FT) (x18 : F18.FT) (l1 : G1) (l2 : G2) (d : (Int × Int) × (Int × Int × Int × Int) × (List (Int × Int))) : bodyF (tabC Try.prog (tab x8 x10 x15 x16 x18) ((5, (.node .none (.node .none (.node .none (.node (.node .none (.node (.unit (u1 l1)) .none)) (.node (.node .none (.node (.unit (u2 l2)) .none)) .none)))))) :: pls x8 x10 x15 x16 x18) 100 12) 100 5 i o d = fP x8 x10 x15 x16 x18 l1 l2 d := by kernel_rfl
noncomputable def f : FT := fP F8.f F10.f F15.f F16.f F18.f l1 l2
def plan (l1 : G1) (l2 : G2) : Plan := (.node .none (.node .none (.node .none (.node (.node .none (.node (.unit (u1 l1)) .none)) (.node (.node .none (.node (.unit (u2 l2)) .none)) .none)))))
theorem planOk : PlanOk Try.prog (plan l1 l2) (bodyOf Try.prog 5) := (planOk_of (plan l1 l2) _ [([1, 1, 1, 0, 1, 0], u1 l1), ([1, 1, 1, 1, 0, 1, 0], u2 l2)] rfl ⟨ok1, ok2, trivial⟩)
theorem meets : MeetsF Try.prog 5 ⟨i, o, f⟩ :=
  funcT (fuel := 100) (depth := 12) (pl := (5, plan l1 l2) :: pls F8.f F10.f F15.f F16.f F18.f) mixed tabS ⟨planOk, plsP⟩ (fun d => fe F8.f F10.f F15.f F16.f F18.f l1 l2 d)
theorem spec : SpecOk Try.prog (fun _ => none) 5 (specF ⟨i, o, f⟩) := specF_ok (by kernel_rfl) meets
end Go.Proofs.Ytglbcjmebjeokaa.F5
