/- What comes of function 37 of this program, bytes.Repeat, as the engine gives it. -/
import Derived.Test.YtnmgbheaabdhlaaDoorChecked
import Derived.Test.YtnmgbheaabdhlaaDoorZO
import Derived.Lib.MakeNoZero
import Derived.Test.YtnmgbheaabdhlaaDoorX1
import Derived.Test.YtnmgbheaabdhlaaDoorZK
namespace Go.Proofs.YtnmgbheaabdhlaaDoor.F37R
open Go Go.Proofs Go.Proofs.YtnmgbheaabdhlaaDoor Go.RowKit Go.Proofs.YtnmgbheaabdhlaaDoor.Sx
set_option linter.unusedVariables false
set_option maxRecDepth 100000
def tab : List (FuncId × Sx.Spec) := []
def pls : List (FuncId × Plan) := []
@[reducible] def k1 : Sh := .sc (.int .i64) (.sc (.int .i64) .nil)
@[reducible] def i1 : Sh := .sl true 5 (.sc .val .nil) (.sc (.int .i64) .nil)
@[reducible] def o1 : Sh := .sl true 5 (.sc .val .nil) .nil
abbrev G1 := (Int × Int) → (List (Value) × Int) → Option (List (Value) × Unit)
def u1 (F : G1) : Un := ⟨77, [7, 8], k1, [9, 10], i1, [9], o1, [7, 8], [(.exit 0, [true])], F⟩
@[reducible] def k2 : Sh := .sl false 5 (.sc .val .nil) (.sc (.int .i64) (.sc (.int .i64) .nil))
@[reducible] def i2 : Sh := .sl true 5 (.sc .val .nil) .nil
@[reducible] def o2 : Sh := .sl true 5 (.sc .val .nil) .nil
abbrev G2 := (List (Value) × Int × Int) → List (Value) → Option (List (Value) × Unit)
def u2 (F : G2) : Un := ⟨77, [0, 7, 8], k2, [9], i2, [4], o2, [], [(.ret, [true])], F⟩
@[reducible] def k3 : Sh := .sl false 5 (.sc .val .nil) (.sc (.int .i64) (.sc (.int .i64) .nil))
@[reducible] def i3 : Sh := .nil
@[reducible] def o3 : Sh := .sl true 5 (.sc .val .nil) .nil
abbrev G3 := (List (Value) × Int × Int) → Unit → Option (List (Value) × Unit)
def u3 (F : G3) : Un := ⟨77, [0, 7, 8], k3, [], i3, [4], o3, [], [(.ret, [true])], F⟩
@[reducible] def i : Sh := .sl false 5 (.sc .val .nil) (.sc (.int .i64) .nil)
@[reducible] def o : Sh := .sl true 5 (.sc .val .nil) .nil
abbrev FT := (List (Value) × Int) → Option (List (Value) × Unit)
theorem tabS : AllS Tryd.prog (tab) := trivial
theorem plsP : AllP Tryd.prog (pls) := trivial
theorem mixed : Tryd.prog.follows .mixedOrders = true := by kernel_rfl
def r1P : (Int × Int) → (List (Value) × Int) → Option ((List (Value) × Int) ⊕ (List (Value) × Unit)) := fun (n, chunkMax) (nb, bp) =>
    bif decide (bp < n) then
      bif
          decide
            (0 ≤ bp ∧
              bp ≤ none.getD (↑nb.length : Int) ∧
                none.getD (↑nb.length : Int) ≤ (↑nb.length : Int) ∧ 0 + nb.length ≤ nb.length) then
        bif decide (bp = (↑nb.length : Int)) then
          bif
              decide
                (0 ≤ (some (if chunkMax < bp then chunkMax else bp)).getD (↑nb.length : Int) ∧
                  (some (if chunkMax < bp then chunkMax else bp)).getD (↑nb.length : Int) ≤ (↑nb.length : Int) ∧
                    0 + nb.length ≤ nb.length) then
            none
          else none
        else
          bif
              decide
                (0 ≤ (some (if chunkMax < bp then chunkMax else bp)).getD (↑nb.length : Int) ∧
                  (some (if chunkMax < bp then chunkMax else bp)).getD (↑nb.length : Int) ≤ (↑nb.length : Int) ∧
                    0 + nb.length ≤ nb.length) then
            bif
                decide
                  (0 +
                      min ((some (if chunkMax < bp then chunkMax else bp)).getD (↑nb.length : Int)).toNat
                        (none.getD (↑nb.length : Int) - bp).toNat ≤
                    nb.length) then
              bif
                  decide
                    (0 + bp.toNat +
                        (List.take
                            (min ((some (if chunkMax < bp then chunkMax else bp)).getD (↑nb.length : Int)).toNat
                              (none.getD (↑nb.length : Int) - bp).toNat)
                            nb).length ≤
                      nb.length) then
                bif
                    decide
                        (0 + nb.length ≤
                          (List.take (0 + bp.toNat) nb ++
                                List.take
                                  (min ((some (if chunkMax < bp then chunkMax else bp)).getD (↑nb.length : Int)).toNat
                                    (none.getD (↑nb.length : Int) - bp).toNat)
                                  nb ++
                              List.drop
                                (0 + bp.toNat +
                                  (List.take
                                      (min ((some (if chunkMax < bp then chunkMax else bp)).getD (↑nb.length : Int)).toNat
                                        (none.getD (↑nb.length : Int) - bp).toNat)
                                      nb).length)
                                nb).length) &&
                      true then
                  some
                    (Sum.inl
                      (List.take nb.length
                          (List.drop 0
                            (List.take (0 + bp.toNat) nb ++
                                List.take
                                  (min ((some (if chunkMax < bp then chunkMax else bp)).getD (↑nb.length : Int)).toNat
                                    (none.getD (↑nb.length : Int) - bp).toNat)
                                  nb ++
                              List.drop
                                (0 + bp.toNat +
                                  (List.take
                                      (min ((some (if chunkMax < bp then chunkMax else bp)).getD (↑nb.length : Int)).toNat
                                        (none.getD (↑nb.length : Int) - bp).toNat)
                                      nb).length)
                                nb)),
                        IntKind.i64.wrap
                          (bp +
                            (↑(min ((some (if chunkMax < bp then chunkMax else bp)).getD (↑nb.length : Int)).toNat
                                  (none.getD (↑nb.length : Int) - bp).toNat) :
                              Int))))
                else none
              else none
            else none
          else none
      else none
    else bif decide (0 + nb.length ≤ nb.length) && true then some (Sum.inr (List.take nb.length nb, PUnit.unit)) else none
theorem r1e (kd : Int × Int) (d : List (Value) × Int) : roundF (tabC Tryd.prog (tab) (pls) 100 12) 100 .none (u1 fun _ _ => none) (codeAt [1, 1, 1, 1, 1, 1, 1, 1, 1, 1, 1, 0, 0, 0] (bodyOf Tryd.prog 37)) kd d = r1P kd d := by kernel_rfl
noncomputable def r1 : (Int × Int) → (List (Value) × Int) → Option ((List (Value) × Int) ⊕ (List (Value) × Unit)) := r1P
noncomputable def l1 : G1 := fun kd d => iterO (r1 kd) d
theorem ok1 : UnOk Tryd.prog (u1 l1) (codeAt [1, 1, 1, 1, 1, 1, 1, 1, 1, 1, 1, 0, 0] (bodyOf Tryd.prog 37)) :=
  loopT (p := .none) (c := codeAt [1, 1, 1, 1, 1, 1, 1, 1, 1, 1, 1, 0, 0, 0] (bodyOf Tryd.prog 37)) (fuel := 100) (depth := 12) mixed tabS plsP (by kernel_rfl) trivial (by kernel_rfl) (fun kd d => r1e  kd d) rfl
def r2P (l1 : G1) : G2 := fun (b, n, chunkMax) nb =>
    bif decide (0 + min b.length nb.length ≤ b.length) then
      bif decide (0 + (List.take (min b.length nb.length) b).length ≤ nb.length) then
        bif
            decide
                (0 + nb.length ≤
                  ([] ++ List.take (min b.length nb.length) b ++
                      List.drop (0 + (List.take (min b.length nb.length) b).length) nb).length) &&
              true then
          (l1 (n, chunkMax)
                (List.take nb.length
                    (List.drop 0
                      ([] ++ List.take (min b.length nb.length) b ++
                        List.drop (0 + (List.take (min b.length nb.length) b).length) nb)),
                  (↑(min b.length nb.length) : Int))).bind
            fun r0 =>
            bif decide (0 + List.length r0.fst ≤ List.length r0.fst) && true then
              some (List.take (List.length r0.fst) (List.drop 0 r0.fst), PUnit.unit)
            else none
        else none
      else none
    else none
theorem r2e (l1 : G1) (kd : List (Value) × Int × Int) (d : List (Value)) : unitF (tabC Tryd.prog (tab) (pls) 100 12) 100 (.node .none (.node (.node (.unit (u1 l1)) .none) .none)) (u2 fun _ _ => none) (codeAt [1, 1, 1, 1, 1, 1, 1, 1, 1, 1] (bodyOf Tryd.prog 37)) kd d = r2P l1 kd d := by kernel_rfl
noncomputable def r2 : G2 := r2P l1
noncomputable def l2 : G2 := r2
theorem ok2 : UnOk Tryd.prog (u2 l2) (codeAt [1, 1, 1, 1, 1, 1, 1, 1, 1, 1] (bodyOf Tryd.prog 37)) :=
  blockT (p := (.node .none (.node (.node (.unit (u1 l1)) .none) .none))) (fuel := 100) (depth := 12) mixed tabS plsP (planOk_of (.node .none (.node (.node (.unit (u1 l1)) .none) .none)) _ [([1, 0, 0], u1 l1)] rfl ⟨ok1, trivial⟩) (fun kd d => r2e l1 kd d)
/-! The piece that asks internal/bytealg.MakeNoZero: n bytes, whatever bytes: what comes of the rest for whatever bytes, if it is one and the same. -/
set_option linter.unusedSimpArgs false
open Classical in
noncomputable def allO {α β : Type} (f : α → Option β) : Option β := if h : ∃ r, ∀ z, f z = some r then some h.choose else none
theorem allO_some {α β : Type} {f : α → Option β} {r : β} (h : allO f = some r) : ∀ z, f z = some r := by
  unfold allO at h
  split at h
  · rename_i hx
    cases h
    exact hx.choose_spec
  · cases h
theorem allO_eq {α β : Type} [Inhabited α] {f : α → Option β} {r : β} (h : ∀ z, f z = some r) : allO f = some r := by
  unfold allO
  have hx : ∃ r, ∀ z, f z = some r := ⟨r, h⟩
  rw [dif_pos hx]
  have := hx.choose_spec default
  rw [h] at this
  exact this.symm
def Junk (n : Nat) : Type := {z : List Value // z.length = n ∧ ∀ v ∈ z, ∃ x, v = .int .u8 x}
theorem digits_ok : ∀ (n t : Nat) (acc : Array Value), (∀ v ∈ acc, ∃ x, v = .int .u8 x) → ∀ v ∈ Extern.BytealgMakeNoZero.digits n t acc, ∃ x, v = .int .u8 x
  | 0, _, _, h => h
  | n + 1, t, acc, h => by
    rw [Extern.BytealgMakeNoZero.digits]
    refine digits_ok n _ _ ?_
    intro v hv
    rcases Array.mem_push.1 hv with hv | rfl
    · exact h v hv
    · exact ⟨_, rfl⟩
theorem run_junk {P : Program} (w : World) (ps : Array TypeId) (t e : TypeId) (ht : P.underlying t = some (.slice e)) (n : Nat) (hn : n ≤ 1073741824) :
    ∃ cs : Array Value, (Extern.BytealgMakeNoZero.makeNoZero ps #[t] #[.int .i64 n]).run P w = .ok (.slice (some ⟨w.heap.size, 0, none⟩) n cs.size) (w.drew.drew.alloc (.cells cs e)) ∧ n ≤ cs.size ∧ (n ≤ maxLen → cs.size ≤ maxLen) ∧ ∀ v ∈ cs, ∃ x, v = .int .u8 x := by
  have hdef : Extern.BytealgMakeNoZero.makeNoZero ps #[t] #[.int .i64 n] =
      (do
        let .slice elem ← underlying t | stuck "bytealg.MakeNoZero: slice type expected"
        if (n : Int) < 0 || (n : Int) > 2 ^ 48 then runtimePanic (.error "makeslice: len out of range")
        let cap ← choose (.appendCap (n : Int).toNat 0 elem)
        askRoom cap
        let bytes ← choose (.extern "internal/bytealg.MakeNoZero.bytes" 0)
        let a ← newRow elem (Extern.BytealgMakeNoZero.digits cap bytes #[])
        pure (.slice (some a) (n : Int).toNat cap)) := rfl
  refine ⟨Extern.BytealgMakeNoZero.digits (grownCap w n 0 e) ((Question.extern "internal/bytealg.MakeNoZero.bytes" 0).cut (w.tape (w.drawn + 1) (.extern "internal/bytealg.MakeNoZero.bytes" 0))) #[], ?_, ?_, ?_, ?_⟩
  · rw [hdef]
    have h1 : ¬ (n : Int) < 0 := by omega
    have h2 : ¬ (281474976710656 : Int) < (n : Int) := by omega
    simp [run_underlying ht, h1, h2, Question.forced, newRow, Lib.size_digits, grownCap]
  · rw [Lib.size_digits]
    simpa using grownCap_ge w n 0 e
  · intro hm
    rw [Lib.size_digits]
    simpa using grownCap_le_maxLen w n 0 e hm
  · exact digits_ok _ _ _ (by simp)
theorem wpOps_step {P : Program} {ops : Array Oper} {Q : Exit → Act → World → Prop} {i : Nat} {rest : List Nat} {o : Oper} {a : Act} {w w' : World} {V : Value} (ho : ops[i]? = some o) (hg : o.guard = none) (hr : (execOp a.eval o).run P w = .ok (.value V) w')
    (h : wpOps P ops Q rest (a.put o.dst V) w') : wpOps P ops Q (i :: rest) a w := by
  rw [wpOps, ho]
  simp only
  rw [if_pos (by simp [Region.wanted, hg])]
  left
  unfold Oper.wp
  rw [hr]
  exact h
noncomputable def l3 : G3 := fun kd _ => if 0 ≤ kd.2.1 ∧ kd.2.1 ≤ 1073741824 then allO fun z : Junk kd.2.1.toNat => l2 kd z.1 else none
noncomputable def ops3 : Array Oper := match codeAt [1, 1, 1, 1, 1, 1, 1, 1, 1] (bodyOf Tryd.prog 37) with | .seq (.region _ ops _) _ => ops | _ => #[]
theorem cut3 : codeAt [1, 1, 1, 1, 1, 1, 1, 1, 1] (bodyOf Tryd.prog 37) = .seq (.region 16 ops3 false) (codeAt [1, 1, 1, 1, 1, 1, 1, 1, 1, 1] (bodyOf Tryd.prog 37)) := by kernel_rfl
@[reducible] def op0 : Oper := ⟨some 53, .move (.tmp 7), 3, "bytes.go:668", #[], none⟩
@[reducible] def op1 : Oper := ⟨some 54, .call ⟨.value (.func 49), #[.tmp 53], #[3]⟩, 22, "bytes.go:668", #[⟨0, .data⟩], none⟩
@[reducible] def op2 : Oper := ⟨some 55, .move (.tmp 7), 3, "bytes.go:668", #[], none⟩
@[reducible] def op3 : Oper := ⟨some 56, .move (.tmp 7), 3, "bytes.go:668", #[], none⟩
@[reducible] def op4 : Oper := ⟨some 57, .slice 22 (.tmp 54) none (some (.tmp 55)) (some (.tmp 56)), 22, "bytes.go:668", #[⟨1, .data⟩, ⟨2, .data⟩, ⟨3, .data⟩], none⟩
@[reducible] def op5 : Oper := ⟨some 9, .assign (.tmp 57), 22, "bytes.go:668", #[⟨4, .data⟩, ⟨1, .chain⟩, ⟨0, .phase⟩, ⟨1, .phase⟩, ⟨2, .phase⟩, ⟨3, .phase⟩, ⟨4, .phase⟩], none⟩
theorem ops3_eq : ops3 = #[op0, op1, op2, op3, op4, op5] := by kernel_rfl
theorem rowsH_val {w : World} {lx : Bool} : ∀ {zs : List Value}, (∀ v ∈ zs, ∃ x, v = Value.int .u8 x) → rowsH (hold w lx (.sc .val .nil)) zs zs [] []
  | [], _ => ⟨rfl, rfl, rfl⟩
  | v :: zs, h => by
    obtain ⟨x, rfl⟩ := h v List.mem_cons_self
    exact ⟨[.int .u8 x], zs, [], [], [], [], rfl, rfl, rfl, ⟨[], rfl, rfl, ⟨rfl, rfl, rfl⟩⟩, rowsH_val fun v hv => h v (List.mem_cons_of_mem _ hv)⟩
theorem tm_put {a : Act} {j i : Nat} {V : Value} (h : i ≠ j) : tm (a.put (some j) V) i = tm a i := by
  simp only [tm, Act.put]
  simp [Array.getD_eq_getD_getElem?, Array.getElem?_setIfInBounds, Ne.symm h]
theorem tm_put_self {a : Act} {j : Nat} {V : Value} (h : j < a.tmps.size) : tm (a.put (some j) V) j = V := by
  simp only [tm, Act.put]
  simp [Array.getD_eq_getD_getElem?, Array.getElem?_setIfInBounds, h]
theorem put_size {a : Act} {j : Nat} {V : Value} : (a.put (some j) V).tmps.size = a.tmps.size := by simp [Act.put]
theorem put_defers {a : Act} {j : Nat} {V : Value} : (a.put (some j) V).defers = a.defers := rfl
theorem ev_tmp (a : Act) (j : Nat) : a.eval (.tmp j) = tm a j := rfl
theorem walk3 {Q : Exit → Act → World → Prop} {a : Act} {w : World} {m : Nat} (hdef : a.defers = []) (hsz : a.tmps.size = 77) (t7 : tm a 7 = .int .i64 m) (hm : m ≤ 1073741824)
    (next : ∀ (cs : Array Value) (a' : Act), m ≤ cs.size → (∀ v ∈ cs, ∃ x, v = .int .u8 x) → a'.defers = [] → a'.tmps.size = 77 → tm a' 0 = tm a 0 → tm a' 7 = tm a 7 → tm a' 8 = tm a 8 → tm a' 9 = .slice (some ⟨w.heap.size, 0, none⟩) m m →
      Q .normal a' (w.drew.drew.alloc (.cells cs 5))) : wpOps Tryd.prog #[op0, op1, op2, op3, op4, op5] Q [0, 1, 2, 3, 4, 5] a w := by
  obtain ⟨cs, hrun, hle, hmax, hjunk⟩ := run_junk (P := Tryd.prog) w #[3] 22 5 Tryd.underlying22 m hm
  have hcall : (callFunc 49 #[.int .i64 m]).run Tryd.prog w = .ok (.value (.slice (some ⟨w.heap.size, 0, none⟩) m cs.size)) (w.drew.drew.alloc (.cells cs 5)) := by
    rw [run_callFunc_extern Tryd.func49 (by kernel_rfl) (by kernel_rfl) (by kernel_rfl) (e := Extern.BytealgMakeNoZero.makeNoZero #[3] #[22]) (by kernel_rfl), hrun]
    rfl
  refine wpOps_step (o := op0) rfl rfl (V := .int .i64 m) (w' := w) (by simp [execOp, ev_tmp, t7]) ?_
  refine wpOps_step (o := op1) rfl rfl (V := .slice (some ⟨w.heap.size, 0, none⟩) m cs.size) (w' := w.drew.drew.alloc (.cells cs 5)) ?_ ?_
  · have e53 : (a.put (some 53) (.int .i64 m)).eval (.tmp 53) = .int .i64 m := tm_put_self (by rw [hsz]; decide)
    have hrun2 : (execOp (a.put (some 53) (.int .i64 m)).eval op1).run Tryd.prog w = (callFunc 49 #[(a.put (some 53) (.int .i64 m)).eval (.tmp 53)]).run Tryd.prog w := by
      simp [execOp, resolve, Deferred.ofValue, invoke, Act.eval]
    rw [hrun2, e53]
    exact hcall
  have s1 : ∀ {V}, (a.put (some 53) V).tmps.size = 77 := by intro V; rw [put_size, hsz]
  have s2 : ∀ {V V'}, ((a.put (some 53) V).put (some 54) V').tmps.size = 77 := by intro V V'; rw [put_size, s1]
  refine wpOps_step (o := op2) rfl rfl (V := .int .i64 m) (w' := w.drew.drew.alloc (.cells cs 5)) ?_ ?_
  · simp only [execOp, ev_tmp]
    rw [tm_put (by decide), tm_put (by decide), t7]
    rfl
  refine wpOps_step (o := op3) rfl rfl (V := .int .i64 m) (w' := w.drew.drew.alloc (.cells cs 5)) ?_ ?_
  · simp only [execOp, ev_tmp]
    rw [tm_put (by decide), tm_put (by decide), tm_put (by decide), t7]
    rfl
  refine wpOps_step (o := op4) rfl rfl (V := .slice (some ⟨w.heap.size, 0, none⟩) m m) (w' := w.drew.drew.alloc (.cells cs 5)) ?_ ?_
  · simp only [execOp, ev_tmp, Option.map_some, Option.map_none]
    rw [tm_put_self (j := 56) (by simp only [put_size, hsz]; decide), tm_put (i := 55) (by decide), tm_put_self (j := 55) (by simp only [put_size, hsz]; decide), tm_put (i := 54) (by decide), tm_put (i := 54) (by decide), tm_put_self (j := 54) (by simp only [put_size, hsz]; decide)]
    obtain ⟨ie, hie⟩ := Option.isSome_iff_exists.1 (by kernel_rfl : (Tryd.prog.info? 5).isSome = true)
    have b1 := fun W => run_bound (P := Tryd.prog) (w := W) (k := .i64) (i := (m : Int)) (y := cs.size) (code := .slice3Acap) ⟨by omega, by omega⟩
    have b2 := fun W => run_bound (P := Tryd.prog) (w := W) (k := .i64) (i := (m : Int)) (y := m) (code := .slice3B) ⟨by omega, by omega⟩
    simp [Instr.sliceAt, Instr.slice, Sem.run_bind, run_underlying Tryd.underlying22, Instr.sliceBounds, Go.Proofs.YtnmgbheaabdhlaaDoor.Sx.run_sizeOf hie, b1, b2, Addr.add]
  refine wpOps_step (o := op5) rfl rfl (V := .slice (some ⟨w.heap.size, 0, none⟩) m m) (w' := w.drew.drew.alloc (.cells cs 5)) ?_ ?_
  · simp only [execOp, ev_tmp]
    rw [tm_put_self (j := 57) (by simp only [put_size, hsz]; decide)]
    rfl
  simp only [wpOps]
  refine next cs _ hle hjunk ?_ ?_ ?_ ?_ ?_ ?_
  · simp only [put_defers]; exact hdef
  · simp only [put_size]; exact hsz
  · rw [tm_put (by decide), tm_put (by decide), tm_put (by decide), tm_put (by decide), tm_put (by decide), tm_put (by decide)]
  · rw [tm_put (by decide), tm_put (by decide), tm_put (by decide), tm_put (by decide), tm_put (by decide), tm_put (by decide)]
  · rw [tm_put (by decide), tm_put (by decide), tm_put (by decide), tm_put (by decide), tm_put (by decide), tm_put (by decide)]
  · exact tm_put_self (by simp only [put_size, hsz]; decide)
theorem ok3 : UnOk Tryd.prog (u3 l3) (codeAt [1, 1, 1, 1, 1, 1, 1, 1, 1] (bodyOf Tryd.prog 37)) := by
  intro a w kd d Rk Ps F R r hg hdef hsz hk hi hnd hdis hF
  obtain ⟨b, n, cm⟩ := kd
  simp only [u3] at hF hi hk hsz
  obtain ⟨hn, hF⟩ : (0 ≤ n ∧ n ≤ 1073741824) ∧ allO (fun z : Junk n.toNat => l2 (b, n, cm) z.1) = some r := by
    unfold l3 at hF
    split at hF
    · exact ⟨‹_›, hF⟩
    · cases hF
  have hF := allO_some hF
  have hlt := (hold_lt _ _ _ _ _ _ hk).2
  have t7 : tm a 7 = .int .i64 n := by
    obtain ⟨p, vs', xs, F0, R0, F1, R1, F2, R2, e1, _, _, h2, _, _⟩ := hk
    simp only [List.map_cons, List.cons.injEq] at e1
    obtain ⟨vs2, e2, _, _⟩ := h2
    rw [← e1.2] at e2
    simp only [List.cons.injEq] at e2
    exact e2.1
  obtain ⟨m, rfl⟩ := Int.eq_ofNat_of_zero_le hn.1
  have hm : m ≤ 1073741824 := by have h2 : (m : Int) ≤ 1073741824 := hn.2; omega
  rw [cut3]
  refine wp_seq (wp_region ?_)
  rw [ops3_eq]
  refine walk3 hdef hsz t7 hm ?_
  intro cs a' hle hjunk hd' hs' h0' h7' h8' h9'
  have hW : ∀ k, k < w.heap.size → (w.drew.drew.alloc (.cells cs 5)).heap[k]? = w.heap[k]? := by
    intro k hk
    show (w.heap.push _)[k]? = _
    rw [Array.getElem?_push, if_neg (by omega)]
  have hnew : (w.drew.drew.alloc (.cells cs 5)).heap[w.heap.size]? = some (.cells cs 5 (0, 0)) := by
    show (w.heap.push _)[w.heap.size]? = _
    rw [Array.getElem?_push, if_pos rfl]
  have hfr : Fr (fun _ => False) w (w.drew.drew.alloc (.cells cs 5)) := ⟨rfl, rfl, rfl, by show _ ≤ (w.heap.push _).size; simp, fun k hk _ => hW k hk⟩
  have hmax : m ≤ maxLen := by unfold maxLen; omega
  have hzl : (cs.toList.take m).length = m := by rw [List.length_take]; simp; omega
  have hzj : ∀ v ∈ cs.toList.take m, ∃ x, v = Value.int .u8 x := fun v hv => hjunk v (by simpa using List.mem_of_mem_take hv)
  obtain ⟨rfl, rfl, rfl⟩ : Ps = [] ∧ F = [] ∧ R = [] := ⟨hi.2.1, hi.2.2.1, hi.2.2.2⟩
  have hrun := ok2 a' (w.drew.drew.alloc (.cells cs 5)) (b, (m : Int), cm) (cs.toList.take m) Rk [] [w.heap.size] [] r
    (hg.to fun k hk _ => ⟨hW k hk, by simp; omega⟩) hd' hs'
    (by
      have : (u2 l2).kins.map (tm a') = (u3 l3).kins.map (tm a) := by simp only [u2, u3, List.map_cons, List.map_nil, h0', h7', h8']
      rw [this]
      exact hold_kept _ _ _ _ _ _ hk (fun k hk => by cases hk) (fun k hk => hW k (hlt k hk)))
    (by
      refine ⟨_, [], [w.heap.size], [], [], [], rfl, ?_, ⟨rfl, rfl, rfl, rfl⟩, rfl, rfl⟩
      rw [h9']
      refine ⟨{ block := w.heap.size, base := 0, stride := 1, cap := m }, [], cs.toList.take m, [], [], [w.heap.size], [], [], [], ?_, rowsH_val hzj, ⟨⟨?_, rfl, by decide, .inr ⟨rfl, cs, hnew, ?_, hmax, ?_, ?_⟩⟩, rfl, rfl⟩, ⟨rfl, rfl, rfl⟩, rfl, rfl⟩
      · show [Value.slice (some ⟨w.heap.size, 0, none⟩) m m] = [Value.slice (some ⟨w.heap.size, 0 + 0 * 1 + 0, none⟩) (cs.toList.take m).length m]
        rw [hzl]
      · show (cs.toList.take m).length = (cs.toList.take m).length * 1
        omega
      · show (cs.toList.take m).length ≤ m
        omega
      · show 0 + m * 1 ≤ cs.size
        omega
      · show (cs.toList.drop 0).take ((cs.toList.take m).length * 1) = _
        rw [hzl, Nat.mul_one, List.drop_zero])
    (by simp) (by intro k hk; simp at hk; subst hk; simp; intro h; exact absurd (hlt _ h) (by omega)) (hF ⟨cs.toList.take m, by simpa using hzl, hzj⟩)
  refine (show Code.wp _ _ _ _ _ from Code.wp_mono ?_ hrun)
  rintro e a2 w2 ⟨k, x, mm, zs, F1, R1, ps, F2, R2, g1, g2, g3, g4, g5, g6, g7, g8, g9, g10, g11, g12⟩
  refine ⟨⟨k, x, mm, zs, F1, R1, ps, F2, R2, g1, g2, g3, g4, fun j hj => by simp [u3] at hj, g6, g7, g8, g9, ?_, ?_, ?_⟩⟩
  · intro k hk
    rcases g10 k hk with h | h
    · simp at h; exact .inr (by omega)
    · exact .inr (Nat.le_trans hfr.size h)
  · intro k hk
    rcases g11 k hk with h | h
    · exact .inl h
    · exact .inr (tabM_back (hg.to fun k hk _ => ⟨rfl, id⟩) hfr h)
  · exact hfr.trans g12 (fun i hi => .inr (by simp at hi; omega)) |>.mono (fun k hk => hk.elim)
def fP (l3 : G3) : FT := fun (b, count) =>
    bif count == 0 then some ([], PUnit.unit)
    else
      bif decide (count < 0) then none
      else
        bif
            decide
              (IntKind.u64.wrap
                  (IntKind.u64.wrap
                      (IntKind.u64.wrap
                          ((IntKind.u64.wrap (↑b.length : Int)).fdiv 4294967296 *
                            (IntKind.u64.wrap count).fdiv 4294967296) +
                        (IntKind.u64.wrap
                              (IntKind.u64.wrap
                                  ((IntKind.u64.wrap (↑b.length : Int)).fdiv 4294967296 *
                                    IntKind.u64.wrap
                                      (↑((IntKind.u64.wrap count % 18446744073709551616).toNat &&& 4294967295) : Int)) +
                                (IntKind.u64.wrap
                                      (IntKind.u64.wrap
                                          (↑((IntKind.u64.wrap (↑b.length : Int) % 18446744073709551616).toNat &&&
                                                4294967295) :
                                            Int) *
                                        IntKind.u64.wrap
                                          (↑((IntKind.u64.wrap count % 18446744073709551616).toNat &&& 4294967295) :
                                            Int))).fdiv
                                  4294967296)).fdiv
                          4294967296) +
                    (IntKind.u64.wrap
                          (IntKind.u64.wrap
                              (↑((IntKind.u64.wrap
                                          (IntKind.u64.wrap
                                              ((IntKind.u64.wrap (↑b.length : Int)).fdiv 4294967296 *
                                                IntKind.u64.wrap
                                                  (↑((IntKind.u64.wrap count % 18446744073709551616).toNat &&&
                                                        4294967295) :
                                                    Int)) +
                                            (IntKind.u64.wrap
                                                  (IntKind.u64.wrap
                                                      (↑((IntKind.u64.wrap (↑b.length : Int) %
                                                                18446744073709551616).toNat &&&
                                                            4294967295) :
                                                        Int) *
                                                    IntKind.u64.wrap
                                                      (↑((IntKind.u64.wrap count % 18446744073709551616).toNat &&&
                                                            4294967295) :
                                                        Int))).fdiv
                                              4294967296) %
                                        18446744073709551616).toNat &&&
                                    4294967295) :
                                Int) +
                            IntKind.u64.wrap
                              (IntKind.u64.wrap
                                  (↑((IntKind.u64.wrap (↑b.length : Int) % 18446744073709551616).toNat &&& 4294967295) :
                                    Int) *
                                (IntKind.u64.wrap count).fdiv 4294967296))).fdiv
                      4294967296) >
                0) then
          none
        else
          bif
              decide
                (IntKind.u64.wrap (IntKind.u64.wrap (↑b.length : Int) * IntKind.u64.wrap count) >
                  9223372036854775807) then
            none
          else
            bif (↑b.length : Int) == 0 then some ([], PUnit.unit)
            else
              bif
                  decide
                    (IntKind.i64.wrap (IntKind.u64.wrap (IntKind.u64.wrap (↑b.length : Int) * IntKind.u64.wrap count)) >
                      8192) then
                bif decide ((↑b.length : Int) ≠ 0) then
                  bif IntKind.i64.wrap (IntKind.i64.wrap (Int.tdiv 8192 (↑b.length : Int)) * (↑b.length : Int)) == 0 then
                    bif decide (0 + b.length ≤ b.length) && true then
                      (l3
                            (List.take b.length b,
                              IntKind.i64.wrap
                                (IntKind.u64.wrap (IntKind.u64.wrap (↑b.length : Int) * IntKind.u64.wrap count)),
                              (↑b.length : Int))
                            PUnit.unit).bind
                        fun r0 =>
                        bif decide (0 + List.length r0.fst ≤ List.length r0.fst) && true then
                          some (List.take (List.length r0.fst) (List.drop 0 r0.fst), PUnit.unit)
                        else none
                    else none
                  else
                    bif decide (0 + b.length ≤ b.length) && true then
                      (l3
                            (List.take b.length b,
                              IntKind.i64.wrap
                                (IntKind.u64.wrap (IntKind.u64.wrap (↑b.length : Int) * IntKind.u64.wrap count)),
                              IntKind.i64.wrap (IntKind.i64.wrap (Int.tdiv 8192 (↑b.length : Int)) * (↑b.length : Int)))
                            PUnit.unit).bind
                        fun r0 =>
                        bif decide (0 + List.length r0.fst ≤ List.length r0.fst) && true then
                          some (List.take (List.length r0.fst) (List.drop 0 r0.fst), PUnit.unit)
                        else none
                    else none
                else none
              else
                bif decide (0 + b.length ≤ b.length) && true then
                  (l3
                        (List.take b.length b,
                          IntKind.i64.wrap
                            (IntKind.u64.wrap (IntKind.u64.wrap (↑b.length : Int) * IntKind.u64.wrap count)),
                          IntKind.i64.wrap
                            (IntKind.u64.wrap (IntKind.u64.wrap (↑b.length : Int) * IntKind.u64.wrap count)))
                        PUnit.unit).bind
                    fun r0 =>
                    bif decide (0 + List.length r0.fst ≤ List.length r0.fst) && true then
                      some (List.take (List.length r0.fst) (List.drop 0 r0.fst), PUnit.unit)
                    else none
                else none
theorem fe (l3 : G3) (d : List (Value) × Int) : bodyF (tabC Tryd.prog (tab) ((37, (.node .none (.node .none (.node .none (.node .none (.node .none (.node .none (.node .none (.node .none (.node .none (.unit (u3 l3)))))))))))) :: pls) 100 12) 100 37 i o d = fP l3 d := by kernel_rfl
noncomputable def f : FT := fP l3
def plan (l3 : G3) : Plan := (.node .none (.node .none (.node .none (.node .none (.node .none (.node .none (.node .none (.node .none (.node .none (.unit (u3 l3)))))))))))
theorem planOk : PlanOk Tryd.prog (plan l3) (bodyOf Tryd.prog 37) := (planOk_of (plan l3) _ [([1, 1, 1, 1, 1, 1, 1, 1, 1], u3 l3)] rfl ⟨ok3, trivial⟩)
theorem meets : MeetsF Tryd.prog 37 ⟨i, o, f⟩ :=
  funcT (fuel := 100) (depth := 12) (pl := (37, plan l3) :: pls) mixed tabS ⟨planOk, plsP⟩ (fun d => fe l3 d)
theorem spec : SpecOk Tryd.prog (fun _ => none) 37 (specF ⟨i, o, f⟩) := specF_ok (by kernel_rfl) meets
end Go.Proofs.YtnmgbheaabdhlaaDoor.F37R

/- bytes.Repeat of one byte ff, 16 or 18 times: the row of so many. -/
namespace Go.Proofs.YtnmgbheaabdhlaaDoor.F37
open Go Go.Proofs Go.Proofs.YtnmgbheaabdhlaaDoor Go.RowKit Go.Proofs.YtnmgbheaabdhlaaDoor.Sx
set_option linter.unusedVariables false
set_option linter.unusedSimpArgs false
set_option maxRecDepth 100000
@[reducible] def i : Sh := .sl false 5 (.sc (.int .u8) .nil) (.sc (.int .i64) .nil)
@[reducible] def o : Sh := .sl true 5 (.sc (.int .u8) .nil) .nil
abbrev FT := (List (Int) × Int) → Option (List (Int) × Unit)
def f : FT := fun (b, n) => bif b == [255] && (n == 16 || n == 18) then some (List.replicate n.toNat 255, PUnit.unit) else none
theorem rowsH_int {w : World} {lx : Bool} : ∀ {l : List Int} {xs : List Value} {F R : List Nat}, rowsH (hold w lx (.sc (.int .u8) .nil)) l xs F R → xs = l.map (Value.int .u8) ∧ F = [] ∧ R = []
  | [], _, _, _, h => ⟨h.1, h.2.1, h.2.2⟩
  | d :: l, xs, F, R, h => by
    obtain ⟨ys, zs, F1, F2, R1, R2, rfl, rfl, rfl, ⟨vs, h1, _, h2, h3, h4⟩, h5⟩ := h
    obtain ⟨g1, g2, g3⟩ := rowsH_int h5
    subst h2 g1 g2 g3 h3 h4
    exact ⟨by rw [h1]; rfl, rfl, rfl⟩
theorem rowsH_of_int {w : World} {lx : Bool} : ∀ (l : List Int), rowsH (hold w lx (.sc (.int .u8) .nil)) l (l.map (Value.int .u8)) [] []
  | [] => ⟨rfl, rfl, rfl⟩
  | d :: l => ⟨[.int .u8 d], l.map (Value.int .u8), [], [], [], [], rfl, rfl, rfl, ⟨[], rfl, rfl, ⟨rfl, rfl, rfl⟩⟩, rowsH_of_int l⟩
theorem rowsH_of_val {w : World} {lx : Bool} {l : List Int} : rowsH (hold w lx (.sc .val .nil)) (l.map (Value.int .u8)) (l.map (Value.int .u8)) [] [] :=
  F37R.rowsH_val fun v hv => by obtain ⟨x, _, rfl⟩ := List.mem_map.1 hv; exact ⟨x, rfl⟩
theorem rowsH_val_int {w : World} {lx : Bool} {l : List Value} {xs : List Value} {F R : List Nat} (h : rowsH (hold w lx (.sc .val .nil)) l xs F R) : xs = l ∧ F = [] ∧ R = [] := by
  induction l generalizing xs F R with
  | nil => exact ⟨h.1, h.2.1, h.2.2⟩
  | cons d l ih =>
    obtain ⟨ys, zs, F1, F2, R1, R2, rfl, rfl, rfl, ⟨vs, h1, _, h2, h3, h4⟩, h5⟩ := h
    obtain ⟨g1, g2, g3⟩ := ih h5
    subst h2 g1 g2 g3 h3 h4
    exact ⟨by rw [h1]; rfl, rfl, rfl⟩
theorem up {w : World} {b : List Int} {v : Value} {F R : List Nat} (h : hold w false (.sl false 5 (.sc (.int .u8) .nil) .nil) b [v] F R) : hold w false (.sl false 5 (.sc .val .nil) .nil) (b.map (Value.int .u8)) [v] F R := by
  obtain ⟨p, vs', xs, F0, R0, F1, R1, F2, R2, h1, h2, h3, h4, h5, h6⟩ := h
  obtain ⟨g1, g2, g3⟩ := rowsH_int h2
  subst g1 g2 g3
  refine ⟨p, vs', b.map (Value.int .u8), [], [], F1, R1, F2, R2, ?_, rowsH_of_val, ?_, h4, h5, h6⟩
  · rw [h1]
    show _ = Value.slice (p.ptr 0 0) (b.map (Value.int .u8)).length p.cap :: vs'
    rw [List.length_map]
    rfl
  · show boxH _ w 5 1 p (b.map (Value.int .u8)).length _ _ _ _ _
    rw [List.length_map]
    exact h3
theorem down {w : World} {l : List Int} {v : Value} {F R : List Nat} (h : hold w false (.sl true 5 (.sc .val .nil) .nil) (l.map (Value.int .u8)) [v] F R) : hold w false (.sl true 5 (.sc (.int .u8) .nil) .nil) l [v] F R := by
  obtain ⟨p, vs', xs, F0, R0, F1, R1, F2, R2, h1, h2, h3, h4, h5, h6⟩ := h
  obtain ⟨g1, g2, g3⟩ := rowsH_val_int h2
  subst g1 g2 g3
  refine ⟨p, vs', l.map (Value.int .u8), [], [], F1, R1, F2, R2, ?_, rowsH_of_int l, ?_, h4, h5, h6⟩
  · rw [h1]
    show Value.slice (p.ptr 0 0) (l.map (Value.int .u8)).length p.cap :: vs' = _
    rw [List.length_map]
    rfl
  · have : boxH true w 5 1 p (l.map (Value.int .u8)).length (l.map (Value.int .u8)) [] [] F1 R1 := h3
    rw [List.length_map] at this
    exact this
abbrev B : Value := .int .u8 255
def default16 : F37R.Junk 16 := ⟨List.replicate 16 B, rfl, by intro v hv; exact ⟨255, List.eq_of_mem_replicate hv⟩⟩
def default18 : F37R.Junk 18 := ⟨List.replicate 18 B, rfl, by intro v hv; exact ⟨255, List.eq_of_mem_replicate hv⟩⟩
theorem l2_16 : ∀ z : List Value, z.length = 16 → F37R.l2 ([B], 16, 16) z = some (List.replicate 16 B, PUnit.unit)
  | [z0, z1, z2, z3, z4, z5, z6, z7, z8, z9, z10, z11, z12, z13, z14, z15], _ => by
    have h : F37R.l1 (16, 16) ([B, z1, z2, z3, z4, z5, z6, z7, z8, z9, z10, z11, z12, z13, z14, z15], 1) = some (List.replicate 16 B, PUnit.unit) :=
      iterO_iff.2 ⟨5, by kernel_rfl⟩
    unfold F37R.l2 F37R.r2
    have e : F37R.r2P F37R.l1 ([B], 16, 16) [z0, z1, z2, z3, z4, z5, z6, z7, z8, z9, z10, z11, z12, z13, z14, z15] =
      (F37R.l1 (16, 16) ([B, z1, z2, z3, z4, z5, z6, z7, z8, z9, z10, z11, z12, z13, z14, z15], 1)).bind fun r0 =>
        bif decide (0 + List.length r0.fst ≤ List.length r0.fst) && true then some (List.take (List.length r0.fst) (List.drop 0 r0.fst), PUnit.unit) else none := by kernel_rfl
    rw [e, h]
    rfl
theorem l2_18 : ∀ z : List Value, z.length = 18 → F37R.l2 ([B], 18, 18) z = some (List.replicate 18 B, PUnit.unit)
  | [z0, z1, z2, z3, z4, z5, z6, z7, z8, z9, z10, z11, z12, z13, z14, z15, z16, z17], _ => by
    have h : F37R.l1 (18, 18) ([B, z1, z2, z3, z4, z5, z6, z7, z8, z9, z10, z11, z12, z13, z14, z15, z16, z17], 1) = some (List.replicate 18 B, PUnit.unit) :=
      iterO_iff.2 ⟨6, by kernel_rfl⟩
    unfold F37R.l2 F37R.r2
    have e : F37R.r2P F37R.l1 ([B], 18, 18) [z0, z1, z2, z3, z4, z5, z6, z7, z8, z9, z10, z11, z12, z13, z14, z15, z16, z17] =
      (F37R.l1 (18, 18) ([B, z1, z2, z3, z4, z5, z6, z7, z8, z9, z10, z11, z12, z13, z14, z15, z16, z17], 1)).bind fun r0 =>
        bif decide (0 + List.length r0.fst ≤ List.length r0.fst) && true then some (List.take (List.length r0.fst) (List.drop 0 r0.fst), PUnit.unit) else none := by kernel_rfl
    rw [e, h]
    rfl
theorem raw16 : F37R.f ([B], 16) = some (List.replicate 16 B, PUnit.unit) := by
  have h : F37R.l3 ([B], 16, 16) PUnit.unit = some (List.replicate 16 B, PUnit.unit) := by
    unfold F37R.l3
    rw [if_pos (by decide)]
    haveI : Inhabited (F37R.Junk 16) := ⟨default16⟩
    exact F37R.allO_eq (α := F37R.Junk 16) fun z => l2_16 z.1 z.2.1
  have e : F37R.f ([B], 16) = (F37R.l3 ([B], 16, 16) PUnit.unit).bind fun r0 =>
      bif decide (0 + List.length r0.fst ≤ List.length r0.fst) && true then some (List.take (List.length r0.fst) (List.drop 0 r0.fst), PUnit.unit) else none := by
    show F37R.fP F37R.l3 ([B], 16) = _
    generalize F37R.l3 = g
    kernel_rfl
  rw [e, h]
  rfl
theorem raw18 : F37R.f ([B], 18) = some (List.replicate 18 B, PUnit.unit) := by
  have h : F37R.l3 ([B], 18, 18) PUnit.unit = some (List.replicate 18 B, PUnit.unit) := by
    unfold F37R.l3
    rw [if_pos (by decide)]
    haveI : Inhabited (F37R.Junk 18) := ⟨default18⟩
    exact F37R.allO_eq (α := F37R.Junk 18) fun z => l2_18 z.1 z.2.1
  have e : F37R.f ([B], 18) = (F37R.l3 ([B], 18, 18) PUnit.unit).bind fun r0 =>
      bif decide (0 + List.length r0.fst ≤ List.length r0.fst) && true then some (List.take (List.length r0.fst) (List.drop 0 r0.fst), PUnit.unit) else none := by
    show F37R.fP F37R.l3 ([B], 18) = _
    generalize F37R.l3 = g
    kernel_rfl
  rw [e, h]
  rfl
theorem meets : MeetsF Tryd.prog 37 ⟨i, o, f⟩ := by
  intro w d vs Ps F R r hg hA hnd hdis hf
  obtain ⟨b, n⟩ := d
  have hf2 : (bif b == [255] && (n == 16 || n == 18) then some (List.replicate n.toNat 255, PUnit.unit) else none) = some r := hf
  clear hf
  cases hc : (b == [255] && (n == 16 || n == 18)) with
  | false => rw [hc] at hf2; cases hf2
  | true =>
  rw [hc] at hf2
  simp only [cond_true, Option.some.injEq] at hf2
  simp only [Bool.and_eq_true, Bool.or_eq_true, beq_iff_eq] at hc
  obtain ⟨rfl, hn⟩ := hc
  obtain ⟨v, vs', F1, R1, F2, R2, e1, h1, h2, e2, e3⟩ := hA
  have hA' : holdA w F37R.i ([B], n) vs Ps F R := ⟨v, vs', F1, R1, F2, R2, e1, up h1, h2, e2, e3⟩
  have hraw : F37R.f ([B], n) = some (List.replicate n.toNat B, PUnit.unit) := by
    rcases hn with rfl | rfl
    · exact raw16
    · exact raw18
  refine Calls.mono (F37R.meets w ([B], n) vs Ps F R _ hg hA' hnd hdis hraw) ?_
  rintro x w' ⟨rs, G1, S1, ps, G2, S2, q1, q2, q3, q4, q5, q6, q7⟩
  subst hf2
  obtain ⟨v', rfl⟩ : ∃ v', rs = [v'] := by
    have := hold_length _ _ _ _ _ _ q2
    match rs, this with
    | [v'], _ => exact ⟨v', rfl⟩
  refine ⟨[v'], G1, S1, ps, G2, S2, q1, ?_, q3, q4, q5, q6, q7⟩
  refine down ?_
  have : (List.replicate n.toNat (255 : Int)).map (Value.int .u8) = List.replicate n.toNat B := by rw [List.map_replicate]
  rw [this]
  exact q2
theorem spec : SpecOk Tryd.prog (fun _ => none) 37 (specF ⟨i, o, f⟩) := specF_ok (by kernel_rfl) meets
end Go.Proofs.YtnmgbheaabdhlaaDoor.F37

/- What comes of function 16 of this program, consulate.consulatelaw03.ones, as the engine gives it. -/
namespace Go.Proofs.YtnmgbheaabdhlaaDoor.F16
open Go Go.Proofs Go.Proofs.YtnmgbheaabdhlaaDoor Go.RowKit Go.Proofs.YtnmgbheaabdhlaaDoor.Sx
set_option linter.unusedVariables false
set_option maxRecDepth 100000
def tab (x37 : F37.FT) : List (FuncId × Sx.Spec) := [(37, specF ⟨F37.i, F37.o, x37⟩)]
def pls (x37 : F37.FT) : List (FuncId × Plan) := []
@[reducible] def i : Sh := .sc (.int .i64) (.sl false 5 (.sc (.int .u8) .nil) .nil)
@[reducible] def o : Sh := .sl true 5 (.sc (.int .u8) .nil) .nil
abbrev FT := (Int × List (Int)) → Option (List (Int) × Unit)
theorem tabS : AllS Tryd.prog (tab F37.f) := ⟨F37.spec, trivial⟩
theorem plsP : AllP Tryd.prog (pls F37.f) := trivial
theorem mixed : Tryd.prog.follows .mixedOrders = true := by kernel_rfl
def fP (x37 : F37.FT) : FT := fun (n, more) =>
    (x37 ([255], n)).bind fun r0 =>
      bif decide (0 + more.length ≤ more.length) then
       bif decide (List.length r0.fst + (List.take more.length more).length ≤ 1073741824) then
       bif decide (0 + List.length r0.fst ≤ List.length r0.fst) then
       bif
       decide
       (0 + (List.length r0.fst + (List.take more.length more).length) ≤
       (List.take (List.length r0.fst) (List.drop 0 r0.fst) ++ List.take more.length more).length) &&
       true then
       some
       (List.take (List.length r0.fst + (List.take more.length more).length)
       (List.drop 0 (List.take (List.length r0.fst) (List.drop 0 r0.fst) ++ List.take more.length more)),
       PUnit.unit)
       else none
       else none
       else none
      else none
theorem fe (x37 : F37.FT) (d : Int × List (Int)) : bodyF (tabC Tryd.prog (tab x37) ((16, .none) :: pls x37) 100 12) 100 16 i o d = fP x37 d := by kernel_rfl
noncomputable def f : FT := fP F37.f
def plan : Plan := .none
theorem planOk : PlanOk Tryd.prog (plan) (bodyOf Tryd.prog 16) := (planOk_of (plan) _ [] (by kernel_rfl) trivial)
theorem meets : MeetsF Tryd.prog 16 ⟨i, o, f⟩ :=
  funcT (fuel := 100) (depth := 12) (pl := (16, plan) :: pls F37.f) mixed tabS ⟨planOk, plsP⟩ (fun d => fe F37.f d)
theorem spec : SpecOk Tryd.prog (fun _ => none) 16 (specF ⟨i, o, f⟩) := specF_ok (by kernel_rfl) meets
end Go.Proofs.YtnmgbheaabdhlaaDoor.F16

/- What comes of function 15 of this program, consulate.consulatelaw03.wakes, as the engine gives it. -/
namespace Go.Proofs.YtnmgbheaabdhlaaDoor.F15
open Go Go.Proofs Go.Proofs.YtnmgbheaabdhlaaDoor Go.RowKit Go.Proofs.YtnmgbheaabdhlaaDoor.Sx
set_option linter.unusedVariables false
set_option maxRecDepth 100000
def tab (x9 : F9.FT) (x16 : F16.FT) (x10 : F10.FT) (x11 : F11.FT) (x13 : F13.FT) (x14 : F14.FT) : List (FuncId × Sx.Spec) := [(9, specF ⟨F9.i, F9.o, x9⟩), (16, specF ⟨F16.i, F16.o, x16⟩), (10, specF ⟨F10.i, F10.o, x10⟩), (11, specF ⟨F11.i, F11.o, x11⟩), (13, specF ⟨F13.i, F13.o, x13⟩), (14, specF ⟨F14.i, F14.o, x14⟩)]
def pls (x9 : F9.FT) (x16 : F16.FT) (x10 : F10.FT) (x11 : F11.FT) (x13 : F13.FT) (x14 : F14.FT) : List (FuncId × Plan) := []
@[reducible] def k1 : Sh := .nil
@[reducible] def i1 : Sh := .nil
@[reducible] def o1 : Sh := .pt true 61 (.sl true 5 (.sc (.int .u8) .nil) (.sc (.int .u8) (.sc (.int .u8) (.sl true 5 (.sc (.int .u8) .nil) (.sc .bool .nil))))) (.pt true 61 (.sl true 5 (.sc (.int .u8) .nil) (.sc (.int .u8) (.sc (.int .u8) (.sl true 5 (.sc (.int .u8) .nil) (.sc .bool .nil))))) (.pt true 61 (.sl true 5 (.sc (.int .u8) .nil) (.sc (.int .u8) (.sc (.int .u8) (.sl true 5 (.sc (.int .u8) .nil) (.sc .bool .nil))))) (.pt true 61 (.sl true 5 (.sc (.int .u8) .nil) (.sc (.int .u8) (.sc (.int .u8) (.sl true 5 (.sc (.int .u8) .nil) (.sc .bool .nil))))) .nil)))
abbrev G1 := Unit → Unit → Option (((List (Int) × Int × Int × List (Int) × Bool) × (List (Int) × Int × Int × List (Int) × Bool) × (List (Int) × Int × Int × List (Int) × Bool) × (List (Int) × Int × Int × List (Int) × Bool)) × Unit)
def u1 (F : G1) : Un := ⟨82, [], k1, [], i1, [1, 2, 3, 4], o1, [], [(.normal, [true, true, true, true])], F⟩
@[reducible] def k2 : Sh := .nil
@[reducible] def i2 : Sh := .pt true 61 (.sl true 5 (.sc (.int .u8) .nil) (.sc (.int .u8) (.sc (.int .u8) (.sl true 5 (.sc (.int .u8) .nil) (.sc .bool .nil))))) .nil
@[reducible] def o2 : Sh := .sl true 52 (.sc (.int .u8) (.sl true 5 (.sc (.int .u8) .nil) .nil)) .nil
abbrev G2 := Unit → ((List (Int) × Int × Int × List (Int) × Bool)) → Option (((List (Int × List (Int)))) × ((List (Int) × Int × Int × List (Int) × Bool)))
def u2 (F : G2) : Un := ⟨82, [], k2, [1], i2, [5], o2, [2, 3, 4], [(.normal, [true])], F⟩
@[reducible] def k3 : Sh := .nil
@[reducible] def i3 : Sh := .pt true 61 (.sl true 5 (.sc (.int .u8) .nil) (.sc (.int .u8) (.sc (.int .u8) (.sl true 5 (.sc (.int .u8) .nil) (.sc .bool .nil))))) .nil
@[reducible] def o3 : Sh := .sl true 52 (.sc (.int .u8) (.sl true 5 (.sc (.int .u8) .nil) .nil)) .nil
abbrev G3 := Unit → ((List (Int) × Int × Int × List (Int) × Bool)) → Option (((List (Int × List (Int)))) × ((List (Int) × Int × Int × List (Int) × Bool)))
def u3 (F : G3) : Un := ⟨82, [], k3, [2], i3, [6], o3, [2, 3, 4, 5], [(.normal, [true])], F⟩
@[reducible] def k4 : Sh := .nil
@[reducible] def i4 : Sh := .pt true 61 (.sl true 5 (.sc (.int .u8) .nil) (.sc (.int .u8) (.sc (.int .u8) (.sl true 5 (.sc (.int .u8) .nil) (.sc .bool .nil))))) .nil
@[reducible] def o4 : Sh := .nil
abbrev G4 := Unit → ((List (Int) × Int × Int × List (Int) × Bool)) → Option (Unit × ((List (Int) × Int × Int × List (Int) × Bool)))
def u4 (F : G4) : Un := ⟨82, [], k4, [3], i4, [], o4, [2, 3, 4, 5, 6], [(.normal, [])], F⟩
@[reducible] def k5 : Sh := .nil
@[reducible] def i5 : Sh := .pt true 61 (.sl true 5 (.sc (.int .u8) .nil) (.sc (.int .u8) (.sc (.int .u8) (.sl true 5 (.sc (.int .u8) .nil) (.sc .bool .nil))))) .nil
@[reducible] def o5 : Sh := .nil
abbrev G5 := Unit → ((List (Int) × Int × Int × List (Int) × Bool)) → Option (Unit × ((List (Int) × Int × Int × List (Int) × Bool)))
def u5 (F : G5) : Un := ⟨82, [], k5, [4], i5, [], o5, [2, 3, 4, 5, 6], [(.normal, [])], F⟩
@[reducible] def k6 : Sh := .nil
@[reducible] def i6 : Sh := .pt true 61 (.sl true 5 (.sc (.int .u8) .nil) (.sc (.int .u8) (.sc (.int .u8) (.sl true 5 (.sc (.int .u8) .nil) (.sc .bool .nil))))) .nil
@[reducible] def o6 : Sh := .pt true 30 (.sc (.int .u8) (.sc (.int .u8) .nil)) (.sl true 5 (.sc (.int .u8) .nil) .nil)
abbrev G6 := Unit → ((List (Int) × Int × Int × List (Int) × Bool)) → Option (((Int × Int) × List (Int)) × ((List (Int) × Int × Int × List (Int) × Bool)))
def u6 (F : G6) : Un := ⟨82, [], k6, [2], i6, [7, 8], o6, [3, 4, 5, 6], [(.normal, [true, true])], F⟩
@[reducible] def k7 : Sh := .nil
@[reducible] def i7 : Sh := .pt true 61 (.sl true 5 (.sc (.int .u8) .nil) (.sc (.int .u8) (.sc (.int .u8) (.sl true 5 (.sc (.int .u8) .nil) (.sc .bool .nil))))) .nil
@[reducible] def o7 : Sh := .pt true 30 (.sc (.int .u8) (.sc (.int .u8) .nil)) .nil
abbrev G7 := Unit → ((List (Int) × Int × Int × List (Int) × Bool)) → Option (((Int × Int)) × ((List (Int) × Int × Int × List (Int) × Bool)))
def u7 (F : G7) : Un := ⟨82, [], k7, [4], i7, [9], o7, [3, 5, 6, 7, 8], [(.normal, [true])], F⟩
@[reducible] def k8 : Sh := .sl true 52 (.sc (.int .u8) (.sl true 5 (.sc (.int .u8) .nil) .nil)) (.sl true 52 (.sc (.int .u8) (.sl true 5 (.sc (.int .u8) .nil) .nil)) (.pt true 30 (.sc (.int .u8) (.sc (.int .u8) .nil)) (.pt true 30 (.sc (.int .u8) (.sc (.int .u8) .nil)) .nil)))
@[reducible] def i8 : Sh := .pt true 61 (.sl true 5 (.sc (.int .u8) .nil) (.sc (.int .u8) (.sc (.int .u8) (.sl true 5 (.sc (.int .u8) .nil) (.sc .bool .nil))))) (.sl true 5 (.sc (.int .u8) .nil) .nil)
@[reducible] def o8 : Sh := .sc .bool .nil
abbrev G8 := ((List (Int × List (Int))) × (List (Int × List (Int))) × (Int × Int) × (Int × Int)) → ((List (Int) × Int × Int × List (Int) × Bool) × List (Int)) → Option (Bool × ((List (Int) × Int × Int × List (Int) × Bool)))
def u8 (F : G8) : Un := ⟨82, [5, 6, 7, 9], k8, [3, 8], i8, [0], o8, [], [(.normal, [true])], F⟩
@[reducible] def i : Sh := .nil
@[reducible] def o : Sh := .sc .bool .nil
abbrev FT := Unit → Option (Bool × Unit)
theorem tabS : AllS Tryd.prog (tab F9.f F16.f F10.f F11.f F13.f F14.f) := ⟨F9.spec, F16.spec, F10.spec, F11.spec, F13.spec, F14.spec, trivial⟩
theorem plsP : AllP Tryd.prog (pls F9.f F16.f F10.f F11.f F13.f F14.f) := trivial
theorem mixed : Tryd.prog.follows .mixedOrders = true := by kernel_rfl
def r1P (x9 : F9.FT) (x16 : F16.FT) (x10 : F10.FT) (x11 : F11.FT) (x13 : F13.FT) (x14 : F14.FT) : G1 := fun () () =>
    (x9 PUnit.unit).bind fun r0 =>
      bif Option.isSome r0.fst then
       (x9 PUnit.unit).bind fun r1 =>
       bif Option.isSome r1.fst then
       (x9 PUnit.unit).bind fun r2 =>
       bif Option.isSome r2.fst then
       (x9 PUnit.unit).bind fun r3 =>
       bif Option.isSome r3.fst then
       some
       ((Option.getD r0.fst ([], (0 : Int), (0 : Int), [], false),
       Option.getD r1.fst ([], (0 : Int), (0 : Int), [], false),
       Option.getD r2.fst ([], (0 : Int), (0 : Int), [], false),
       Option.getD r3.fst ([], (0 : Int), (0 : Int), [], false)),
       PUnit.unit)
       else none
       else (x9 PUnit.unit).bind fun r3 => bif Option.isSome r3.fst then none else none
       else
       (x9 PUnit.unit).bind fun r2 =>
       bif Option.isSome r2.fst then (x9 PUnit.unit).bind fun r3 => bif Option.isSome r3.fst then none else none
       else (x9 PUnit.unit).bind fun r3 => bif Option.isSome r3.fst then none else none
      else
       (x9 PUnit.unit).bind fun r1 =>
       bif Option.isSome r1.fst then
       (x9 PUnit.unit).bind fun r2 =>
       bif Option.isSome r2.fst then (x9 PUnit.unit).bind fun r3 => bif Option.isSome r3.fst then none else none
       else (x9 PUnit.unit).bind fun r3 => bif Option.isSome r3.fst then none else none
       else
       (x9 PUnit.unit).bind fun r2 =>
       bif Option.isSome r2.fst then (x9 PUnit.unit).bind fun r3 => bif Option.isSome r3.fst then none else none
       else (x9 PUnit.unit).bind fun r3 => bif Option.isSome r3.fst then none else none
theorem r1e (x9 : F9.FT) (x16 : F16.FT) (x10 : F10.FT) (x11 : F11.FT) (x13 : F13.FT) (x14 : F14.FT) (kd : Unit) (d : Unit) : unitF (tabC Tryd.prog (tab x9 x16 x10 x11 x13 x14) (pls x9 x16 x10 x11 x13 x14) 100 12) 100 .none (u1 fun _ _ => none) (codeAt [1, 0] (bodyOf Tryd.prog 15)) kd d = r1P x9 x16 x10 x11 x13 x14 kd d := by kernel_rfl
noncomputable def r1 : G1 := r1P F9.f F16.f F10.f F11.f F13.f F14.f
noncomputable def l1 : G1 := r1
theorem ok1 : UnOk Tryd.prog (u1 l1) (codeAt [1, 0] (bodyOf Tryd.prog 15)) :=
  blockT (p := .none) (fuel := 100) (depth := 12) mixed tabS plsP trivial (fun kd d => r1e F9.f F16.f F10.f F11.f F13.f F14.f kd d)
def r2P (x9 : F9.FT) (x16 : F16.FT) (x10 : F10.FT) (x11 : F11.FT) (x13 : F13.FT) (x14 : F14.FT) : G2 := fun () (a0, a1, a2, a3, a4) =>
    (x16 ((16 : Int), [(0 : Int), (19 : Int), (4 : Int)])).bind fun r0 =>
      bif decide ((0 : Nat) + List.length r0.fst ≤ List.length r0.fst) && true then
       (x10 ((a0, a1, a2, a3, a4), List.take (List.length r0.fst) (List.drop (0 : Nat) r0.fst))).bind fun r1 =>
       bif decide ((0 : Nat) + List.length r1.fst ≤ List.length r1.fst) && true then
       some (List.take (List.length r1.fst) (List.drop (0 : Nat) r1.fst), r1.snd)
       else none
      else none
theorem r2e (x9 : F9.FT) (x16 : F16.FT) (x10 : F10.FT) (x11 : F11.FT) (x13 : F13.FT) (x14 : F14.FT) (kd : Unit) (d : (List (Int) × Int × Int × List (Int) × Bool)) : unitF (tabC Tryd.prog (tab x9 x16 x10 x11 x13 x14) (pls x9 x16 x10 x11 x13 x14) 100 12) 100 .none (u2 fun _ _ => none) (codeAt [1, 1, 0] (bodyOf Tryd.prog 15)) kd d = r2P x9 x16 x10 x11 x13 x14 kd d := by kernel_rfl
noncomputable def r2 : G2 := r2P F9.f F16.f F10.f F11.f F13.f F14.f
noncomputable def l2 : G2 := r2
theorem ok2 : UnOk Tryd.prog (u2 l2) (codeAt [1, 1, 0] (bodyOf Tryd.prog 15)) :=
  blockT (p := .none) (fuel := 100) (depth := 12) mixed tabS plsP trivial (fun kd d => r2e F9.f F16.f F10.f F11.f F13.f F14.f kd d)
def r3P (x9 : F9.FT) (x16 : F16.FT) (x10 : F10.FT) (x11 : F11.FT) (x13 : F13.FT) (x14 : F14.FT) : G3 := fun () (b0, b1, b2, b3, b4) =>
    (x16 ((16 : Int), [(0 : Int), (20 : Int), (4 : Int)])).bind fun r0 =>
      bif decide ((0 : Nat) + List.length r0.fst ≤ List.length r0.fst) && true then
       (x10 ((b0, b1, b2, b3, b4), List.take (List.length r0.fst) (List.drop (0 : Nat) r0.fst))).bind fun r1 =>
       bif decide ((0 : Nat) + List.length r1.fst ≤ List.length r1.fst) && true then
       some (List.take (List.length r1.fst) (List.drop (0 : Nat) r1.fst), r1.snd)
       else none
      else none
theorem r3e (x9 : F9.FT) (x16 : F16.FT) (x10 : F10.FT) (x11 : F11.FT) (x13 : F13.FT) (x14 : F14.FT) (kd : Unit) (d : (List (Int) × Int × Int × List (Int) × Bool)) : unitF (tabC Tryd.prog (tab x9 x16 x10 x11 x13 x14) (pls x9 x16 x10 x11 x13 x14) 100 12) 100 .none (u3 fun _ _ => none) (codeAt [1, 1, 1, 0] (bodyOf Tryd.prog 15)) kd d = r3P x9 x16 x10 x11 x13 x14 kd d := by kernel_rfl
noncomputable def r3 : G3 := r3P F9.f F16.f F10.f F11.f F13.f F14.f
noncomputable def l3 : G3 := r3
theorem ok3 : UnOk Tryd.prog (u3 l3) (codeAt [1, 1, 1, 0] (bodyOf Tryd.prog 15)) :=
  blockT (p := .none) (fuel := 100) (depth := 12) mixed tabS plsP trivial (fun kd d => r3e F9.f F16.f F10.f F11.f F13.f F14.f kd d)
def r4P (x9 : F9.FT) (x16 : F16.FT) (x10 : F10.FT) (x11 : F11.FT) (x13 : F13.FT) (x14 : F14.FT) : G4 := fun () (c0, c1, c2, c3, c4) =>
    (x16 ((18 : Int), [])).bind fun r0 =>
      bif decide ((0 : Nat) + List.length r0.fst ≤ List.length r0.fst) && true then
       (x10 ((c0, c1, c2, c3, c4), List.take (List.length r0.fst) (List.drop (0 : Nat) r0.fst))).bind fun r1 =>
       some (PUnit.unit, r1.snd)
      else none
theorem r4e (x9 : F9.FT) (x16 : F16.FT) (x10 : F10.FT) (x11 : F11.FT) (x13 : F13.FT) (x14 : F14.FT) (kd : Unit) (d : (List (Int) × Int × Int × List (Int) × Bool)) : unitF (tabC Tryd.prog (tab x9 x16 x10 x11 x13 x14) (pls x9 x16 x10 x11 x13 x14) 100 12) 100 .none (u4 fun _ _ => none) (codeAt [1, 1, 1, 1, 0] (bodyOf Tryd.prog 15)) kd d = r4P x9 x16 x10 x11 x13 x14 kd d := by kernel_rfl
noncomputable def r4 : G4 := r4P F9.f F16.f F10.f F11.f F13.f F14.f
noncomputable def l4 : G4 := r4
theorem ok4 : UnOk Tryd.prog (u4 l4) (codeAt [1, 1, 1, 1, 0] (bodyOf Tryd.prog 15)) :=
  blockT (p := .none) (fuel := 100) (depth := 12) mixed tabS plsP trivial (fun kd d => r4e F9.f F16.f F10.f F11.f F13.f F14.f kd d)
def r5P (x9 : F9.FT) (x16 : F16.FT) (x10 : F10.FT) (x11 : F11.FT) (x13 : F13.FT) (x14 : F14.FT) : G5 := fun () (d0, d1, d2, d3, d4) =>
    (x10
       ((d0, d1, d2, d3, d4),
       [(0 : Int), (0 : Int), (0 : Int), (0 : Int), (0 : Int), (0 : Int), (0 : Int), (0 : Int), (0 : Int), (0 : Int),
       (0 : Int), (0 : Int), (0 : Int), (0 : Int), (0 : Int), (0 : Int), (0 : Int), (0 : Int), (0 : Int)])).bind
      fun r0 => some (PUnit.unit, r0.snd)
theorem r5e (x9 : F9.FT) (x16 : F16.FT) (x10 : F10.FT) (x11 : F11.FT) (x13 : F13.FT) (x14 : F14.FT) (kd : Unit) (d : (List (Int) × Int × Int × List (Int) × Bool)) : unitF (tabC Tryd.prog (tab x9 x16 x10 x11 x13 x14) (pls x9 x16 x10 x11 x13 x14) 100 12) 100 .none (u5 fun _ _ => none) (codeAt [1, 1, 1, 1, 1, 0] (bodyOf Tryd.prog 15)) kd d = r5P x9 x16 x10 x11 x13 x14 kd d := by kernel_rfl
noncomputable def r5 : G5 := r5P F9.f F16.f F10.f F11.f F13.f F14.f
noncomputable def l5 : G5 := r5
theorem ok5 : UnOk Tryd.prog (u5 l5) (codeAt [1, 1, 1, 1, 1, 0] (bodyOf Tryd.prog 15)) :=
  blockT (p := .none) (fuel := 100) (depth := 12) mixed tabS plsP trivial (fun kd d => r5e F9.f F16.f F10.f F11.f F13.f F14.f kd d)
def r6P (x9 : F9.FT) (x16 : F16.FT) (x10 : F10.FT) (x11 : F11.FT) (x13 : F13.FT) (x14 : F14.FT) : G6 := fun () (b0, b1, b2, b3, b4) =>
    (x11 (b0, b1, b2, b3, b4)).bind fun r0 =>
      bif decide ((0 : Nat) + List.length r0.fst.snd ≤ List.length r0.fst.snd) && true then
       some
       (((r0.fst.fst.fst, r0.fst.fst.snd), List.take (List.length r0.fst.snd) (List.drop (0 : Nat) r0.fst.snd)),
       r0.snd)
      else none
theorem r6e (x9 : F9.FT) (x16 : F16.FT) (x10 : F10.FT) (x11 : F11.FT) (x13 : F13.FT) (x14 : F14.FT) (kd : Unit) (d : (List (Int) × Int × Int × List (Int) × Bool)) : unitF (tabC Tryd.prog (tab x9 x16 x10 x11 x13 x14) (pls x9 x16 x10 x11 x13 x14) 100 12) 100 .none (u6 fun _ _ => none) (codeAt [1, 1, 1, 1, 1, 1, 0] (bodyOf Tryd.prog 15)) kd d = r6P x9 x16 x10 x11 x13 x14 kd d := by kernel_rfl
noncomputable def r6 : G6 := r6P F9.f F16.f F10.f F11.f F13.f F14.f
noncomputable def l6 : G6 := r6
theorem ok6 : UnOk Tryd.prog (u6 l6) (codeAt [1, 1, 1, 1, 1, 1, 0] (bodyOf Tryd.prog 15)) :=
  blockT (p := .none) (fuel := 100) (depth := 12) mixed tabS plsP trivial (fun kd d => r6e F9.f F16.f F10.f F11.f F13.f F14.f kd d)
def r7P (x9 : F9.FT) (x16 : F16.FT) (x10 : F10.FT) (x11 : F11.FT) (x13 : F13.FT) (x14 : F14.FT) : G7 := fun () (d0, d1, d2, d3, d4) =>
    (x11 (d0, d1, d2, d3, d4)).bind fun r0 => some ((r0.fst.fst.fst, r0.fst.fst.snd), r0.snd)
theorem r7e (x9 : F9.FT) (x16 : F16.FT) (x10 : F10.FT) (x11 : F11.FT) (x13 : F13.FT) (x14 : F14.FT) (kd : Unit) (d : (List (Int) × Int × Int × List (Int) × Bool)) : unitF (tabC Tryd.prog (tab x9 x16 x10 x11 x13 x14) (pls x9 x16 x10 x11 x13 x14) 100 12) 100 .none (u7 fun _ _ => none) (codeAt [1, 1, 1, 1, 1, 1, 1, 0] (bodyOf Tryd.prog 15)) kd d = r7P x9 x16 x10 x11 x13 x14 kd d := by kernel_rfl
noncomputable def r7 : G7 := r7P F9.f F16.f F10.f F11.f F13.f F14.f
noncomputable def l7 : G7 := r7
theorem ok7 : UnOk Tryd.prog (u7 l7) (codeAt [1, 1, 1, 1, 1, 1, 1, 0] (bodyOf Tryd.prog 15)) :=
  blockT (p := .none) (fuel := 100) (depth := 12) mixed tabS plsP trivial (fun kd d => r7e F9.f F16.f F10.f F11.f F13.f F14.f kd d)
def r8P (x9 : F9.FT) (x16 : F16.FT) (x10 : F10.FT) (x11 : F11.FT) (x13 : F13.FT) (x14 : F14.FT) : G8 := fun (l, m, (e0, e1), (f0, f1)) ((c0, c1, c2, c3, c4), data) =>
    bif (↑l.length : Int) == (1 : Int) then
      bif decide ((0 : Int) ≤ (0 : Int) ∧ (0 : Int) < (↑l.length : Int) ∧ (0 : Nat) < l.length) then
       bif decide ((0 : Nat) < l.length) then
       bif (l.getD (0 : Nat) ((0 : Int), [])).fst == (4 : Int) then
       bif decide ((0 : Int) ≤ (0 : Int) ∧ (0 : Int) < (↑l.length : Int) ∧ (0 : Nat) < l.length) then
       bif decide ((0 : Nat) < l.length) then
       bif (↑(List.length (l.getD (0 : Nat) ((0 : Int), [])).snd) : Int) == (0 : Int) then
       bif (↑m.length : Int) == (0 : Int) then
       bif e0 == (1 : Int) && (e1 == (2 : Int) && true) then
       bif decide ((0 : Nat) + data.length ≤ data.length) && true then
       (x13 (List.take data.length data, [(0 : Int), (20 : Int)])).bind fun r0 =>
       bif r0.fst then
       (x14 (c0, c1, c2, c3, c4)).bind fun r1 =>
       bif r1.fst == (18 : Int) then some (f0 == (1 : Int) && (f1 == (1 : Int) && true), r1.snd)
       else some (false, r1.snd)
       else some (false, c0, c1, c2, c3, c4)
       else none
       else some (false, c0, c1, c2, c3, c4)
       else some (false, c0, c1, c2, c3, c4)
       else some (false, c0, c1, c2, c3, c4)
       else none
       else none
       else some (false, c0, c1, c2, c3, c4)
       else none
      else none
    else some (false, c0, c1, c2, c3, c4)
theorem r8e (x9 : F9.FT) (x16 : F16.FT) (x10 : F10.FT) (x11 : F11.FT) (x13 : F13.FT) (x14 : F14.FT) (kd : (List (Int × List (Int))) × (List (Int × List (Int))) × (Int × Int) × (Int × Int)) (d : (List (Int) × Int × Int × List (Int) × Bool) × List (Int)) : unitF (tabC Tryd.prog (tab x9 x16 x10 x11 x13 x14) (pls x9 x16 x10 x11 x13 x14) 100 12) 100 .none (u8 fun _ _ => none) (codeAt [1, 1, 1, 1, 1, 1, 1, 1, 0] (bodyOf Tryd.prog 15)) kd d = r8P x9 x16 x10 x11 x13 x14 kd d := by kernel_rfl
noncomputable def r8 : G8 := r8P F9.f F16.f F10.f F11.f F13.f F14.f
noncomputable def l8 : G8 := r8
theorem ok8 : UnOk Tryd.prog (u8 l8) (codeAt [1, 1, 1, 1, 1, 1, 1, 1, 0] (bodyOf Tryd.prog 15)) :=
  blockT (p := .none) (fuel := 100) (depth := 12) mixed tabS plsP trivial (fun kd d => r8e F9.f F16.f F10.f F11.f F13.f F14.f kd d)
def fP (x9 : F9.FT) (x16 : F16.FT) (x10 : F10.FT) (x11 : F11.FT) (x13 : F13.FT) (x14 : F14.FT) (l1 : G1) (l2 : G2) (l3 : G3) (l4 : G4) (l5 : G5) (l6 : G6) (l7 : G7) (l8 : G8) : FT := fun () =>
    (l1 PUnit.unit PUnit.unit).bind fun r0 =>
      (l2 PUnit.unit r0.fst.fst).bind fun r1 =>
       (l3 PUnit.unit r0.fst.snd.fst).bind fun r2 =>
       (l4 PUnit.unit r0.fst.snd.snd.fst).bind fun r3 =>
       (l5 PUnit.unit r0.fst.snd.snd.snd).bind fun r4 =>
       (l6 PUnit.unit r2.snd).bind fun r5 =>
       (l7 PUnit.unit r4.snd).bind fun r6 =>
       bif decide ((0 : Nat) + List.length r1.fst ≤ List.length r1.fst) && true then
       bif decide ((0 : Nat) + List.length r2.fst ≤ List.length r2.fst) && true then
       bif decide ((0 : Nat) + List.length r5.fst.snd ≤ List.length r5.fst.snd) && true then
       (l8
       (List.take (List.length r1.fst) (List.drop (0 : Nat) r1.fst),
       List.take (List.length r2.fst) (List.drop (0 : Nat) r2.fst), r5.fst.fst, r6.fst)
       (r3.snd, List.take (List.length r5.fst.snd) (List.drop (0 : Nat) r5.fst.snd))).bind
       fun r7 => some (r7.fst, PUnit.unit)
       else none
       else none
       else none
theorem fe (x9 : F9.FT) (x16 : F16.FT) (x10 : F10.FT) (x11 : F11.FT) (x13 : F13.FT) (x14 : F14.FT) (l1 : G1) (l2 : G2) (l3 : G3) (l4 : G4) (l5 : G5) (l6 : G6) (l7 : G7) (l8 : G8) (d : Unit) : bodyF (tabC Tryd.prog (tab x9 x16 x10 x11 x13 x14) ((15, (.node .none (.node (.unit (u1 l1)) (.node (.unit (u2 l2)) (.node (.unit (u3 l3)) (.node (.unit (u4 l4)) (.node (.unit (u5 l5)) (.node (.unit (u6 l6)) (.node (.unit (u7 l7)) (.node (.unit (u8 l8)) .none)))))))))) :: pls x9 x16 x10 x11 x13 x14) 100 12) 100 15 i o d = fP x9 x16 x10 x11 x13 x14 l1 l2 l3 l4 l5 l6 l7 l8 d := by kernel_rfl
noncomputable def f : FT := fP F9.f F16.f F10.f F11.f F13.f F14.f l1 l2 l3 l4 l5 l6 l7 l8
def plan (l1 : G1) (l2 : G2) (l3 : G3) (l4 : G4) (l5 : G5) (l6 : G6) (l7 : G7) (l8 : G8) : Plan := (.node .none (.node (.unit (u1 l1)) (.node (.unit (u2 l2)) (.node (.unit (u3 l3)) (.node (.unit (u4 l4)) (.node (.unit (u5 l5)) (.node (.unit (u6 l6)) (.node (.unit (u7 l7)) (.node (.unit (u8 l8)) .none)))))))))
theorem planOk : PlanOk Tryd.prog (plan l1 l2 l3 l4 l5 l6 l7 l8) (bodyOf Tryd.prog 15) := (planOk_of (plan l1 l2 l3 l4 l5 l6 l7 l8) _ [([1, 0], u1 l1), ([1, 1, 0], u2 l2), ([1, 1, 1, 0], u3 l3), ([1, 1, 1, 1, 0], u4 l4), ([1, 1, 1, 1, 1, 0], u5 l5), ([1, 1, 1, 1, 1, 1, 0], u6 l6), ([1, 1, 1, 1, 1, 1, 1, 0], u7 l7), ([1, 1, 1, 1, 1, 1, 1, 1, 0], u8 l8)] rfl ⟨ok1, ok2, ok3, ok4, ok5, ok6, ok7, ok8, trivial⟩)
theorem meets : MeetsF Tryd.prog 15 ⟨i, o, f⟩ :=
  funcT (fuel := 100) (depth := 12) (pl := (15, plan l1 l2 l3 l4 l5 l6 l7 l8) :: pls F9.f F16.f F10.f F11.f F13.f F14.f) mixed tabS ⟨planOk, plsP⟩ (fun d => fe F9.f F16.f F10.f F11.f F13.f F14.f l1 l2 l3 l4 l5 l6 l7 l8 d)
theorem spec : SpecOk Tryd.prog (fun _ => none) 15 (specF ⟨i, o, f⟩) := specF_ok (by kernel_rfl) meets
end Go.Proofs.YtnmgbheaabdhlaaDoor.F15

/- What comes of function 12 of this program, consulate.consulatelaw03.alike, as the engine gives it. -/
namespace Go.Proofs.YtnmgbheaabdhlaaDoor.F12
open Go Go.Proofs Go.Proofs.YtnmgbheaabdhlaaDoor Go.RowKit Go.Proofs.YtnmgbheaabdhlaaDoor.Sx
set_option linter.unusedVariables false
set_option maxRecDepth 100000
def tab (x13 : F13.FT) : List (FuncId × Sx.Spec) := [(13, specF ⟨F13.i, F13.o, x13⟩)]
def pls (x13 : F13.FT) : List (FuncId × Plan) := []
@[reducible] def k1 : Sh := .sl false 52 (.sc (.int .u8) (.sl true 5 (.sc (.int .u8) .nil) .nil)) (.sl false 52 (.sc (.int .u8) (.sl true 5 (.sc (.int .u8) .nil) .nil)) (.sc (.int .i64) .nil))
@[reducible] def i1 : Sh := .sc (.int .i64) .nil
@[reducible] def o1 : Sh := .sc (.int .i64) (.sc .bool .nil)
abbrev G1 := ((List (Int × List (Int))) × (List (Int × List (Int))) × Int) → Int → Option ((Int × Bool) × Unit)
def u1 (F : G1) : Un := ⟨42, [0, 1, 12], k1, [13], i1, [4], o1, [0, 1, 12], [(.exit 0, [false]), (.ret, [true])], F⟩
@[reducible] def i : Sh := .sl false 52 (.sc (.int .u8) (.sl true 5 (.sc (.int .u8) .nil) .nil)) (.sl false 52 (.sc (.int .u8) (.sl true 5 (.sc (.int .u8) .nil) .nil)) .nil)
@[reducible] def o : Sh := .sc .bool .nil
abbrev FT := ((List (Int × List (Int))) × (List (Int × List (Int)))) → Option (Bool × Unit)
theorem tabS : AllS Tryd.prog (tab F13.f) := ⟨F13.spec, trivial⟩
theorem plsP : AllP Tryd.prog (pls F13.f) := trivial
theorem mixed : Tryd.prog.follows .mixedOrders = true := by kernel_rfl
def r1P (x13 : F13.FT) : ((List (Int × List (Int))) × (List (Int × List (Int))) × Int) → Int → Option (Int ⊕ ((Int × Bool) × Unit)) := fun (l, m, t12) t13 =>
    bif decide (t13 < t12) then
      bif decide (0 ≤ t13 ∧ t13 < (↑l.length : Int) ∧ 0 < l.length) then
       bif decide (0 + t13.toNat < l.length) then
       bif decide (0 ≤ t13 ∧ t13 < (↑m.length : Int) ∧ 0 < m.length) then
       bif decide (0 + t13.toNat < m.length) then
       bif (l.getD (0 + t13.toNat) (0, [])).fst != (m.getD (0 + t13.toNat) (0, [])).fst then
       some (Sum.inr ((1, false), PUnit.unit))
       else
       bif decide (0 ≤ t13 ∧ t13 < (↑l.length : Int) ∧ 0 < l.length) then
       bif decide (0 + t13.toNat < l.length) then
       bif decide (0 ≤ t13 ∧ t13 < (↑m.length : Int) ∧ 0 < m.length) then
       bif decide (0 + t13.toNat < m.length) then
       bif
       decide
       (0 + List.length (l.getD (0 + t13.toNat) (0, [])).snd ≤
       List.length (l.getD (0 + t13.toNat) (0, [])).snd) &&
       true then
       bif
       decide
       (0 + List.length (m.getD (0 + t13.toNat) (0, [])).snd ≤
       List.length (m.getD (0 + t13.toNat) (0, [])).snd) &&
       true then
       (x13
       (List.take (List.length (l.getD (0 + t13.toNat) (0, [])).snd)
       (List.drop 0 (l.getD (0 + t13.toNat) (0, [])).snd),
       List.take (List.length (m.getD (0 + t13.toNat) (0, [])).snd)
       (List.drop 0 (m.getD (0 + t13.toNat) (0, [])).snd))).bind
       fun r0 =>
       bif !r0.fst then some (Sum.inr ((1, false), PUnit.unit))
       else some (Sum.inl (IntKind.i64.wrap (t13 + 1)))
       else none
       else none
       else none
       else none
       else none
       else none
       else none
       else none
       else none
      else none
    else some (Sum.inr ((0, false), PUnit.unit))
theorem r1e (x13 : F13.FT) (kd : (List (Int × List (Int))) × (List (Int × List (Int))) × Int) (d : Int) : roundF (tabC Tryd.prog (tab x13) (pls x13) 100 12) 100 .none (u1 fun _ _ => none) (codeAt [1, 1, 0, 1, 0, 0] (bodyOf Tryd.prog 12)) kd d = r1P x13 kd d := by kernel_rfl
noncomputable def r1 : ((List (Int × List (Int))) × (List (Int × List (Int))) × Int) → Int → Option (Int ⊕ ((Int × Bool) × Unit)) := r1P F13.f
noncomputable def l1 : G1 := fun kd d => iterO (r1 kd) d
theorem ok1 : UnOk Tryd.prog (u1 l1) (codeAt [1, 1, 0, 1, 0] (bodyOf Tryd.prog 12)) :=
  loopT (p := .none) (c := codeAt [1, 1, 0, 1, 0, 0] (bodyOf Tryd.prog 12)) (fuel := 100) (depth := 12) mixed tabS plsP (by kernel_rfl) trivial (by kernel_rfl) (fun kd d => r1e F13.f kd d) rfl
def fP (x13 : F13.FT) (l1 : G1) : FT := fun (l, m) =>
    bif (↑l.length : Int) != (↑m.length : Int) then some (false, PUnit.unit)
    else
      bif decide (0 + l.length ≤ l.length) && true then
       bif decide (0 + m.length ≤ m.length) && true then
       (l1 (List.take l.length l, List.take m.length m, (↑l.length : Int)) (OfNat.ofNat 0)).bind fun r0 =>
       bif decide (r0.fst.fst = 0) then some (true, PUnit.unit)
       else bif decide (r0.fst.fst = 1) then some (r0.fst.snd, PUnit.unit) else none
       else none
      else none
theorem fe (x13 : F13.FT) (l1 : G1) (d : (List (Int × List (Int))) × (List (Int × List (Int)))) : bodyF (tabC Tryd.prog (tab x13) ((12, (.node .none (.node .none (.node (.node .none (.node (.unit (u1 l1)) .none)) .none)))) :: pls x13) 100 12) 100 12 i o d = fP x13 l1 d := by kernel_rfl
noncomputable def f : FT := fP F13.f l1
def plan (l1 : G1) : Plan := (.node .none (.node .none (.node (.node .none (.node (.unit (u1 l1)) .none)) .none)))
theorem planOk : PlanOk Tryd.prog (plan l1) (bodyOf Tryd.prog 12) := (planOk_of (plan l1) _ [([1, 1, 0, 1, 0], u1 l1)] rfl ⟨ok1, trivial⟩)
theorem meets : MeetsF Tryd.prog 12 ⟨i, o, f⟩ :=
  funcT (fuel := 100) (depth := 12) (pl := (12, plan l1) :: pls F13.f) mixed tabS ⟨planOk, plsP⟩ (fun d => fe F13.f l1 d)
theorem spec : SpecOk Tryd.prog (fun _ => none) 12 (specF ⟨i, o, f⟩) := specF_ok (by kernel_rfl) meets
end Go.Proofs.YtnmgbheaabdhlaaDoor.F12

/- What comes of function 20 of this program, consulate.consulatelaw03.same, as the engine gives it. -/
namespace Go.Proofs.YtnmgbheaabdhlaaDoor.F20
open Go Go.Proofs Go.Proofs.YtnmgbheaabdhlaaDoor Go.RowKit Go.Proofs.YtnmgbheaabdhlaaDoor.Sx
set_option linter.unusedVariables false
set_option maxRecDepth 100000
def tab (x13 : F13.FT) : List (FuncId × Sx.Spec) := [(13, specF ⟨F13.i, F13.o, x13⟩)]
def pls (x13 : F13.FT) : List (FuncId × Plan) := []
@[reducible] def k1 : Sh := .sl false 52 (.sc (.int .u8) (.sl true 5 (.sc (.int .u8) .nil) .nil)) (.sl false 58 (.sc (.int .u8) (.sl false 5 (.sc (.int .u8) .nil) .nil)) (.sc (.int .i64) .nil))
@[reducible] def i1 : Sh := .sc (.int .i64) .nil
@[reducible] def o1 : Sh := .sc (.int .i64) (.sc .bool .nil)
abbrev G1 := ((List (Int × List (Int))) × (List (Int × List (Int))) × Int) → Int → Option ((Int × Bool) × Unit)
def u1 (F : G1) : Un := ⟨42, [0, 1, 12], k1, [13], i1, [4], o1, [0, 1, 12], [(.exit 0, [false]), (.ret, [true])], F⟩
@[reducible] def i : Sh := .sl false 52 (.sc (.int .u8) (.sl true 5 (.sc (.int .u8) .nil) .nil)) (.sl false 58 (.sc (.int .u8) (.sl false 5 (.sc (.int .u8) .nil) .nil)) .nil)
@[reducible] def o : Sh := .sc .bool .nil
abbrev FT := ((List (Int × List (Int))) × (List (Int × List (Int)))) → Option (Bool × Unit)
theorem tabS : AllS Tryd.prog (tab F13.f) := ⟨F13.spec, trivial⟩
theorem plsP : AllP Tryd.prog (pls F13.f) := trivial
theorem mixed : Tryd.prog.follows .mixedOrders = true := by kernel_rfl
def r1P (x13 : F13.FT) : ((List (Int × List (Int))) × (List (Int × List (Int))) × Int) → Int → Option (Int ⊕ ((Int × Bool) × Unit)) := fun (l, w, t12) t13 =>
    bif decide (t13 < t12) then
      bif decide (0 ≤ t13 ∧ t13 < (↑l.length : Int) ∧ 0 < l.length) then
       bif decide (0 + t13.toNat < l.length) then
       bif decide (0 ≤ t13 ∧ t13 < (↑w.length : Int) ∧ 0 < w.length) then
       bif decide (0 + t13.toNat < w.length) then
       bif (l.getD (0 + t13.toNat) (0, [])).fst != (w.getD (0 + t13.toNat) (0, [])).fst then
       some (Sum.inr ((1, false), PUnit.unit))
       else
       bif decide (0 ≤ t13 ∧ t13 < (↑l.length : Int) ∧ 0 < l.length) then
       bif decide (0 + t13.toNat < l.length) then
       bif decide (0 ≤ t13 ∧ t13 < (↑w.length : Int) ∧ 0 < w.length) then
       bif decide (0 + t13.toNat < w.length) then
       bif
       decide
       (0 + List.length (l.getD (0 + t13.toNat) (0, [])).snd ≤
       List.length (l.getD (0 + t13.toNat) (0, [])).snd) &&
       true then
       bif
       decide
       (0 + List.length (w.getD (0 + t13.toNat) (0, [])).snd ≤
       List.length (w.getD (0 + t13.toNat) (0, [])).snd) &&
       true then
       (x13
       (List.take (List.length (l.getD (0 + t13.toNat) (0, [])).snd)
       (List.drop 0 (l.getD (0 + t13.toNat) (0, [])).snd),
       List.take (List.length (w.getD (0 + t13.toNat) (0, [])).snd)
       (List.drop 0 (w.getD (0 + t13.toNat) (0, [])).snd))).bind
       fun r0 =>
       bif !r0.fst then some (Sum.inr ((1, false), PUnit.unit))
       else some (Sum.inl (IntKind.i64.wrap (t13 + 1)))
       else none
       else none
       else none
       else none
       else none
       else none
       else none
       else none
       else none
      else none
    else some (Sum.inr ((0, false), PUnit.unit))
theorem r1e (x13 : F13.FT) (kd : (List (Int × List (Int))) × (List (Int × List (Int))) × Int) (d : Int) : roundF (tabC Tryd.prog (tab x13) (pls x13) 100 12) 100 .none (u1 fun _ _ => none) (codeAt [1, 1, 0, 1, 0, 0] (bodyOf Tryd.prog 20)) kd d = r1P x13 kd d := by kernel_rfl
noncomputable def r1 : ((List (Int × List (Int))) × (List (Int × List (Int))) × Int) → Int → Option (Int ⊕ ((Int × Bool) × Unit)) := r1P F13.f
noncomputable def l1 : G1 := fun kd d => iterO (r1 kd) d
theorem ok1 : UnOk Tryd.prog (u1 l1) (codeAt [1, 1, 0, 1, 0] (bodyOf Tryd.prog 20)) :=
  loopT (p := .none) (c := codeAt [1, 1, 0, 1, 0, 0] (bodyOf Tryd.prog 20)) (fuel := 100) (depth := 12) mixed tabS plsP (by kernel_rfl) trivial (by kernel_rfl) (fun kd d => r1e F13.f kd d) rfl
def fP (x13 : F13.FT) (l1 : G1) : FT := fun (l, w) =>
    bif (↑l.length : Int) != (↑w.length : Int) then some (false, PUnit.unit)
    else
      bif decide (0 + l.length ≤ l.length) && true then
       bif decide (0 + w.length ≤ w.length) && true then
       (l1 (List.take l.length l, List.take w.length w, (↑l.length : Int)) (OfNat.ofNat 0)).bind fun r0 =>
       bif decide (r0.fst.fst = 0) then some (true, PUnit.unit)
       else bif decide (r0.fst.fst = 1) then some (r0.fst.snd, PUnit.unit) else none
       else none
      else none
theorem fe (x13 : F13.FT) (l1 : G1) (d : (List (Int × List (Int))) × (List (Int × List (Int)))) : bodyF (tabC Tryd.prog (tab x13) ((20, (.node .none (.node .none (.node (.node .none (.node (.unit (u1 l1)) .none)) .none)))) :: pls x13) 100 12) 100 20 i o d = fP x13 l1 d := by kernel_rfl
noncomputable def f : FT := fP F13.f l1
def plan (l1 : G1) : Plan := (.node .none (.node .none (.node (.node .none (.node (.unit (u1 l1)) .none)) .none)))
theorem planOk : PlanOk Tryd.prog (plan l1) (bodyOf Tryd.prog 20) := (planOk_of (plan l1) _ [([1, 1, 0, 1, 0], u1 l1)] rfl ⟨ok1, trivial⟩)
theorem meets : MeetsF Tryd.prog 20 ⟨i, o, f⟩ :=
  funcT (fuel := 100) (depth := 12) (pl := (20, plan l1) :: pls F13.f) mixed tabS ⟨planOk, plsP⟩ (fun d => fe F13.f l1 d)
theorem spec : SpecOk Tryd.prog (fun _ => none) 20 (specF ⟨i, o, f⟩) := specF_ok (by kernel_rfl) meets
end Go.Proofs.YtnmgbheaabdhlaaDoor.F20

/- Chapter 3: the other calls; what the document's examples say. -/
namespace Go.Proofs.YtnmgbheaabdhlaaDoor.PD
open Go Go.Proofs Go.Proofs.YtnmgbheaabdhlaaDoor.Sx Go.Proofs.YtnmgbheaabdhlaaDoor.PA Go.Proofs.YtnmgbheaabdhlaaDoor.PB Go.Proofs.YtnmgbheaabdhlaaDoor.PC
set_option linter.unusedSimpArgs false
set_option linter.unusedVariables false
theorem equalP (a : List Int) : F13.f (a, a) = some (true, ()) := by
  unfold F13.f F13.fP
  simp only [le_all, cond_true, beq_self_eq_true]
theorem getN {α : Type} {l : List α} {i : Nat} {d : α} (h : i < l.length) : l.getD (0 + (i : Int).toNat) d = l[i] := by
  rw [show 0 + (i : Int).toNat = i by omega, List.getD_eq_getElem?_getD, List.getElem?_eq_getElem h]
  rfl
theorem eq_round (l : List Msg) (i : Nat) (h : i < l.length) (hl : l.length ≤ 1000000) : F20.r1 (l, l, (l.length : Int)) (i : Int) = some (.inl ((i + 1 : Nat) : Int)) := by
  unfold F20.r1 F20.r1P
  have c1 : decide ((i : Int) < (l.length : Int)) = true := decide_eq_true (by omega)
  have c2 : decide (0 ≤ (i : Int) ∧ (i : Int) < (l.length : Int) ∧ 0 < l.length) = true := decide_eq_true (by omega)
  have c3 : decide (0 + (i : Int).toNat < l.length) = true := decide_eq_true (by omega)
  have c4 : ∀ x : Int, (x != x) = false := fun x => by simp
  simp only [c1, c2, c3, c4, getN h, le_all, take_all, equalP, Option.bind_some, cond_true, cond_false, Bool.and_true, Bool.not_true]
  rw [wrap64_id (by omega)]
  rfl
theorem sameP (l : List Msg) (hl : l.length ≤ 1000000) : F20.f (l, l) = some (true, ()) := by
  obtain ⟨r, e, hr⟩ := iterO_inv (f := F20.r1 (l, l, (l.length : Int))) (fun z => 0 ≤ z ∧ z ≤ l.length) (fun z => l.length - z.toNat) (fun r => r = ((0, false), ())) (by
    rintro z ⟨z0, z1⟩
    obtain ⟨i, rfl⟩ := Int.eq_ofNat_of_zero_le z0
    by_cases h : i < l.length
    · exact .inl ⟨((i + 1 : Nat) : Int), eq_round l i h hl, ⟨by omega, by omega⟩, by omega⟩
    · right
      refine ⟨((0, false), ()), ?_, rfl⟩
      unfold F20.r1 F20.r1P
      have c1 : decide ((i : Int) < (l.length : Int)) = false := decide_eq_false (by omega)
      simp only [c1, cond_false]) 0 ⟨by omega, by omega⟩
  subst hr
  have e : F20.l1 (l, l, (l.length : Int)) 0 = some ((0, false), ()) := e
  unfold F20.f F20.fP
  simp only [bne_self_eq_false, cond_false, le_all, cond_true, Bool.and_true, List.take_length, e, Option.bind_some]
  rfl
theorem eq_round12 (l : List Msg) (i : Nat) (h : i < l.length) (hl : l.length ≤ 1000000) : F12.r1 (l, l, (l.length : Int)) (i : Int) = some (.inl ((i + 1 : Nat) : Int)) := by
  unfold F12.r1 F12.r1P
  have c1 : decide ((i : Int) < (l.length : Int)) = true := decide_eq_true (by omega)
  have c2 : decide (0 ≤ (i : Int) ∧ (i : Int) < (l.length : Int) ∧ 0 < l.length) = true := decide_eq_true (by omega)
  have c3 : decide (0 + (i : Int).toNat < l.length) = true := decide_eq_true (by omega)
  have c4 : ∀ x : Int, (x != x) = false := fun x => by simp
  simp only [c1, c2, c3, c4, getN h, le_all, take_all, equalP, Option.bind_some, cond_true, cond_false, Bool.and_true, Bool.not_true]
  rw [wrap64_id (by omega)]
  rfl
theorem alikeP (l : List Msg) (hl : l.length ≤ 1000000) : F12.f (l, l) = some (true, ()) := by
  obtain ⟨r, e, hr⟩ := iterO_inv (f := F12.r1 (l, l, (l.length : Int))) (fun z => 0 ≤ z ∧ z ≤ l.length) (fun z => l.length - z.toNat) (fun r => r = ((0, false), ())) (by
    rintro z ⟨z0, z1⟩
    obtain ⟨i, rfl⟩ := Int.eq_ofNat_of_zero_le z0
    by_cases h : i < l.length
    · exact .inl ⟨((i + 1 : Nat) : Int), eq_round12 l i h hl, ⟨by omega, by omega⟩, by omega⟩
    · right
      refine ⟨((0, false), ()), ?_, rfl⟩
      unfold F12.r1 F12.r1P
      have c1 : decide ((i : Int) < (l.length : Int)) = false := decide_eq_false (by omega)
      simp only [c1, cond_false]) 0 ⟨by omega, by omega⟩
  subst hr
  have e : F12.l1 (l, l, (l.length : Int)) 0 = some ((0, false), ()) := e
  unfold F12.f F12.fP
  simp only [bne_self_eq_false, cond_false, le_all, cond_true, Bool.and_true, List.take_length, e, Option.bind_some]
  rfl
theorem faultP {b : List Int} {c s : Int} {d : List Int} (h : d.length ≤ 1000) : F11.f (b, c, s, d, true) = some (((c, s), d), b, c, s, d, true) := by
  unfold F11.f F11.fP
  simp only [Bool.not_true, cond_false, le_all, cond_true, Bool.and_true, List.take_length, clone (l := d) (by omega), Option.bind_some, take_all]
theorem waitsP {b : List Int} {c s : Int} {d : List Int} : F14.f (b, c, s, d, true) = some ((b.length : Int), b, c, s, d, true) := by
  unfold F14.f F14.fP
  simp only [Bool.not_true, cond_false, le_all, cond_true, Bool.and_true, List.take_length]
theorem newP : F9.f () = some (some (W []), ()) := rfl
theorem onesP {n : Nat} {more : List Int} (hn : n = 16 ∨ n = 18) (hm : more.length ≤ 1000) : F16.f ((n : Int), more) = some (List.replicate n 255 ++ more, ()) := by
  unfold F16.f F16.fP
  have h37 : F37.f ([255], (n : Int)) = some (List.replicate n 255, ()) := by rcases hn with rfl | rfl <;> rfl
  have hl : (List.replicate n (255 : Int)).length = n := List.length_replicate
  have c1 : decide ((List.replicate n (255 : Int)).length + more.length ≤ 1073741824) = true := decide_eq_true (by rw [hl]; omega)
  have e1 : (List.replicate n (255 : Int)).length + more.length = (List.replicate n (255 : Int) ++ more).length := by rw [List.length_append]
  rw [e1] at c1
  simp only [h37, Option.bind_some, le_all, cond_true, Bool.and_true, List.take_length, take_all, e1, c1]
abbrev ones16 (more : List Int) : List Int := List.replicate 16 255 ++ more
theorem hdA : hd (List.replicate 16 255 ++ [0, 19, 4]) = .msg 19 4 := by kernel_rfl
theorem hdB : hd (List.replicate 16 255 ++ [0, 20, 4]) = .fault 2 [0, 20] := by kernel_rfl
theorem hdC : hd (List.replicate 18 255 ++ []) = .wait := by kernel_rfl
theorem hdD : hd [0, 0, 0, 0, 0, 0, 0, 0, 0, 0, 0, 0, 0, 0, 0, 0, 0, 0, 0] = .fault 1 [] := by kernel_rfl
theorem bytes_of {l : List Int} (h : (l.all fun x => decide (0 ≤ x ∧ x ≤ 255)) = true) : Bytes l := fun x hx => by simpa using List.all_eq_true.1 h x hx
theorem wakes : F15.f () = some (true, ()) := by
  unfold F15.f F15.fP
  have n1 : F15.l1 () () = some ((W [], W [], W [], W []), ()) := rfl
  have n2 : F15.l2 () (W []) = some ([(4, [])], W []) := by
    unfold F15.l2 F15.r2 F15.r2P
    have o : F16.f ((16 : Int), [0, 19, 4]) = some (List.replicate 16 255 ++ [0, 19, 4], ()) := onesP (n := 16) (.inl rfl) (by simp)
    have f := feedP (st := W []) (c := List.replicate 16 255 ++ [0, 19, 4]) (.inl ⟨[], rfl⟩) (bytes_of (by decide)) (by decide)
    have e : feed (W []) (List.replicate 16 255 ++ [0, 19, 4]) = ([(4, [])], W []) := by
      show parse ([] ++ (List.replicate 16 255 ++ [0, 19, 4])) = _
      rw [List.nil_append, parse_msg hdA]
      have : hd (List.drop 19 (List.replicate 16 255 ++ [0, 19, 4])) = .wait := by kernel_rfl
      rw [parse_wait this]
      rfl
    rw [e] at f
    simp only [o, Option.bind_some, le_all, cond_true, Bool.and_true, take_all, f]
  have n3 : F15.l3 () (W []) = some ([], Fa 2 [0, 20]) := by
    unfold F15.l3 F15.r3 F15.r3P
    have o : F16.f ((16 : Int), [0, 20, 4]) = some (List.replicate 16 255 ++ [0, 20, 4], ()) := onesP (n := 16) (.inl rfl) (by simp)
    have f := feedP (st := W []) (c := List.replicate 16 255 ++ [0, 20, 4]) (.inl ⟨[], rfl⟩) (bytes_of (by decide)) (by decide)
    have e : feed (W []) (List.replicate 16 255 ++ [0, 20, 4]) = ([], Fa 2 [0, 20]) := by
      show parse ([] ++ (List.replicate 16 255 ++ [0, 20, 4])) = _
      rw [List.nil_append, parse_fault hdB]
    rw [e] at f
    simp only [o, Option.bind_some, le_all, cond_true, Bool.and_true, take_all, f]
  have n4 : F15.l4 () (W []) = some ((), W (List.replicate 18 255 ++ [])) := by
    unfold F15.l4 F15.r4 F15.r4P
    have o : F16.f ((18 : Int), []) = some (List.replicate 18 255 ++ [], ()) := onesP (n := 18) (.inr rfl) (by simp)
    have f := feedP (st := W []) (c := List.replicate 18 255 ++ []) (.inl ⟨[], rfl⟩) (bytes_of (by decide)) (by decide)
    have e : feed (W []) (List.replicate 18 255 ++ []) = ([], W (List.replicate 18 255 ++ [])) := by
      show parse ([] ++ (List.replicate 18 255 ++ [])) = _
      rw [List.nil_append, parse_wait hdC]
    rw [e] at f
    simp only [o, Option.bind_some, le_all, cond_true, Bool.and_true, take_all, f]
  have n5 : F15.l5 () (W []) = some ((), Fa 1 []) := by
    unfold F15.l5 F15.r5 F15.r5P
    have f := feedP (st := W []) (c := [0, 0, 0, 0, 0, 0, 0, 0, 0, 0, 0, 0, 0, 0, 0, 0, 0, 0, 0]) (.inl ⟨[], rfl⟩) (bytes_of (by decide)) (by decide)
    have e : feed (W []) [0, 0, 0, 0, 0, 0, 0, 0, 0, 0, 0, 0, 0, 0, 0, 0, 0, 0, 0] = ([], Fa 1 []) := by
      show parse ([] ++ [0, 0, 0, 0, 0, 0, 0, 0, 0, 0, 0, 0, 0, 0, 0, 0, 0, 0, 0]) = _
      rw [List.nil_append, parse_fault hdD]
    rw [e] at f
    simp only [f, Option.bind_some]
  have n6 : F15.l6 () (Fa 2 [0, 20]) = some (((1, 2), [0, 20]), Fa 2 [0, 20]) := by
    unfold F15.l6 F15.r6 F15.r6P
    simp only [faultP (b := []) (c := 1) (s := 2) (d := [0, 20]) (by simp), Option.bind_some, le_all, cond_true, Bool.and_true, take_all]
  have n7 : F15.l7 () (Fa 1 []) = some ((1, 1), Fa 1 []) := by
    unfold F15.l7 F15.r7 F15.r7P
    simp only [faultP (b := []) (c := 1) (s := 1) (d := []) (by simp), Option.bind_some]
  have n8 : F15.l8 ([(4, [])], [], (1, 2), (1, 1)) (W (List.replicate 18 255 ++ []), [0, 20]) = some (true, W (List.replicate 18 255 ++ [])) := by
    unfold F15.l8 F15.r8 F15.r8P
    have q := equalP [0, 20]
    have v := waitsP (b := List.replicate 18 255 ++ []) (c := 0) (s := 0) (d := [])
    simp only [le_all, cond_true, Bool.and_true, List.take_length, q, Option.bind_some, v]
    rfl
  simp only [n1, n2, n3, n4, n5, n6, n7, n8, Option.bind_some, le_all, cond_true, Bool.and_true, take_all]
end Go.Proofs.YtnmgbheaabdhlaaDoor.PD

/- What stands on its own: function 15 says true. -/
namespace Go.Proofs.YtnmgbheaabdhlaaDoor.KA
open Go Go.Proofs Go.Proofs.YtnmgbheaabdhlaaDoor Go.RowKit Go.Proofs.YtnmgbheaabdhlaaDoor.Sx
theorem tells (W : World) (hW : GlobW W) : Calls Tryd.prog 15 #[] W (Law.Told W) :=
  law_of_F (H := Unit) (enc := fun _ => ()) (S := F15.i) (deep := true) (ts := []) (b := 0) (r := .any) (base := 0) (spare := fun _ => true) (held := true) (ds := []) (p := []) F15.meets (by kernel_rfl) (by kernel_rfl) (fun d _ => ⟨(), by cases d; exact PD.wakes⟩)
    (fun j t v h => by simp at h) (by constructor) hW
end Go.Proofs.YtnmgbheaabdhlaaDoor.KA

/- What comes of function 4 of this program, consulate.consulatelaw03.FrameEnds, as the engine gives it. -/
namespace Go.Proofs.YtnmgbheaabdhlaaDoor.F4
open Go Go.Proofs Go.Proofs.YtnmgbheaabdhlaaDoor Go.RowKit Go.Proofs.YtnmgbheaabdhlaaDoor.Sx
set_option linter.unusedVariables false
set_option maxRecDepth 100000
def tab (x9 : F9.FT) (x10 : F10.FT) (x14 : F14.FT) (x11 : F11.FT) (x16 : F16.FT) (x13 : F13.FT) : List (FuncId × Sx.Spec) := [(9, specF ⟨F9.i, F9.o, x9⟩), (10, specF ⟨F10.i, F10.o, x10⟩), (14, specF ⟨F14.i, F14.o, x14⟩), (11, specF ⟨F11.i, F11.o, x11⟩), (16, specF ⟨F16.i, F16.o, x16⟩), (13, specF ⟨F13.i, F13.o, x13⟩), (15, pureS saysS)]
def pls (x9 : F9.FT) (x10 : F10.FT) (x14 : F14.FT) (x11 : F11.FT) (x16 : F16.FT) (x13 : F13.FT) : List (FuncId × Plan) := []
@[reducible] def k1 : Sh := .nil
@[reducible] def i1 : Sh := .nil
@[reducible] def o1 : Sh := .pt true 61 (.sl true 5 (.sc (.int .u8) .nil) (.sc (.int .u8) (.sc (.int .u8) (.sl true 5 (.sc (.int .u8) .nil) (.sc .bool .nil))))) .nil
abbrev G1 := Unit → Unit → Option (((List (Int) × Int × Int × List (Int) × Bool)) × Unit)
def u1 (F : G1) : Un := ⟨170, [], k1, [], i1, [5], o1, [1, 2], [(.normal, [true])], F⟩
@[reducible] def k2 : Sh := .nil
@[reducible] def i2 : Sh := .pt true 61 (.sl true 5 (.sc (.int .u8) .nil) (.sc (.int .u8) (.sc (.int .u8) (.sl true 5 (.sc (.int .u8) .nil) (.sc .bool .nil))))) .nil
@[reducible] def o2 : Sh := .pt true 30 (.sc (.int .u8) (.sc (.int .u8) .nil)) .nil
abbrev G2 := Unit → ((List (Int) × Int × Int × List (Int) × Bool)) → Option (((Int × Int)) × ((List (Int) × Int × Int × List (Int) × Bool)))
def u2 (F : G2) : Un := ⟨170, [], k2, [5], i2, [6], o2, [1, 2, 5], [(.normal, [true])], F⟩
@[reducible] def k3 : Sh := .nil
@[reducible] def i3 : Sh := .pt true 61 (.sl true 5 (.sc (.int .u8) .nil) (.sc (.int .u8) (.sc (.int .u8) (.sl true 5 (.sc (.int .u8) .nil) (.sc .bool .nil))))) .nil
@[reducible] def o3 : Sh := .pt true 30 (.sc (.int .u8) (.sc (.int .u8) .nil)) (.sl true 5 (.sc (.int .u8) .nil) .nil)
abbrev G3 := Unit → ((List (Int) × Int × Int × List (Int) × Bool)) → Option (((Int × Int) × List (Int)) × ((List (Int) × Int × Int × List (Int) × Bool)))
def u3 (F : G3) : Un := ⟨170, [], k3, [5], i3, [9, 10], o3, [1, 2, 5, 8], [(.normal, [true, true])], F⟩
@[reducible] def k4 : Sh := .nil
@[reducible] def i4 : Sh := .sl false 5 (.sc (.int .u8) .nil) .nil
@[reducible] def o4 : Sh := .sl false 5 (.sc (.int .u8) .nil) .nil
abbrev G4 := Unit → List (Int) → Option (List (Int) × Unit)
def u4 (F : G4) : Un := ⟨170, [], k4, [1], i4, [1], o4, [2, 5, 8, 9, 10], [(.normal, [true])], F⟩
@[reducible] def k5 : Sh := .sl true 52 (.sc (.int .u8) (.sl true 5 (.sc (.int .u8) .nil) .nil)) (.sc (.int .i64) .nil)
@[reducible] def i5 : Sh := .pt true 61 (.sl true 5 (.sc (.int .u8) .nil) (.sc (.int .u8) (.sc (.int .u8) (.sl true 5 (.sc (.int .u8) .nil) (.sc .bool .nil))))) .nil
@[reducible] def o5 : Sh := .sc .bool .nil
abbrev G5 := ((List (Int × List (Int))) × Int) → ((List (Int) × Int × Int × List (Int) × Bool)) → Option (Bool × ((List (Int) × Int × Int × List (Int) × Bool)))
def u5 (F : G5) : Un := ⟨170, [8, 11], k5, [5], i5, [12], o5, [2, 5, 8, 11], [(.normal, [true])], F⟩
@[reducible] def k6 : Sh := .sl false 5 (.sc (.int .u8) .nil) .nil
@[reducible] def i6 : Sh := .pt true 61 (.sl true 5 (.sc (.int .u8) .nil) (.sc (.int .u8) (.sc (.int .u8) (.sl true 5 (.sc (.int .u8) .nil) (.sc .bool .nil))))) .nil
@[reducible] def o6 : Sh := .sl true 52 (.sc (.int .u8) (.sl true 5 (.sc (.int .u8) .nil) .nil)) .nil
abbrev G6 := List (Int) → ((List (Int) × Int × Int × List (Int) × Bool)) → Option (((List (Int × List (Int)))) × ((List (Int) × Int × Int × List (Int) × Bool)))
def u6 (F : G6) : Un := ⟨170, [1], k6, [5], i6, [13], o6, [5, 8, 9, 10], [(.normal, [true])], F⟩
@[reducible] def k7 : Sh := .nil
@[reducible] def i7 : Sh := .pt true 61 (.sl true 5 (.sc (.int .u8) .nil) (.sc (.int .u8) (.sc (.int .u8) (.sl true 5 (.sc (.int .u8) .nil) (.sc .bool .nil))))) .nil
@[reducible] def o7 : Sh := .pt true 30 (.sc (.int .u8) (.sc (.int .u8) .nil)) (.sl true 5 (.sc (.int .u8) .nil) .nil)
abbrev G7 := Unit → ((List (Int) × Int × Int × List (Int) × Bool)) → Option (((Int × Int) × List (Int)) × ((List (Int) × Int × Int × List (Int) × Bool)))
def u7 (F : G7) : Un := ⟨170, [], k7, [5], i7, [14, 15], o7, [5, 8, 9, 10, 13], [(.normal, [true, true])], F⟩
@[reducible] def k8 : Sh := .sl true 52 (.sc (.int .u8) (.sl true 5 (.sc (.int .u8) .nil) .nil)) (.pt true 30 (.sc (.int .u8) (.sc (.int .u8) .nil)) (.sl true 52 (.sc (.int .u8) (.sl true 5 (.sc (.int .u8) .nil) .nil)) (.pt true 30 (.sc (.int .u8) (.sc (.int .u8) .nil)) .nil)))
@[reducible] def i8 : Sh := .pt true 61 (.sl true 5 (.sc (.int .u8) .nil) (.sc (.int .u8) (.sc (.int .u8) (.sl true 5 (.sc (.int .u8) .nil) (.sc .bool .nil))))) (.sl true 5 (.sc (.int .u8) .nil) (.sl true 5 (.sc (.int .u8) .nil) .nil))
@[reducible] def o8 : Sh := .sc .bool .nil
abbrev G8 := ((List (Int × List (Int))) × (Int × Int) × (List (Int × List (Int))) × (Int × Int)) → ((List (Int) × Int × Int × List (Int) × Bool) × List (Int) × List (Int)) → Option (Bool × ((List (Int) × Int × Int × List (Int) × Bool)))
def u8 (F : G8) : Un := ⟨170, [8, 9, 13, 14], k8, [5, 10, 15], i8, [4], o8, [], [(.normal, [true])], F⟩
@[reducible] def i : Sh := .ag none (.sc (.int .u8) (.sc (.int .u8) (.sc (.int .u8) (.sc (.int .u8) (.sc (.int .u8) (.sc (.int .u8) (.sc (.int .u8) (.sc (.int .u8) (.sc (.int .u8) (.sc (.int .u8) (.sc (.int .u8) (.sc (.int .u8) (.sc (.int .u8) (.sc (.int .u8) (.sc (.int .u8) (.sc (.int .u8) (.sc (.int .u8) (.sc (.int .u8) (.sc (.int .u8) .nil))))))))))))))))))) (.sl false 5 (.sc (.int .u8) .nil) .nil)
@[reducible] def o : Sh := .sc .bool .nil
abbrev FT := ((Int × Int × Int × Int × Int × Int × Int × Int × Int × Int × Int × Int × Int × Int × Int × Int × Int × Int × Int) × List (Int)) → Option (Bool × Unit)
theorem tabS : AllS Tryd.prog (tab F9.f F10.f F14.f F11.f F16.f F13.f) := ⟨F9.spec, F10.spec, F14.spec, F11.spec, F16.spec, F13.spec, says_ok (by kernel_rfl) KA.tells, trivial⟩
theorem plsP : AllP Tryd.prog (pls F9.f F10.f F14.f F11.f F16.f F13.f) := trivial
theorem mixed : Tryd.prog.follows .mixedOrders = true := by kernel_rfl
def r1P (x9 : F9.FT) (x10 : F10.FT) (x14 : F14.FT) (x11 : F11.FT) (x16 : F16.FT) (x13 : F13.FT) : G1 := fun () () =>
    (x9 PUnit.unit).bind fun r0 =>
      bif Option.isSome r0.fst then some (Option.getD r0.fst ([], (0 : Int), (0 : Int), [], false), PUnit.unit) else none
theorem r1e (x9 : F9.FT) (x10 : F10.FT) (x14 : F14.FT) (x11 : F11.FT) (x16 : F16.FT) (x13 : F13.FT) (kd : Unit) (d : Unit) : unitF (tabC Tryd.prog (tab x9 x10 x14 x11 x16 x13) (pls x9 x10 x14 x11 x16 x13) 100 12) 100 .none (u1 fun _ _ => none) (codeAt [1, 0] (bodyOf Tryd.prog 4)) kd d = r1P x9 x10 x14 x11 x16 x13 kd d := by kernel_rfl
noncomputable def r1 : G1 := r1P F9.f F10.f F14.f F11.f F16.f F13.f
noncomputable def l1 : G1 := r1
theorem ok1 : UnOk Tryd.prog (u1 l1) (codeAt [1, 0] (bodyOf Tryd.prog 4)) :=
  blockT (p := .none) (fuel := 100) (depth := 12) mixed tabS plsP trivial (fun kd d => Eq.trans (by kernel_rfl) ( r1e F9.f F10.f F14.f F11.f F16.f F13.f kd d))
def r2P (x9 : F9.FT) (x10 : F10.FT) (x14 : F14.FT) (x11 : F11.FT) (x16 : F16.FT) (x13 : F13.FT) : G2 := fun () (i0_2, i1_2, i2_2, i3_2, i4_2) =>
    (x11 (i0_2, i1_2, i2_2, i3_2, i4_2)).bind fun r0 => some ((r0.fst.fst.fst, r0.fst.fst.snd), r0.snd)
theorem r2e (x9 : F9.FT) (x10 : F10.FT) (x14 : F14.FT) (x11 : F11.FT) (x16 : F16.FT) (x13 : F13.FT) (kd : Unit) (d : (List (Int) × Int × Int × List (Int) × Bool)) : unitF (tabC Tryd.prog (tab x9 x10 x14 x11 x16 x13) (pls x9 x10 x14 x11 x16 x13) 100 12) 100 .none (u2 fun _ _ => none) (codeAt [1, 1, 1, 0, 0] (bodyOf Tryd.prog 4)) kd d = r2P x9 x10 x14 x11 x16 x13 kd d := by kernel_rfl
noncomputable def r2 : G2 := r2P F9.f F10.f F14.f F11.f F16.f F13.f
noncomputable def l2 : G2 := r2
theorem ok2 : UnOk Tryd.prog (u2 l2) (codeAt [1, 1, 1, 0, 0] (bodyOf Tryd.prog 4)) :=
  blockT (p := .none) (fuel := 100) (depth := 12) mixed tabS plsP trivial (fun kd d => Eq.trans (by kernel_rfl) ( r2e F9.f F10.f F14.f F11.f F16.f F13.f kd d))
def r3P (x9 : F9.FT) (x10 : F10.FT) (x14 : F14.FT) (x11 : F11.FT) (x16 : F16.FT) (x13 : F13.FT) : G3 := fun () (i0_2, i1_2, i2_2, i3_2, i4_2) =>
    (x11 (i0_2, i1_2, i2_2, i3_2, i4_2)).bind fun r0 =>
      bif decide ((0 : Nat) + List.length r0.fst.snd ≤ List.length r0.fst.snd) && true then
       some
       (((r0.fst.fst.fst, r0.fst.fst.snd), List.take (List.length r0.fst.snd) (List.drop (0 : Nat) r0.fst.snd)),
       r0.snd)
      else none
theorem r3e (x9 : F9.FT) (x10 : F10.FT) (x14 : F14.FT) (x11 : F11.FT) (x16 : F16.FT) (x13 : F13.FT) (kd : Unit) (d : (List (Int) × Int × Int × List (Int) × Bool)) : unitF (tabC Tryd.prog (tab x9 x10 x14 x11 x16 x13) (pls x9 x10 x14 x11 x16 x13) 100 12) 100 .none (u3 fun _ _ => none) (codeAt [1, 1, 1, 1, 1, 0] (bodyOf Tryd.prog 4)) kd d = r3P x9 x10 x14 x11 x16 x13 kd d := by kernel_rfl
noncomputable def r3 : G3 := r3P F9.f F10.f F14.f F11.f F16.f F13.f
noncomputable def l3 : G3 := r3
theorem ok3 : UnOk Tryd.prog (u3 l3) (codeAt [1, 1, 1, 1, 1, 0] (bodyOf Tryd.prog 4)) :=
  blockT (p := .none) (fuel := 100) (depth := 12) mixed tabS plsP trivial (fun kd d => Eq.trans (by kernel_rfl) ( r3e F9.f F10.f F14.f F11.f F16.f F13.f kd d))
def r4P (x9 : F9.FT) (x10 : F10.FT) (x14 : F14.FT) (x11 : F11.FT) (x16 : F16.FT) (x13 : F13.FT) : G4 := fun () behind =>
    bif
       decide
       ((0 : Int) ≤
       (some (if (100 : Int) < (↑behind.length : Int) then (100 : Int) else (↑behind.length : Int))).getD
       (↑behind.length : Int) ∧
       (some (if (100 : Int) < (↑behind.length : Int) then (100 : Int) else (↑behind.length : Int))).getD
       (↑behind.length : Int) ≤
       (↑behind.length : Int) ∧
       (0 : Nat) + behind.length ≤ behind.length) then
      bif
       decide
       ((0 : Nat) +
       ((some (if (100 : Int) < (↑behind.length : Int) then (100 : Int) else (↑behind.length : Int))).getD
       (↑behind.length : Int)).toNat ≤
       behind.length) &&
       true then
       some
       (List.take
       ((some (if (100 : Int) < (↑behind.length : Int) then (100 : Int) else (↑behind.length : Int))).getD
       (↑behind.length : Int)).toNat
       behind,
       PUnit.unit)
      else none
    else none
theorem r4e (x9 : F9.FT) (x10 : F10.FT) (x14 : F14.FT) (x11 : F11.FT) (x16 : F16.FT) (x13 : F13.FT) (kd : Unit) (d : List (Int)) : unitF (tabC Tryd.prog (tab x9 x10 x14 x11 x16 x13) (pls x9 x10 x14 x11 x16 x13) 100 12) 100 .none (u4 fun _ _ => none) (codeAt [1, 1, 1, 1, 1, 1, 0] (bodyOf Tryd.prog 4)) kd d = r4P x9 x10 x14 x11 x16 x13 kd d := by kernel_rfl
noncomputable def r4 : G4 := r4P F9.f F10.f F14.f F11.f F16.f F13.f
noncomputable def l4 : G4 := r4
theorem ok4 : UnOk Tryd.prog (u4 l4) (codeAt [1, 1, 1, 1, 1, 1, 0] (bodyOf Tryd.prog 4)) :=
  blockT (p := .none) (fuel := 100) (depth := 12) mixed tabS plsP trivial (fun kd d => Eq.trans (by kernel_rfl) ( r4e F9.f F10.f F14.f F11.f F16.f F13.f kd d))
def r5P (x9 : F9.FT) (x10 : F10.FT) (x14 : F14.FT) (x11 : F11.FT) (x16 : F16.FT) (x13 : F13.FT) : G5 := fun (l, n) (i0_2, i1_2, i2_2, i3_2, i4_2) =>
    bif (↑l.length : Int) == (1 : Int) then
      bif n == (19 : Int) then (x14 (i0_2, i1_2, i2_2, i3_2, i4_2)).bind fun r0 => some (r0.fst == (0 : Int), r0.snd)
      else some (false, i0_2, i1_2, i2_2, i3_2, i4_2)
    else some (false, i0_2, i1_2, i2_2, i3_2, i4_2)
theorem r5e (x9 : F9.FT) (x10 : F10.FT) (x14 : F14.FT) (x11 : F11.FT) (x16 : F16.FT) (x13 : F13.FT) (kd : (List (Int × List (Int))) × Int) (d : (List (Int) × Int × Int × List (Int) × Bool)) : unitF (tabC Tryd.prog (tab x9 x10 x14 x11 x16 x13) (pls x9 x10 x14 x11 x16 x13) 100 12) 100 .none (u5 fun _ _ => none) (codeAt [1, 1, 1, 1, 1, 1, 1, 0, 1, 0, 1, 0] (bodyOf Tryd.prog 4)) kd d = r5P x9 x10 x14 x11 x16 x13 kd d := by kernel_rfl
noncomputable def r5 : G5 := r5P F9.f F10.f F14.f F11.f F16.f F13.f
noncomputable def l5 : G5 := r5
theorem ok5 : UnOk Tryd.prog (u5 l5) (codeAt [1, 1, 1, 1, 1, 1, 1, 0, 1, 0, 1, 0] (bodyOf Tryd.prog 4)) :=
  blockT (p := .none) (fuel := 100) (depth := 12) mixed tabS plsP trivial (fun kd d => Eq.trans (by kernel_rfl) ( r5e F9.f F10.f F14.f F11.f F16.f F13.f kd d))
def r6P (x9 : F9.FT) (x10 : F10.FT) (x14 : F14.FT) (x11 : F11.FT) (x16 : F16.FT) (x13 : F13.FT) : G6 := fun behind (i0_2, i1_2, i2_2, i3_2, i4_2) =>
    bif decide ((0 : Nat) + behind.length ≤ behind.length) && true then
      (x10 ((i0_2, i1_2, i2_2, i3_2, i4_2), List.take behind.length behind)).bind fun r0 =>
       bif decide ((0 : Nat) + List.length r0.fst ≤ List.length r0.fst) && true then
       some (List.take (List.length r0.fst) (List.drop (0 : Nat) r0.fst), r0.snd)
       else none
    else none
theorem r6e (x9 : F9.FT) (x10 : F10.FT) (x14 : F14.FT) (x11 : F11.FT) (x16 : F16.FT) (x13 : F13.FT) (kd : List (Int)) (d : (List (Int) × Int × Int × List (Int) × Bool)) : unitF (tabC Tryd.prog (tab x9 x10 x14 x11 x16 x13) (pls x9 x10 x14 x11 x16 x13) 100 12) 100 .none (u6 fun _ _ => none) (codeAt [1, 1, 1, 1, 1, 1, 1, 1, 0] (bodyOf Tryd.prog 4)) kd d = r6P x9 x10 x14 x11 x16 x13 kd d := by kernel_rfl
noncomputable def r6 : G6 := r6P F9.f F10.f F14.f F11.f F16.f F13.f
noncomputable def l6 : G6 := r6
theorem ok6 : UnOk Tryd.prog (u6 l6) (codeAt [1, 1, 1, 1, 1, 1, 1, 1, 0] (bodyOf Tryd.prog 4)) :=
  blockT (p := .none) (fuel := 100) (depth := 12) mixed tabS plsP trivial (fun kd d => Eq.trans (by kernel_rfl) ( r6e F9.f F10.f F14.f F11.f F16.f F13.f kd d))
def r7P (x9 : F9.FT) (x10 : F10.FT) (x14 : F14.FT) (x11 : F11.FT) (x16 : F16.FT) (x13 : F13.FT) : G7 := fun () (i0_2, i1_2, i2_2, i3_2, i4_2) =>
    (x11 (i0_2, i1_2, i2_2, i3_2, i4_2)).bind fun r0 =>
      bif decide ((0 : Nat) + List.length r0.fst.snd ≤ List.length r0.fst.snd) && true then
       some
       (((r0.fst.fst.fst, r0.fst.fst.snd), List.take (List.length r0.fst.snd) (List.drop (0 : Nat) r0.fst.snd)),
       r0.snd)
      else none
theorem r7e (x9 : F9.FT) (x10 : F10.FT) (x14 : F14.FT) (x11 : F11.FT) (x16 : F16.FT) (x13 : F13.FT) (kd : Unit) (d : (List (Int) × Int × Int × List (Int) × Bool)) : unitF (tabC Tryd.prog (tab x9 x10 x14 x11 x16 x13) (pls x9 x10 x14 x11 x16 x13) 100 12) 100 .none (u7 fun _ _ => none) (codeAt [1, 1, 1, 1, 1, 1, 1, 1, 1, 0] (bodyOf Tryd.prog 4)) kd d = r7P x9 x10 x14 x11 x16 x13 kd d := by kernel_rfl
noncomputable def r7 : G7 := r7P F9.f F10.f F14.f F11.f F16.f F13.f
noncomputable def l7 : G7 := r7
theorem ok7 : UnOk Tryd.prog (u7 l7) (codeAt [1, 1, 1, 1, 1, 1, 1, 1, 1, 0] (bodyOf Tryd.prog 4)) :=
  blockT (p := .none) (fuel := 100) (depth := 12) mixed tabS plsP trivial (fun kd d => Eq.trans (by kernel_rfl) ( r7e F9.f F10.f F14.f F11.f F16.f F13.f kd d))
def r8P (x9 : F9.FT) (x10 : F10.FT) (x14 : F14.FT) (x11 : F11.FT) (x16 : F16.FT) (x13 : F13.FT) : G8 := fun (l, (e0, e1), more, (f0, f1)) ((i0_2, i1_2, i2_2, i3_2, i4_2), data, other) =>
    bif (↑l.length : Int) == (0 : Int) then
      bif e0 == (1 : Int) then
       bif decide (e1 ≥ (1 : Int)) then
       bif decide (e1 ≤ (3 : Int)) then
       bif decide ((0 : Int) ≤ e1 ∧ e1 < (4 : Int)) then
       bif e1.toNat.beq (0 : Nat) then
       bif (↑data.length : Int) == (0 : Int) then
       bif (↑more.length : Int) == (0 : Int) then
       bif e0 == f0 && (e1 == f1 && true) then
       bif decide ((0 : Nat) + data.length ≤ data.length) && true then
       bif decide ((0 : Nat) + other.length ≤ other.length) && true then
       (x13 (List.take data.length data, List.take other.length other)).bind fun r0 =>
       bif r0.fst then
       (x14 (i0_2, i1_2, i2_2, i3_2, i4_2)).bind fun r1 =>
       bif r1.fst == (0 : Int) then some (true, r1.snd) else some (false, r1.snd)
       else some (false, i0_2, i1_2, i2_2, i3_2, i4_2)
       else none
       else none
       else some (false, i0_2, i1_2, i2_2, i3_2, i4_2)
       else some (false, i0_2, i1_2, i2_2, i3_2, i4_2)
       else some (false, i0_2, i1_2, i2_2, i3_2, i4_2)
       else
       bif e1.toNat.beq (1 : Nat) then
       bif (↑data.length : Int) == (0 : Int) then
       bif (↑more.length : Int) == (0 : Int) then
       bif e0 == f0 && (e1 == f1 && true) then
       bif decide ((0 : Nat) + data.length ≤ data.length) && true then
       bif decide ((0 : Nat) + other.length ≤ other.length) && true then
       (x13 (List.take data.length data, List.take other.length other)).bind fun r0 =>
       bif r0.fst then
       (x14 (i0_2, i1_2, i2_2, i3_2, i4_2)).bind fun r1 =>
       bif r1.fst == (0 : Int) then some (true, r1.snd) else some (false, r1.snd)
       else some (false, i0_2, i1_2, i2_2, i3_2, i4_2)
       else none
       else none
       else some (false, i0_2, i1_2, i2_2, i3_2, i4_2)
       else some (false, i0_2, i1_2, i2_2, i3_2, i4_2)
       else some (false, i0_2, i1_2, i2_2, i3_2, i4_2)
       else
       bif e1.toNat.beq (2 : Nat) then
       bif (↑data.length : Int) == (2 : Int) then
       bif (↑more.length : Int) == (0 : Int) then
       bif e0 == f0 && (e1 == f1 && true) then
       bif decide ((0 : Nat) + data.length ≤ data.length) && true then
       bif decide ((0 : Nat) + other.length ≤ other.length) && true then
       (x13 (List.take data.length data, List.take other.length other)).bind fun r0 =>
       bif r0.fst then
       (x14 (i0_2, i1_2, i2_2, i3_2, i4_2)).bind fun r1 =>
       bif r1.fst == (0 : Int) then some (true, r1.snd) else some (false, r1.snd)
       else some (false, i0_2, i1_2, i2_2, i3_2, i4_2)
       else none
       else none
       else some (false, i0_2, i1_2, i2_2, i3_2, i4_2)
       else some (false, i0_2, i1_2, i2_2, i3_2, i4_2)
       else some (false, i0_2, i1_2, i2_2, i3_2, i4_2)
       else
       bif e1.toNat.beq (3 : Nat) then
       bif (↑data.length : Int) == (1 : Int) then
       bif (↑more.length : Int) == (0 : Int) then
       bif e0 == f0 && (e1 == f1 && true) then
       bif decide ((0 : Nat) + data.length ≤ data.length) && true then
       bif decide ((0 : Nat) + other.length ≤ other.length) && true then
       (x13 (List.take data.length data, List.take other.length other)).bind fun r0 =>
       bif r0.fst then
       (x14 (i0_2, i1_2, i2_2, i3_2, i4_2)).bind fun r1 =>
       bif r1.fst == (0 : Int) then some (true, r1.snd) else some (false, r1.snd)
       else some (false, i0_2, i1_2, i2_2, i3_2, i4_2)
       else none
       else none
       else some (false, i0_2, i1_2, i2_2, i3_2, i4_2)
       else some (false, i0_2, i1_2, i2_2, i3_2, i4_2)
       else some (false, i0_2, i1_2, i2_2, i3_2, i4_2)
       else none
       else none
       else some (false, i0_2, i1_2, i2_2, i3_2, i4_2)
       else some (false, i0_2, i1_2, i2_2, i3_2, i4_2)
      else some (false, i0_2, i1_2, i2_2, i3_2, i4_2)
    else some (false, i0_2, i1_2, i2_2, i3_2, i4_2)
theorem r8e (x9 : F9.FT) (x10 : F10.FT) (x14 : F14.FT) (x11 : F11.FT) (x16 : F16.FT) (x13 : F13.FT) (kd : (List (Int × List (Int))) × (Int × Int) × (List (Int × List (Int))) × (Int × Int)) (d : (List (Int) × Int × Int × List (Int) × Bool) × List (Int) × List (Int)) : unitF (tabC Tryd.prog (tab x9 x10 x14 x11 x16 x13) (pls x9 x10 x14 x11 x16 x13) 100 12) 100 .none (u8 fun _ _ => none) (codeAt [1, 1, 1, 1, 1, 1, 1, 1, 1, 1, 0] (bodyOf Tryd.prog 4)) kd d = r8P x9 x10 x14 x11 x16 x13 kd d := by kernel_rfl
noncomputable def r8 : G8 := r8P F9.f F10.f F14.f F11.f F16.f F13.f
noncomputable def l8 : G8 := r8
theorem ok8 : UnOk Tryd.prog (u8 l8) (codeAt [1, 1, 1, 1, 1, 1, 1, 1, 1, 1, 0] (bodyOf Tryd.prog 4)) :=
  blockT (p := .none) (fuel := 100) (depth := 12) mixed tabS plsP trivial (fun kd d => Eq.trans (by kernel_rfl) ( r8e F9.f F10.f F14.f F11.f F16.f F13.f kd d))
def fP (x9 : F9.FT) (x10 : F10.FT) (x14 : F14.FT) (x11 : F11.FT) (x16 : F16.FT) (x13 : F13.FT) (l1 : G1) (l2 : G2) (l3 : G3) (l4 : G4) (l5 : G5) (l6 : G6) (l7 : G7) (l8 : G8) : FT := fun ((head0, head1, head2, head3, head4, head5, head6, head7, head8, head9, head10, head11, head12, head13, head14, head15, head16, head17, head18), behind) =>
    (l1 PUnit.unit PUnit.unit).bind fun r0 =>
      (x10
       (r0.fst,
       [head0, head1, head2, head3, head4, head5, head6, head7, head8, head9, head10, head11, head12, head13,
       head14, head15, head16, head17])).bind
       fun r1 =>
       bif (↑(List.length r1.fst) : Int) != (0 : Int) then some (false, PUnit.unit)
       else
       (x14 r1.snd).bind fun r2 =>
       bif r2.fst != (18 : Int) then some (false, PUnit.unit)
       else
       (l2 PUnit.unit r2.snd).bind fun r3 =>
       bif r3.fst.fst != (0 : Int) then some (false, PUnit.unit)
       else
       (x10 (r3.snd, [head18])).bind fun r4 =>
       (l3 PUnit.unit r4.snd).bind fun r5 =>
       bif decide ((0 : Nat) + behind.length ≤ behind.length) && true then
       (l4 PUnit.unit (List.take behind.length behind)).bind fun r6 =>
       bif r5.fst.fst.fst == (0 : Int) then
       bif decide ((0 : Nat) + List.length r4.fst ≤ List.length r4.fst) && true then
       (l5
       (List.take (List.length r4.fst) (List.drop (0 : Nat) r4.fst),
       IntKind.i64.wrap
       (↑((IntKind.i64.wrap (IntKind.i64.wrap head16 * (256 : Int)) %
       (18446744073709551616 : Int)).toNat |||
       (IntKind.i64.wrap head17 % (18446744073709551616 : Int)).toNat) :
       Int))
       r5.snd).bind
       fun r7 =>
       (x16 ((16 : Int), [])).bind fun r8 =>
       bif decide ((0 : Nat) + List.length r8.fst ≤ List.length r8.fst) && true then
       (x13
       ([head0, head1, head2, head3, head4, head5, head6, head7, head8, head9, head10,
       head11, head12, head13, head14, head15],
       List.take (List.length r8.fst) (List.drop (0 : Nat) r8.fst))).bind
       fun r9 =>
       bif r9.fst then
       bif
       decide
       (IntKind.i64.wrap
       (↑((IntKind.i64.wrap (IntKind.i64.wrap head16 * (256 : Int)) %
       (18446744073709551616 : Int)).toNat |||
       (IntKind.i64.wrap head17 % (18446744073709551616 : Int)).toNat) :
       Int) ≥
       (19 : Int)) then
       bif
       decide
       (IntKind.i64.wrap
       (↑((IntKind.i64.wrap (IntKind.i64.wrap head16 * (256 : Int)) %
       (18446744073709551616 : Int)).toNat |||
       (IntKind.i64.wrap head17 %
       (18446744073709551616 : Int)).toNat) :
       Int) ≤
       (4096 : Int)) then
       bif decide (head18 ≥ (1 : Int)) then
       bif decide (head18 ≤ (5 : Int)) then
       bif r7.fst then some (true, PUnit.unit)
       else
       bif (↑(List.length r4.fst) : Int) == (0 : Int) then
       bif
       decide
       (IntKind.i64.wrap
       (↑((IntKind.i64.wrap
       (IntKind.i64.wrap head16 * (256 : Int)) %
       (18446744073709551616 : Int)).toNat |||
       (IntKind.i64.wrap head17 %
       (18446744073709551616 : Int)).toNat) :
       Int) >
       (19 : Int)) then
       bif
       decide ((0 : Nat) + r7.snd.fst.length ≤ r7.snd.fst.length) &&
       true then
       bif
       decide
       ((0 : Nat) + r7.snd.snd.snd.snd.fst.length ≤
       r7.snd.snd.snd.snd.fst.length) &&
       true then
       (x14
       (List.take r7.snd.fst.length
       (List.drop (0 : Nat) r7.snd.fst),
       r7.snd.snd.fst, r7.snd.snd.snd.fst,
       List.take r7.snd.snd.snd.snd.fst.length
       (List.drop (0 : Nat) r7.snd.snd.snd.snd.fst),
       r7.snd.snd.snd.snd.snd)).bind
       fun r10 =>
       bif r10.fst == (19 : Int) then some (true, PUnit.unit)
       else some (false, PUnit.unit)
       else none
       else none
       else some (false, PUnit.unit)
       else some (false, PUnit.unit)
       else some (false, PUnit.unit)
       else some (false, PUnit.unit)
       else some (false, PUnit.unit)
       else some (false, PUnit.unit)
       else some (false, PUnit.unit)
       else none
       else none
       else
       bif decide ((0 : Nat) + List.length r6.fst ≤ List.length r6.fst) && true then
       (l6 (List.take (List.length r6.fst) (List.drop (0 : Nat) r6.fst)) r5.snd).bind fun r7 =>
       (l7 PUnit.unit r7.snd).bind fun r8 =>
       bif decide ((0 : Nat) + List.length r4.fst ≤ List.length r4.fst) && true then
       bif decide ((0 : Nat) + List.length r7.fst ≤ List.length r7.fst) && true then
       bif
       decide ((0 : Nat) + List.length r5.fst.snd ≤ List.length r5.fst.snd) &&
       true then
       bif
       decide ((0 : Nat) + List.length r8.fst.snd ≤ List.length r8.fst.snd) &&
       true then
       (l8
       (List.take (List.length r4.fst) (List.drop (0 : Nat) r4.fst), r5.fst.fst,
       List.take (List.length r7.fst) (List.drop (0 : Nat) r7.fst), r8.fst.fst)
       (r8.snd,
       List.take (List.length r5.fst.snd) (List.drop (0 : Nat) r5.fst.snd),
       List.take (List.length r8.fst.snd)
       (List.drop (0 : Nat) r8.fst.snd))).bind
       fun r9 => some (r9.fst, PUnit.unit)
       else none
       else none
       else none
       else none
       else none
       else none
theorem fe (x9 : F9.FT) (x10 : F10.FT) (x14 : F14.FT) (x11 : F11.FT) (x16 : F16.FT) (x13 : F13.FT) (l1 : G1) (l2 : G2) (l3 : G3) (l4 : G4) (l5 : G5) (l6 : G6) (l7 : G7) (l8 : G8) (d : (Int × Int × Int × Int × Int × Int × Int × Int × Int × Int × Int × Int × Int × Int × Int × Int × Int × Int × Int) × List (Int)) : bodyF (tabC Tryd.prog (tab x9 x10 x14 x11 x16 x13) ((4, (.node .none (.node (.unit (u1 l1)) (.node .none (.node (.node (.unit (u2 l2)) .none) (.node .none (.node (.unit (u3 l3)) (.node (.unit (u4 l4)) (.node (.node .none (.node (.node .none (.node (.unit (u5 l5)) .none)) .none)) (.node (.unit (u6 l6)) (.node (.unit (u7 l7)) (.node (.unit (u8 l8)) .none)))))))))))) :: pls x9 x10 x14 x11 x16 x13) 100 12) 100 4 i o d = fP x9 x10 x14 x11 x16 x13 l1 l2 l3 l4 l5 l6 l7 l8 d := by kernel_rfl
noncomputable def f : FT := fP F9.f F10.f F14.f F11.f F16.f F13.f l1 l2 l3 l4 l5 l6 l7 l8
def plan (l1 : G1) (l2 : G2) (l3 : G3) (l4 : G4) (l5 : G5) (l6 : G6) (l7 : G7) (l8 : G8) : Plan := (.node .none (.node (.unit (u1 l1)) (.node .none (.node (.node (.unit (u2 l2)) .none) (.node .none (.node (.unit (u3 l3)) (.node (.unit (u4 l4)) (.node (.node .none (.node (.node .none (.node (.unit (u5 l5)) .none)) .none)) (.node (.unit (u6 l6)) (.node (.unit (u7 l7)) (.node (.unit (u8 l8)) .none)))))))))))
theorem planOk : PlanOk Tryd.prog (plan l1 l2 l3 l4 l5 l6 l7 l8) (bodyOf Tryd.prog 4) := (planOk_of (plan l1 l2 l3 l4 l5 l6 l7 l8) _ [([1, 0], u1 l1), ([1, 1, 1, 0, 0], u2 l2), ([1, 1, 1, 1, 1, 0], u3 l3), ([1, 1, 1, 1, 1, 1, 0], u4 l4), ([1, 1, 1, 1, 1, 1, 1, 0, 1, 0, 1, 0], u5 l5), ([1, 1, 1, 1, 1, 1, 1, 1, 0], u6 l6), ([1, 1, 1, 1, 1, 1, 1, 1, 1, 0], u7 l7), ([1, 1, 1, 1, 1, 1, 1, 1, 1, 1, 0], u8 l8)] rfl ⟨ok1, ok2, ok3, ok4, ok5, ok6, ok7, ok8, trivial⟩)
theorem h1 (d : (Int × Int × Int × Int × Int × Int × Int × Int × Int × Int × Int × Int × Int × Int × Int × Int × Int × Int × Int) × List (Int)) : bodyF (tabC Tryd.prog (tab F9.f F10.f F14.f F11.f F16.f F13.f) ((4, plan l1 l2 l3 l4 l5 l6 l7 l8) :: pls F9.f F10.f F14.f F11.f F16.f F13.f) 100 12) 100 4 i o d = fP F9.f F10.f F14.f F11.f F16.f F13.f l1 l2 l3 l4 l5 l6 l7 l8 d := by
  generalize F9.f = y0
  generalize F10.f = y1
  generalize F14.f = y2
  generalize F11.f = y3
  generalize F16.f = y4
  generalize F13.f = y5
  generalize l1 = y6
  generalize l2 = y7
  generalize l3 = y8
  generalize l4 = y9
  generalize l5 = y10
  generalize l6 = y11
  generalize l7 = y12
  generalize l8 = y13
  exact fe y0 y1 y2 y3 y4 y5 y6 y7 y8 y9 y10 y11 y12 y13 d
theorem h2 (d : (Int × Int × Int × Int × Int × Int × Int × Int × Int × Int × Int × Int × Int × Int × Int × Int × Int × Int × Int) × List (Int)) : bodyF (tabC Tryd.prog (tab F9.f F10.f F14.f F11.f F16.f F13.f) ((4, plan l1 l2 l3 l4 l5 l6 l7 l8) :: pls F9.f F10.f F14.f F11.f F16.f F13.f) 100 12) 100 4 i o d = f d := by rw [show f d = fP F9.f F10.f F14.f F11.f F16.f F13.f l1 l2 l3 l4 l5 l6 l7 l8 d by unfold f; rfl]; exact h1 d
theorem funcT' {P : Program} (hm : P.follows .mixedOrders = true) {K : List (FuncId × Sx.Spec)} {pl : List (FuncId × Plan)} (hS : AllS P K) (hP : AllP P pl) {i o : Sh} {F : Den i → Option (Den o × Den (posts i))} (hF : ∀ d, bodyF (tabC P K pl 100 12) 100 4 i o d = F d) : MeetsF P 4 ⟨i, o, F⟩ := funcT hm hS hP (c := ⟨i, o, F⟩) hF
theorem meets : MeetsF Tryd.prog 4 ⟨i, o, f⟩ := by
  have h : ∀ d : Den i, bodyF (tabC Tryd.prog (tab F9.f F10.f F14.f F11.f F16.f F13.f) ((4, plan l1 l2 l3 l4 l5 l6 l7 l8) :: pls F9.f F10.f F14.f F11.f F16.f F13.f) 100 12) 100 4 i o d = f d := h2
  exact funcT' (P := Tryd.prog) (K := tab F9.f F10.f F14.f F11.f F16.f F13.f) (pl := (4, plan l1 l2 l3 l4 l5 l6 l7 l8) :: pls F9.f F10.f F14.f F11.f F16.f F13.f) (i := i) (o := o) (F := f) mixed tabS ⟨planOk, plsP⟩ h
theorem spec : SpecOk Tryd.prog (fun _ => none) 4 (specF ⟨i, o, f⟩) := specF_ok (by kernel_rfl) meets
end Go.Proofs.YtnmgbheaabdhlaaDoor.F4

/- Chapter 3: behind a fault nothing goes on; a fault comes with the 19th byte. -/
namespace Go.Proofs.YtnmgbheaabdhlaaDoor.PM
open Go Go.Proofs Go.Proofs.YtnmgbheaabdhlaaDoor.Sx Go.Proofs.YtnmgbheaabdhlaaDoor.PA Go.Proofs.YtnmgbheaabdhlaaDoor.PB Go.Proofs.YtnmgbheaabdhlaaDoor.PC Go.Proofs.YtnmgbheaabdhlaaDoor.PD
set_option linter.unusedSimpArgs false
set_option linter.unusedVariables false
theorem parse_nil : parse [] = ([], W []) := parse_wait rfl
theorem nE {x y : Int} (hx : 0 ≤ x ∧ x ≤ 255) (hy : 0 ≤ y ∧ y ≤ 255) : IntKind.i64.wrap (((IntKind.i64.wrap (IntKind.i64.wrap x * 256) % 18446744073709551616).toNat ||| (IntKind.i64.wrap y % 18446744073709551616).toNat : Nat) : Int) = 256 * x + y := by
  rw [wrap64_id (n := x) (by omega), wrap64_id (n := x * 256) (by omega), wrap64_id (n := y) (by omega), Int.emod_eq_of_lt (by omega) (by omega), Int.emod_eq_of_lt (by omega) (by omega), or_bytes x y hx hy]
  rw [wrap64_id (by omega)]
  omega
theorem n1 : F4.l1 () () = some (W [], ()) := rfl
theorem n2 {x : List Int} {c s : Int} {d : List Int} (hd : d.length ≤ 1000) : F4.l2 () (x, c, s, d, true) = some ((c, s), x, c, s, d, true) := by
  unfold F4.l2 F4.r2 F4.r2P
  simp only [faultP (b := x) (c := c) (s := s) (d := d) hd, Option.bind_some]
theorem n3 {x : List Int} {c s : Int} {d : List Int} (hd : d.length ≤ 1000) : F4.l3 () (x, c, s, d, true) = some (((c, s), d), x, c, s, d, true) := by
  unfold F4.l3 F4.r3 F4.r3P
  simp only [faultP (b := x) (c := c) (s := s) (d := d) hd, Option.bind_some, le_all, cond_true, Bool.and_true, take_all]
theorem n7 {x : List Int} {c s : Int} {d : List Int} (hd : d.length ≤ 1000) : F4.l7 () (x, c, s, d, true) = some (((c, s), d), x, c, s, d, true) := n3 hd
theorem n4 (b : List Int) : F4.l4 () b = some (b.take 100, ()) := by
  unfold F4.l4 F4.r4 F4.r4P
  have e0 : ((some (if (100 : Int) < (b.length : Int) then (100 : Int) else (b.length : Int))).getD (b.length : Int)) = ((min b.length 100 : Nat) : Int) := by
    simp only [Option.getD_some]
    split <;> omega
  have c1 : decide ((0 : Int) ≤ ((min b.length 100 : Nat) : Int) ∧ ((min b.length 100 : Nat) : Int) ≤ (b.length : Int) ∧ 0 + b.length ≤ b.length) = true := decide_eq_true (by omega)
  have e1 : ((min b.length 100 : Nat) : Int).toNat = min b.length 100 := by omega
  have c2 : decide (0 + min b.length 100 ≤ b.length) = true := decide_eq_true (by omega)
  have e2 : b.take (min b.length 100) = b.take 100 := by rw [Nat.min_comm, ← List.take_take, List.take_length]
  simp only [e0, c1, e1, c2, cond_true, Bool.and_true, e2]
theorem n6 {s : Int} {d c : List Int} (hB : Bytes c) (hl : c.length ≤ 100) : F4.l6 c (Fa s d) = some ([], Fa s d) := by
  unfold F4.l6 F4.r6 F4.r6P
  have := feedP (st := Fa s d) (c := c) (.inr ⟨s, d, rfl⟩) (by simpa using hB) (by simp; omega)
  have e : feed (Fa s d) c = ([], Fa s d) := rfl
  rw [e] at this
  simp only [Fa] at this ⊢
  simp only [le_all, cond_true, Bool.and_true, List.take_length, this, Option.bind_some, take_all, List.drop_zero]
theorem n8 {s : Int} {d : List Int} (h : (s = 1 ∧ d.length = 0) ∨ (s = 2 ∧ d.length = 2) ∨ (s = 3 ∧ d.length = 1)) : F4.l8 ([], (1, s), [], (1, s)) (Fa s d, d, d) = some (true, Fa s d) := by
  unfold F4.l8 F4.r8 F4.r8P
  rcases h with ⟨rfl, hd⟩ | ⟨rfl, hd⟩ | ⟨rfl, hd⟩
  all_goals
    simp only [Fa, equalP, waitsP, le_all, cond_true, Bool.and_true, List.take_length, Option.bind_some, hd]
    rfl
theorem hd_data {b : List Int} {s : Int} {d : List Int} (h : hd b = .fault s d) : (s = 1 ∧ d.length = 0) ∨ (s = 2 ∧ d.length = 2) ∨ (s = 3 ∧ d.length = 1) := by
  unfold hd at h
  split at h
  · cases h
  split at h
  · simp only [Res.fault.injEq] at h; obtain ⟨rfl, rfl⟩ := h; simp
  split at h
  · simp only [Res.fault.injEq] at h; obtain ⟨rfl, rfl⟩ := h; simp
  split at h
  · simp only [Res.fault.injEq] at h; obtain ⟨rfl, rfl⟩ := h; simp
  split at h
  · simp only [Res.fault.injEq] at h; obtain ⟨rfl, rfl⟩ := h; simp
  split at h
  · cases h
  · cases h
/-- What a head without a fault is. -/
theorem hd_good {b : List Int} (h19 : b.length = 19) (h : ∀ s d, hd b ≠ .fault s d) : (b.take 16).any (· != 255) = false ∧ 19 ≤ len b ∧ len b ≤ 4096 ∧ 1 ≤ b.getD 18 0 ∧ b.getD 18 0 ≤ 5 ∧ ((hd b = .wait ∧ 19 < len b) ∨ (hd b = .msg 19 (b.getD 18 0) ∧ len b = 19)) := by
  unfold hd at h ⊢
  rw [if_neg (by omega)] at h ⊢
  by_cases g1 : (b.take 16).any (· != 255) = true
  · rw [if_pos g1] at h; exact absurd rfl (h _ _)
  rw [if_neg g1] at h ⊢
  by_cases g2 : len b < 19 ∨ 4096 < len b
  · rw [if_pos g2] at h; exact absurd rfl (h _ _)
  rw [if_neg g2] at h ⊢
  by_cases g3 : b.getD 18 0 < 1 ∨ 5 < b.getD 18 0
  · rw [if_pos g3] at h; exact absurd rfl (h _ _)
  rw [if_neg g3] at h ⊢
  by_cases g4 : fit (len b) (b.getD 18 0) = false
  · rw [if_pos g4] at h; exact absurd rfl (h _ _)
  rw [if_neg g4] at h ⊢
  refine ⟨by simpa using g1, by omega, by omega, by omega, by omega, ?_⟩
  by_cases g5 : b.length < (len b).toNat
  · rw [if_pos g5]; exact .inl ⟨rfl, by omega⟩
  · rw [if_neg g5]
    have e : (len b).toNat = 19 := by omega
    refine .inr ⟨?_, by omega⟩
    rw [e]
theorem feed1 {a : List Int} (h : a.length = 18) (hB : Bytes a) : F10.f (W [], a) = some ([], W a) := by
  have := feedP (st := W []) (c := a) (.inl ⟨[], rfl⟩) hB (by show a.length ≤ _; omega)
  rw [this]
  have e : feed (W []) a = parse a := rfl
  rw [e, parse_wait (by unfold hd; rw [if_pos (by omega)])]
theorem feed2 {a : List Int} {x : Int} (h : a.length = 18) (hB : Bytes (a ++ [x])) : F10.f (W a, [x]) = some (parse (a ++ [x])) := by
  have := feedP (st := W a) (c := [x]) (.inl ⟨a, rfl⟩) hB (by show (a ++ [x]).length ≤ _; rw [List.length_append]; simp; omega)
  rw [this]
  rfl
theorem law (h0 h1 h2 h3 h4 h5 h6 h7 h8 h9 h10 h11 h12 h13 h14 h15 h16 h17 h18 : Int) (c : List Int) (hB : Bytes [h0, h1, h2, h3, h4, h5, h6, h7, h8, h9, h10, h11, h12, h13, h14, h15, h16, h17, h18]) (hC : Bytes c) :
    ∃ q, F4.f ((h0, h1, h2, h3, h4, h5, h6, h7, h8, h9, h10, h11, h12, h13, h14, h15, h16, h17, h18), c) = some (true, q) := by
  have b16 : 0 ≤ h16 ∧ h16 ≤ 255 := hB h16 (by simp)
  have b17 : 0 ≤ h17 ∧ h17 ≤ 255 := hB h17 (by simp)
  have hN := nE b16 b17
  have f1 := feed1 (a := [h0, h1, h2, h3, h4, h5, h6, h7, h8, h9, h10, h11, h12, h13, h14, h15, h16, h17]) (by rfl) (hB.take 18)
  have f2 := feed2 (a := [h0, h1, h2, h3, h4, h5, h6, h7, h8, h9, h10, h11, h12, h13, h14, h15, h16, h17]) (x := h18) (by rfl) hB
  simp only [List.cons_append, List.nil_append] at f2
  have hCt := hC.take 100
  have hCl : (c.take 100).length ≤ 100 := by rw [List.length_take]; omega
  generalize hb : [h0, h1, h2, h3, h4, h5, h6, h7, h8, h9, h10, h11, h12, h13, h14, h15, h16, h17, h18] = b at *
  have h19 : b.length = 19 := by rw [← hb]; rfl
  have hlen : len b = 256 * h16 + h17 := by rw [← hb]; rfl
  have ht : b.getD 18 0 = h18 := by rw [← hb]; rfl
  have hmk : (b.take 16) = [h0, h1, h2, h3, h4, h5, h6, h7, h8, h9, h10, h11, h12, h13, h14, h15] := by rw [← hb]; rfl
  by_cases hf : ∃ s d, hd b = .fault s d
  · obtain ⟨s, d, hf⟩ := hf
    rw [parse_fault hf] at f2
    have hdd := hd_data hf
    have hd1 : d.length ≤ 1000 := by omega
    refine ⟨(), ?_⟩
    unfold F4.f F4.fP
    simp only [Fa, W] at f1 f2 ⊢
    have m6 := n6 (s := s) (d := d) hCt hCl
    have m8 := n8 hdd
    simp only [Fa] at m6 m8
    simp only [n1, f1, f2, Option.bind_some, List.length_nil, waitsP, n2 (x := [h0, h1, h2, h3, h4, h5, h6, h7, h8, h9, h10, h11, h12, h13, h14, h15, h16, h17]) (c := 0) (s := 0) (d := []) (by simp), n3 (x := []) (c := 1) (s := s) (d := d) hd1, n4, n7 (x := []) (c := 1) (s := s) (d := d) hd1, m6, m8, le_all, cond_true, Bool.and_true, take_all, List.take_length, List.drop_zero, List.length_cons]
    rfl
  · have hf : ∀ s d, hd b ≠ .fault s d := fun s d h => hf ⟨s, d, h⟩
    obtain ⟨k1, k2, k3, k4, k5, k6⟩ := hd_good h19 hf
    rw [hlen] at k2 k3 k6
    rw [ht] at k4 k5 k6
    rw [hmk] at k1
    have km : [h0, h1, h2, h3, h4, h5, h6, h7, h8, h9, h10, h11, h12, h13, h14, h15] = List.replicate 16 255 ++ [] := by
      simp only [List.any_cons, List.any_nil, Bool.or_false, Bool.or_eq_false_iff, bne_eq_false_iff_eq] at k1
      obtain ⟨rfl, rfl, rfl, rfl, rfl, rfl, rfl, rfl, rfl, rfl, rfl, rfl, rfl, rfl, rfl, rfl⟩ := k1
      rfl
    have h16r := onesP (n := 16) (more := []) (.inl rfl) (by simp)
    have c1 : decide (256 * h16 + h17 ≥ 19) = true := decide_eq_true k2
    have c2 : decide (256 * h16 + h17 ≤ 4096) = true := decide_eq_true k3
    have c3 : decide (h18 ≥ 1) = true := decide_eq_true k4
    have c4 : decide (h18 ≤ 5) = true := decide_eq_true k5
    rcases k6 with ⟨g1, g2⟩ | ⟨g1, g2⟩
    · rw [parse_wait g1] at f2
      have c5 : decide (256 * h16 + h17 > 19) = true := decide_eq_true g2
      have n5 : F4.l5 ([], 256 * h16 + h17) (W b) = some (false, W b) := rfl
      refine ⟨(), ?_⟩
      unfold F4.f F4.fP
      simp only [W] at f1 f2 n5 ⊢
      simp only [n1, f1, f2, Option.bind_some, List.length_nil, waitsP, n2 (x := [h0, h1, h2, h3, h4, h5, h6, h7, h8, h9, h10, h11, h12, h13, h14, h15, h16, h17]) (c := 0) (s := 0) (d := []) (by simp), n3 (x := b) (c := 0) (s := 0) (d := []) (by simp), n4, n5, hN, le_all, cond_true, Bool.and_true, take_all, List.take_length, List.drop_zero, List.length_cons, List.take_nil, List.drop_nil, km]
      rw [show ((16 : Nat) : Int) = 16 from rfl] at h16r
      simp only [h16r, Option.bind_some, equalP, c1, c2, c3, c4, c5, le_all, cond_true, Bool.and_true, take_all, h19]
      rfl
    · rw [parse_msg g1] at f2
      have e1 : b.drop 19 = [] := by rw [← hb]; rfl
      have e2 : body b 19 = [] := by unfold body; simp
      rw [e1, e2, parse_nil] at f2
      rw [g2] at hN c1 c2
      have n5 : F4.l5 ([(h18, [])], 19) (W []) = some (true, W []) := rfl
      refine ⟨(), ?_⟩
      unfold F4.f F4.fP
      simp only [W] at f1 f2 n5 ⊢
      simp only [n1, f1, f2, Option.bind_some, List.length_nil, waitsP, n2 (x := [h0, h1, h2, h3, h4, h5, h6, h7, h8, h9, h10, h11, h12, h13, h14, h15, h16, h17]) (c := 0) (s := 0) (d := []) (by simp), n3 (x := []) (c := 0) (s := 0) (d := []) (by simp), n4, n5, hN, le_all, cond_true, Bool.and_true, take_all, List.take_length, List.drop_zero, List.length_cons, List.take_nil, List.drop_nil, km]
      rw [show ((16 : Nat) : Int) = 16 from rfl] at h16r
      simp only [h16r, Option.bind_some, equalP, c1, c2, c3, c4, le_all, cond_true, Bool.and_true, take_all]
      rfl
theorem ends (d : Den F4.i) (hd : wfD F4.i d) : ∃ q, F4.f d = some (true, q) := by
  obtain ⟨⟨h0, h1, h2, h3, h4, h5, h6, h7, h8, h9, h10, h11, h12, h13, h14, h15, h16, h17, h18⟩, c⟩ := d
  have hC : Bytes c := fun x hx => (hd.2.1.2 x hx).1
  obtain ⟨⟨w0, w1, w2, w3, w4, w5, w6, w7, w8, w9, w10, w11, w12, w13, w14, w15, w16, w17, w18, _⟩, _⟩ := hd
  refine law h0 h1 h2 h3 h4 h5 h6 h7 h8 h9 h10 h11 h12 h13 h14 h15 h16 h17 h18 c ?_ hC
  intro x hx
  simp only [List.mem_cons, List.not_mem_nil, or_false] at hx
  rcases hx with rfl | rfl | rfl | rfl | rfl | rfl | rfl | rfl | rfl | rfl | rfl | rfl | rfl | rfl | rfl | rfl | rfl | rfl | rfl <;> assumption
end Go.Proofs.YtnmgbheaabdhlaaDoor.PM
