/- Chapter 3: a message's bytes. -/
import Derived.Test.YtnmgbheaabdhlaaDoorX2
import Derived.Test.YtnmgbheaabdhlaaDoorChecked
import Derived.Test.YtnmgbheaabdhlaaDoorZO
import Derived.Test.YtnmgbheaabdhlaaDoorX1
namespace Go.Proofs.YtnmgbheaabdhlaaDoor.PE
open Go Go.Proofs Go.Proofs.YtnmgbheaabdhlaaDoor.Sx Go.Proofs.YtnmgbheaabdhlaaDoor.PA Go.Proofs.YtnmgbheaabdhlaaDoor.PB Go.Proofs.YtnmgbheaabdhlaaDoor.PC Go.Proofs.YtnmgbheaabdhlaaDoor.PD
set_option linter.unusedSimpArgs false
set_option linter.unusedVariables false
/-- Is such a message none? -/
def bad (n t : Int) : Bool := decide (t < 1) || decide (5 < t) || !fit n t
/-- The bytes ahead of a body. -/
def ahead (n t : Int) : List Int := List.replicate 16 255 ++ [n / 256, n % 256, t]
def lay (t : Int) (m : List Int) : List Int × Int :=
  if bad (19 + (m.length : Int)) t = true then ([], 1) else if 4096 < 19 + (m.length : Int) then ([], 3) else (ahead (19 + (m.length : Int)) t ++ m, 0)
theorem badP {t n : Int} {m : List Int} (ht : 0 ≤ t ∧ t ≤ 255) (hn : 19 ≤ n) : F21.l1 ((t, m), n) () = some (bad n t, ()) := by
  unfold F21.l1 F21.r1 F21.r1P bad
  by_cases h1 : t < 1
  · have : t = 0 := by omega
    subst this
    simp
  by_cases h2 : 5 < t
  · have c1 : ¬ t ≤ 5 := by omega
    have c2 : 1 ≤ t := by omega
    simp [h1, h2, c1, c2]
  have hc : t = 1 ∨ t = 2 ∨ t = 3 ∨ t = 4 ∨ t = 5 := by omega
  unfold fit
  rcases hc with rfl | rfl | rfl | rfl | rfl
  · by_cases h : 29 ≤ n
    · have : ¬ n < 29 := by omega
      simp [h, this, show Nat.beq 1 0 = false from rfl, show Nat.beq 1 1 = true from rfl]
    · have : n < 29 := by omega
      simp [h, this, show Nat.beq 1 0 = false from rfl, show Nat.beq 1 1 = true from rfl]
  · by_cases h : 23 ≤ n
    · have : ¬ n < 23 := by omega
      simp [h, this, show Nat.beq 2 0 = false from rfl, show Nat.beq 2 1 = false from rfl, show Nat.beq 2 2 = true from rfl]
    · have : n < 23 := by omega
      simp [h, this, show Nat.beq 2 0 = false from rfl, show Nat.beq 2 1 = false from rfl, show Nat.beq 2 2 = true from rfl]
  · by_cases h : 21 ≤ n
    · have : ¬ n < 21 := by omega
      simp [h, this, show Nat.beq 3 0 = false from rfl, show Nat.beq 3 1 = false from rfl, show Nat.beq 3 2 = false from rfl, show Nat.beq 3 3 = true from rfl]
    · have : n < 21 := by omega
      simp [h, this, show Nat.beq 3 0 = false from rfl, show Nat.beq 3 1 = false from rfl, show Nat.beq 3 2 = false from rfl, show Nat.beq 3 3 = true from rfl]
  · by_cases h : n = 19
    · subst h; simp [show Nat.beq 4 0 = false from rfl, show Nat.beq 4 1 = false from rfl, show Nat.beq 4 2 = false from rfl, show Nat.beq 4 3 = false from rfl, show Nat.beq 4 4 = true from rfl]
    · have h3 : ¬ n < 19 := by omega
      have h4 : n > 19 := by omega
      simp [h, h3, h4, show Nat.beq 4 0 = false from rfl, show Nat.beq 4 1 = false from rfl, show Nat.beq 4 2 = false from rfl, show Nat.beq 4 3 = false from rfl, show Nat.beq 4 4 = true from rfl]
  · by_cases h : n = 23
    · subst h; simp [show Nat.beq 5 0 = false from rfl, show Nat.beq 5 1 = false from rfl, show Nat.beq 5 2 = false from rfl, show Nat.beq 5 3 = false from rfl, show Nat.beq 5 4 = false from rfl, show Nat.beq 5 5 = true from rfl]
    · by_cases h3 : n < 23
      · simp [h, h3, show Nat.beq 5 0 = false from rfl, show Nat.beq 5 1 = false from rfl, show Nat.beq 5 2 = false from rfl, show Nat.beq 5 3 = false from rfl, show Nat.beq 5 4 = false from rfl, show Nat.beq 5 5 = true from rfl]
      · have h4 : n > 23 := by omega
        simp [h, h3, h4, show Nat.beq 5 0 = false from rfl, show Nat.beq 5 1 = false from rfl, show Nat.beq 5 2 = false from rfl, show Nat.beq 5 3 = false from rfl, show Nat.beq 5 4 = false from rfl, show Nat.beq 5 5 = true from rfl]
theorem wrongP {t n : Int} (ht : 1 ≤ t ∧ t ≤ 5) (hn : 19 ≤ n) : F38.f (t, n) = some (!fit n t, ()) := by
  unfold F38.f F38.fP fit
  have hc : t = 1 ∨ t = 2 ∨ t = 3 ∨ t = 4 ∨ t = 5 := by omega
  rcases hc with rfl | rfl | rfl | rfl | rfl
  · by_cases h : 29 ≤ n
    · have : ¬ n < 29 := by omega
      simp [h, this]
    · have : n < 29 := by omega
      simp [h, this]
  · by_cases h : 23 ≤ n
    · have : ¬ n < 23 := by omega
      simp [h, this]
    · have : n < 23 := by omega
      simp [h, this]
  · by_cases h : 21 ≤ n
    · have : ¬ n < 21 := by omega
      simp [h, this]
    · have : n < 21 := by omega
      simp [h, this]
  · by_cases h : n = 19
    · subst h; simp
    · have h3 : ¬ n < 19 := by omega
      have h4 : n > 19 := by omega
      simp [h, h3, h4]
  · by_cases h : n = 23
    · subst h; simp
    · by_cases h3 : n < 23
      · simp [h, h3]
      · have h4 : n > 23 := by omega
        simp [h, h3, h4]
theorem rep16 : F21.l2 () () = some (List.replicate 16 255, ()) := by
  have h : F39.f ([255], 16) = some (List.replicate 16 255, ()) := by
    have hl : F39.l1 () ([255, 0, 0, 0, 0, 0, 0, 0, 0, 0, 0, 0, 0, 0, 0, 0], 1) = some (List.replicate 16 255, ()) := iterO_of ⟨5, by kernel_rfl⟩
    have e : F39.f ([255], 16) = (F39.l1 () ([255, 0, 0, 0, 0, 0, 0, 0, 0, 0, 0, 0, 0, 0, 0, 0], 1)).bind fun r0 =>
        bif decide (0 + List.length r0.fst ≤ List.length r0.fst) && true then some (List.take (List.length r0.fst) (List.drop 0 r0.fst), PUnit.unit) else none := by
      show F39.fP F39.l1 ([255], 16) = _
      generalize F39.l1 = g
      kernel_rfl
    rw [e, hl]
    rfl
  unfold F21.l2 F21.r2 F21.r2P
  simp only [h, Option.bind_some, le_all, cond_true, Bool.and_true, take_all]
theorem twoW {w : List Int} {n : Int} (hn : 0 ≤ n ∧ n ≤ 65535) (hw : w.length ≤ 1000) : F42.l1 ([n], 1) ((w, [], 0, true), 0) = some ((), w ++ [n / 256, n % 256], [], 0, true) := by
  refine iterO_of ⟨2, ?_⟩
  have r0 : F42.r1 ([n], 1) ((w, [], 0, true), 0) = some (.inl ((w ++ [n / 256, n % 256], [], 0, true), 1)) := by
    unfold F42.r1 F42.r1P
    have e1 : IntKind.u8.wrap (Int.fdiv n 256) = n / 256 := by rw [Int.fdiv_eq_ediv_of_nonneg _ (by omega), IntKind.wrap_u8]; omega
    have e2 : IntKind.u8.wrap n = n % 256 := by rw [IntKind.wrap_u8]
    have c1 : decide (w.length + 2 ≤ 1073741824) = true := decide_eq_true (by omega)
    have c2 : decide (0 + (w.length + 2) ≤ (w ++ [n / 256, n % 256]).length) = true := decide_eq_true (by simp)
    have e3 : (w ++ [n / 256, n % 256]).take (w.length + 2) = w ++ [n / 256, n % 256] := List.take_of_length_le (by simp)
    have e0 : [n].getD (0 + (0 : Int).toNat) 0 = n := rfl
    have d1 : decide ((0 : Int) < 1) = true := rfl
    have d2 : decide ((0 : Int) ≤ 0 ∧ (0 : Int) < ((([n] : List Int).length : Nat) : Int) ∧ 0 < ([n] : List Int).length) = true := rfl
    have d3 : decide (0 + (0 : Int).toNat < ([n] : List Int).length) = true := rfl
    simp only [d1, d2, d3, e0, e1, e2, c1, c2, e3, le_all, cond_true, cond_false, Bool.not_true, Bool.and_true, beq_self_eq_true, List.take_length, List.drop_zero]
    rfl
  rw [iterN_step, r0, scR_inl, iterN_step]
  rfl
theorem writeP {t : Int} {m : List Int} {n : Int} (hn : 0 ≤ n ∧ n ≤ 65535) (hm : m.length ≤ 5000) : F21.l3 ((t, m), n) (List.replicate 16 255) = some ((ahead n t ++ m, 0), ()) := by
  unfold F21.l3 F21.r3 F21.r3P
  have e16 : List.take (List.replicate 16 (255 : Int)).length (List.replicate 16 (255 : Int)) = List.replicate 16 255 := List.take_length
  have c1 : decide ((List.replicate 16 (255 : Int)).length = 0) = false := rfl
  have c2 : decide ((List.replicate 16 (255 : Int)).length ≤ 1073741824) = true := rfl
  have tw := twoW (w := List.replicate 16 255) hn (by simp)
  have en : IntKind.u16.wrap n = n := u16w hn
  generalize hw : List.replicate 16 (255 : Int) ++ [n / 256, n % 256] = w at tw
  have hwl : w.length = 18 := by rw [← hw]; simp
  have c3 : decide (w.length + 1 / OfNat.ofNat 1 ≤ 1073741824) = true := decide_eq_true (by rw [hwl]; decide)
  have c4 : decide (w.length + 1 / OfNat.ofNat 1 + m.length ≤ 1073741824) = true := decide_eq_true (by rw [hwl]; show 18 + 1 + m.length ≤ _; omega)
  have c5 : decide (0 + (w.length + 1 / OfNat.ofNat 1) ≤ (w ++ [t]).length) = true := decide_eq_true (by rw [List.length_append, hwl]; show 0 + (18 + 1) ≤ 18 + 1; omega)
  have e3 : (w ++ [t]).take (w.length + 1 / OfNat.ofNat 1) = w ++ [t] := List.take_of_length_le (by rw [List.length_append, hwl]; show 18 + 1 ≤ 18 + 1; omega)
  have c6 : decide (0 + (w.length + 1 / OfNat.ofNat 1 + m.length) ≤ (w ++ [t] ++ m).length) = true := decide_eq_true (by rw [List.length_append, List.length_append, hwl]; show 0 + (18 + 1 + m.length) ≤ 18 + 1 + m.length; omega)
  have e4 : (w ++ [t] ++ m).take (w.length + 1 / OfNat.ofNat 1 + m.length) = w ++ [t] ++ m := List.take_of_length_le (by rw [List.length_append, List.length_append, hwl]; show 18 + 1 + m.length ≤ 18 + 1 + m.length; omega)
  have ha : ahead n t ++ m = w ++ [t] ++ m := by rw [← hw]; simp [ahead]
  have done : F43.f (w ++ [t] ++ m, [], 0, true) = some ((w ++ [t] ++ m, 0), w ++ [t] ++ m, [], 0, true) := by
    unfold F43.f F43.fP
    have cl := clone (l := w ++ [t] ++ m) (by rw [List.length_append, List.length_append, hwl]; simp; omega)
    simp only [Bool.not_true, cond_false, bne_self_eq_false, le_all, cond_true, Bool.and_true, List.take_length, cl, Option.bind_some, take_all]
    rfl
  have n0 : ∀ (α : Type), List.take ([] : List α).length (List.drop 0 ([] : List α)) = [] := fun _ => rfl
  have l0 : ∀ (α : Type), decide (0 + ([] : List α).length ≤ ([] : List α).length) = true := fun _ => rfl
  simp only [le_all, cond_true, cond_false, e16, c1, c2, Bool.and_true, List.nil_append, take_all, en, tw, Option.bind_some, Bool.not_true, beq_self_eq_true, c3, c4, c5, c6, e3, e4, List.take_length, List.drop_zero, n0, l0, done, ha]
theorem bytesP {t : Int} {m : List Int} (ht : 0 ≤ t ∧ t ≤ 255) (hm : m.length ≤ 5000) : F21.f (t, m) = some (lay t m, ()) := by
  unfold F21.f F21.fP lay
  have w : IntKind.i64.wrap (19 + (m.length : Int)) = 19 + (m.length : Int) := wrap64_id (by omega)
  simp only [le_all, cond_true, Bool.and_true, List.take_length, w, badP (m := m) ht (show 19 ≤ 19 + (m.length : Int) by omega), Option.bind_some]
  cases hb : bad (19 + (m.length : Int)) t with
  | true => simp only [cond_true, if_true]
  | false =>
    simp only [cond_false, Bool.false_eq_true, if_false]
    by_cases hl : 4096 < 19 + (m.length : Int)
    · rw [if_pos hl, decide_eq_true (show 19 + (m.length : Int) > 4096 from hl)]
      rfl
    · rw [if_neg hl, decide_eq_false (show ¬ 19 + (m.length : Int) > 4096 from hl)]
      simp only [cond_false, rep16, Option.bind_some, le_all, cond_true, take_all, writeP (t := t) (m := m) (n := 19 + (m.length : Int)) (by omega) hm]
theorem ones22 : F22.l1 () ([], 0) = some (List.replicate 16 255, ()) := iterO_of ⟨17, by kernel_rfl⟩
theorem refP {t : Int} {m : List Int} (ht : 0 ≤ t ∧ t ≤ 255) (hm : m.length ≤ 5000) : F22.f (t, m) = some (lay t m, ()) := by
  unfold F22.f F22.fP lay
  have w : IntKind.i64.wrap (19 + (m.length : Int)) = 19 + (m.length : Int) := wrap64_id (by omega)
  by_cases h1 : t < 1
  · have hb : bad (19 + (m.length : Int)) t = true := by unfold bad; rw [decide_eq_true h1]; rfl
    rw [if_pos hb]
    simp only [decide_eq_true h1, cond_true]
  by_cases h2 : 5 < t
  · have hb : bad (19 + (m.length : Int)) t = true := by unfold bad; rw [decide_eq_true h2]; simp
    rw [if_pos hb]
    simp only [decide_eq_false h1, decide_eq_true (show t > 5 from h2), cond_true, cond_false]
  have hbad : bad (19 + (m.length : Int)) t = !fit (19 + (m.length : Int)) t := by unfold bad; rw [decide_eq_false h1, decide_eq_false h2]; rfl
  simp only [decide_eq_false h1, decide_eq_false (show ¬ t > 5 from h2), cond_false, w, wrongP (t := t) (n := 19 + (m.length : Int)) (by omega) (by omega), Option.bind_some, hbad]
  cases hf : fit (19 + (m.length : Int)) t with
  | false => simp only [Bool.not_false, cond_true, if_true]
  | true =>
    simp only [Bool.not_true, cond_false, Bool.false_eq_true, if_false]
    by_cases hl : 4096 < 19 + (m.length : Int)
    · rw [if_pos hl, decide_eq_true (show 19 + (m.length : Int) > 4096 from hl)]
      rfl
    · rw [if_neg hl, decide_eq_false (show ¬ 19 + (m.length : Int) > 4096 from hl)]
      have e1 : IntKind.u8.wrap (IntKind.i64.wrap ((19 + (m.length : Int)).tdiv 256)) = (19 + (m.length : Int)) / 256 := by
        rw [Int.tdiv_eq_ediv_of_nonneg (by omega), wrap64_id (by omega), IntKind.wrap_u8]; omega
      have e2 : IntKind.u8.wrap ((19 + (m.length : Int)).tmod 256) = (19 + (m.length : Int)) % 256 := by
        rw [Int.tmod_eq_emod_of_nonneg (by omega), IntKind.wrap_u8]; omega
      have c3 : decide ((List.replicate 16 (255 : Int)).length + 3 / OfNat.ofNat 1 ≤ 1073741824) = true := rfl
      have c4 : decide ((List.replicate 16 (255 : Int)).length + 3 / OfNat.ofNat 1 + m.length ≤ 1073741824) = true := decide_eq_true (by show 16 + 3 + m.length ≤ _; omega)
      have c5 : decide (0 + ((List.replicate 16 (255 : Int)).length + 3 / OfNat.ofNat 1) ≤ (List.replicate 16 (255 : Int) ++ [(19 + (m.length : Int)) / 256, (19 + (m.length : Int)) % 256, t]).length) = true := rfl
      have e3 : (List.replicate 16 (255 : Int) ++ [(19 + (m.length : Int)) / 256, (19 + (m.length : Int)) % 256, t]).take ((List.replicate 16 (255 : Int)).length + 3 / OfNat.ofNat 1) = List.replicate 16 (255 : Int) ++ [(19 + (m.length : Int)) / 256, (19 + (m.length : Int)) % 256, t] := rfl
      have c6 : decide (0 + ((List.replicate 16 (255 : Int)).length + 3 / OfNat.ofNat 1 + m.length) ≤ (List.replicate 16 (255 : Int) ++ [(19 + (m.length : Int)) / 256, (19 + (m.length : Int)) % 256, t] ++ m).length) = true := decide_eq_true (by rw [List.length_append]; show 0 + (16 + 3 + m.length) ≤ 19 + m.length; omega)
      have e4 : (List.replicate 16 (255 : Int) ++ [(19 + (m.length : Int)) / 256, (19 + (m.length : Int)) % 256, t] ++ m).take ((List.replicate 16 (255 : Int)).length + 3 / OfNat.ofNat 1 + m.length) = List.replicate 16 (255 : Int) ++ [(19 + (m.length : Int)) / 256, (19 + (m.length : Int)) % 256, t] ++ m := List.take_of_length_le (by rw [List.length_append]; show 19 + m.length ≤ 16 + 3 + m.length; omega)
      simp only [cond_false, ones22, Option.bind_some, c3, c4, le_all, cond_true, Bool.and_true, take_all, List.take_length, e1, e2, c5, e3, c6, e4, List.drop_zero]
      rfl
end Go.Proofs.YtnmgbheaabdhlaaDoor.PE

/- What stands on its own: function 15 says true. -/
namespace Go.Proofs.YtnmgbheaabdhlaaDoor.KA
open Go Go.Proofs Go.Proofs.YtnmgbheaabdhlaaDoor Go.RowKit Go.Proofs.YtnmgbheaabdhlaaDoor.Sx
theorem tells (W : World) (hW : GlobW W) : Calls Tryd.prog 15 #[] W (Law.Told W) :=
  law_of_F (H := Unit) (enc := fun _ => ()) (S := F15.i) (deep := true) (ts := []) (b := 0) (r := .any) (base := 0) (spare := fun _ => true) (held := true) (ds := []) (p := []) F15.meets (by kernel_rfl) (by kernel_rfl) (fun d _ => ⟨(), by cases d; exact PD.wakes⟩)
    (fun j t v h => by simp at h) (by constructor) hW
end Go.Proofs.YtnmgbheaabdhlaaDoor.KA

/- What comes of function 6 of this program, consulate.consulatelaw03.FrameLays, as the engine gives it. -/
namespace Go.Proofs.YtnmgbheaabdhlaaDoor.F6
open Go Go.Proofs Go.Proofs.YtnmgbheaabdhlaaDoor Go.RowKit Go.Proofs.YtnmgbheaabdhlaaDoor.Sx
set_option linter.unusedVariables false
set_option maxRecDepth 100000
def tab (x21 : F21.FT) (x22 : F22.FT) (x13 : F13.FT) : List (FuncId × Sx.Spec) := [(21, specF ⟨F21.i, F21.o, x21⟩), (22, specF ⟨F22.i, F22.o, x22⟩), (13, specF ⟨F13.i, F13.o, x13⟩), (15, pureS saysS)]
def pls (x21 : F21.FT) (x22 : F22.FT) (x13 : F13.FT) : List (FuncId × Plan) := []
@[reducible] def k1 : Sh := .nil
@[reducible] def i1 : Sh := .pt true 52 (.sc (.int .u8) (.sl false 5 (.sc (.int .u8) .nil) .nil)) .nil
@[reducible] def o1 : Sh := .nil
abbrev G1 := Unit → ((Int × List (Int))) → Option (Unit × ((Int × List (Int))))
def u1 (F : G1) : Un := ⟨36, [], k1, [1], i1, [], o1, [1], [(.normal, [])], F⟩
@[reducible] def k2 : Sh := .pt true 52 (.sc (.int .u8) (.sl false 5 (.sc (.int .u8) .nil) .nil)) .nil
@[reducible] def i2 : Sh := .nil
@[reducible] def o2 : Sh := .sl true 5 (.sc (.int .u8) .nil) (.sc (.int .i64) .nil)
abbrev G2 := ((Int × List (Int))) → Unit → Option ((List (Int) × Int) × Unit)
def u2 (F : G2) : Un := ⟨36, [1], k2, [], i2, [3, 4], o2, [1], [(.normal, [true, true])], F⟩
@[reducible] def k3 : Sh := .pt true 52 (.sc (.int .u8) (.sl false 5 (.sc (.int .u8) .nil) .nil)) .nil
@[reducible] def i3 : Sh := .nil
@[reducible] def o3 : Sh := .sl true 5 (.sc (.int .u8) .nil) (.sc (.int .i64) .nil)
abbrev G3 := ((Int × List (Int))) → Unit → Option ((List (Int) × Int) × Unit)
def u3 (F : G3) : Un := ⟨36, [1], k3, [], i3, [5, 6], o3, [3, 4], [(.normal, [true, true])], F⟩
@[reducible] def k4 : Sh := .sc (.int .i64) (.sc (.int .i64) .nil)
@[reducible] def i4 : Sh := .sl true 5 (.sc (.int .u8) .nil) (.sl true 5 (.sc (.int .u8) .nil) .nil)
@[reducible] def o4 : Sh := .sc .bool .nil
abbrev G4 := (Int × Int) → (List (Int) × List (Int)) → Option (Bool × Unit)
def u4 (F : G4) : Un := ⟨36, [4, 6], k4, [3, 5], i4, [2], o4, [], [(.normal, [true])], F⟩
@[reducible] def i : Sh := .ag none (.sc (.int .u8) (.sl false 5 (.sc (.int .u8) .nil) .nil)) .nil
@[reducible] def o : Sh := .sc .bool .nil
abbrev FT := ((Int × List (Int))) → Option (Bool × Unit)
theorem tabS : AllS Tryd.prog (tab F21.f F22.f F13.f) := ⟨F21.spec, F22.spec, F13.spec, says_ok (by kernel_rfl) KA.tells, trivial⟩
theorem plsP : AllP Tryd.prog (pls F21.f F22.f F13.f) := trivial
theorem mixed : Tryd.prog.follows .mixedOrders = true := by kernel_rfl
def r1P (x21 : F21.FT) (x22 : F22.FT) (x13 : F13.FT) : G1 := fun () (m0, m1) =>
    bif
       decide
       ((0 : Int) ≤
       (some (if (5000 : Int) < (↑m1.length : Int) then (5000 : Int) else (↑m1.length : Int))).getD
       (↑m1.length : Int) ∧
       (some (if (5000 : Int) < (↑m1.length : Int) then (5000 : Int) else (↑m1.length : Int))).getD
       (↑m1.length : Int) ≤
       (↑m1.length : Int) ∧
       (0 : Nat) + m1.length ≤ m1.length) then
      bif
       decide
       ((0 : Nat) +
       ((some (if (5000 : Int) < (↑m1.length : Int) then (5000 : Int) else (↑m1.length : Int))).getD
       (↑m1.length : Int)).toNat ≤
       m1.length) &&
       true then
       some
       (PUnit.unit, m0,
       List.take
       ((some (if (5000 : Int) < (↑m1.length : Int) then (5000 : Int) else (↑m1.length : Int))).getD
       (↑m1.length : Int)).toNat
       m1)
      else none
    else none
theorem r1e (x21 : F21.FT) (x22 : F22.FT) (x13 : F13.FT) (kd : Unit) (d : (Int × List (Int))) : unitF (tabC Tryd.prog (tab x21 x22 x13) (pls x21 x22 x13) 100 12) 100 .none (u1 fun _ _ => none) (codeAt [1, 0] (bodyOf Tryd.prog 6)) kd d = r1P x21 x22 x13 kd d := by kernel_rfl
noncomputable def r1 : G1 := r1P F21.f F22.f F13.f
noncomputable def l1 : G1 := r1
theorem ok1 : UnOk Tryd.prog (u1 l1) (codeAt [1, 0] (bodyOf Tryd.prog 6)) :=
  blockT (p := .none) (fuel := 100) (depth := 12) mixed tabS plsP trivial (fun kd d => r1e F21.f F22.f F13.f kd d)
def r2P (x21 : F21.FT) (x22 : F22.FT) (x13 : F13.FT) : G2 := fun (m0, m1) () =>
    bif decide ((0 : Nat) + m1.length ≤ m1.length) && true then
      (x21 (m0, List.take m1.length m1)).bind fun r0 =>
       bif decide ((0 : Nat) + r0.fst.fst.length ≤ r0.fst.fst.length) && true then
       some ((List.take r0.fst.fst.length (List.drop (0 : Nat) r0.fst.fst), r0.fst.snd), PUnit.unit)
       else none
    else none
theorem r2e (x21 : F21.FT) (x22 : F22.FT) (x13 : F13.FT) (kd : (Int × List (Int))) (d : Unit) : unitF (tabC Tryd.prog (tab x21 x22 x13) (pls x21 x22 x13) 100 12) 100 .none (u2 fun _ _ => none) (codeAt [1, 1, 0] (bodyOf Tryd.prog 6)) kd d = r2P x21 x22 x13 kd d := by kernel_rfl
noncomputable def r2 : G2 := r2P F21.f F22.f F13.f
noncomputable def l2 : G2 := r2
theorem ok2 : UnOk Tryd.prog (u2 l2) (codeAt [1, 1, 0] (bodyOf Tryd.prog 6)) :=
  blockT (p := .none) (fuel := 100) (depth := 12) mixed tabS plsP trivial (fun kd d => r2e F21.f F22.f F13.f kd d)
def r3P (x21 : F21.FT) (x22 : F22.FT) (x13 : F13.FT) : G3 := fun (m0, m1) () =>
    bif decide ((0 : Nat) + m1.length ≤ m1.length) && true then
      (x22 (m0, List.take m1.length m1)).bind fun r0 =>
       bif decide ((0 : Nat) + r0.fst.fst.length ≤ r0.fst.fst.length) && true then
       some ((List.take r0.fst.fst.length (List.drop (0 : Nat) r0.fst.fst), r0.fst.snd), PUnit.unit)
       else none
    else none
theorem r3e (x21 : F21.FT) (x22 : F22.FT) (x13 : F13.FT) (kd : (Int × List (Int))) (d : Unit) : unitF (tabC Tryd.prog (tab x21 x22 x13) (pls x21 x22 x13) 100 12) 100 .none (u3 fun _ _ => none) (codeAt [1, 1, 1, 0] (bodyOf Tryd.prog 6)) kd d = r3P x21 x22 x13 kd d := by kernel_rfl
noncomputable def r3 : G3 := r3P F21.f F22.f F13.f
noncomputable def l3 : G3 := r3
theorem ok3 : UnOk Tryd.prog (u3 l3) (codeAt [1, 1, 1, 0] (bodyOf Tryd.prog 6)) :=
  blockT (p := .none) (fuel := 100) (depth := 12) mixed tabS plsP trivial (fun kd d => r3e F21.f F22.f F13.f kd d)
def r4P (x21 : F21.FT) (x22 : F22.FT) (x13 : F13.FT) : G4 := fun (e, f_2) (b, c) =>
    bif decide ((0 : Nat) + b.length ≤ b.length) && true then
      bif decide ((0 : Nat) + c.length ≤ c.length) && true then
       (x13 (List.take b.length b, List.take c.length c)).bind fun r0 =>
       bif r0.fst then bif e == f_2 then some (true, PUnit.unit) else some (false, PUnit.unit)
       else some (false, PUnit.unit)
      else none
    else none
theorem r4e (x21 : F21.FT) (x22 : F22.FT) (x13 : F13.FT) (kd : Int × Int) (d : List (Int) × List (Int)) : unitF (tabC Tryd.prog (tab x21 x22 x13) (pls x21 x22 x13) 100 12) 100 .none (u4 fun _ _ => none) (codeAt [1, 1, 1, 1, 0] (bodyOf Tryd.prog 6)) kd d = r4P x21 x22 x13 kd d := by kernel_rfl
noncomputable def r4 : G4 := r4P F21.f F22.f F13.f
noncomputable def l4 : G4 := r4
theorem ok4 : UnOk Tryd.prog (u4 l4) (codeAt [1, 1, 1, 1, 0] (bodyOf Tryd.prog 6)) :=
  blockT (p := .none) (fuel := 100) (depth := 12) mixed tabS plsP trivial (fun kd d => r4e F21.f F22.f F13.f kd d)
def fP (x21 : F21.FT) (x22 : F22.FT) (x13 : F13.FT) (l1 : G1) (l2 : G2) (l3 : G3) (l4 : G4) : FT := fun (m0, m1) =>
    bif decide ((0 : Nat) + m1.length ≤ m1.length) && true then
      (l1 PUnit.unit (m0, List.take m1.length m1)).bind fun r0 =>
       (l2 r0.snd PUnit.unit).bind fun r1 =>
       (l3 r0.snd PUnit.unit).bind fun r2 =>
       bif decide ((0 : Nat) + r1.fst.fst.length ≤ r1.fst.fst.length) && true then
       bif decide ((0 : Nat) + r2.fst.fst.length ≤ r2.fst.fst.length) && true then
       (l4 (r1.fst.snd, r2.fst.snd)
       (List.take r1.fst.fst.length (List.drop (0 : Nat) r1.fst.fst),
       List.take r2.fst.fst.length (List.drop (0 : Nat) r2.fst.fst))).bind
       fun r3 => some (r3.fst, PUnit.unit)
       else none
       else none
    else none
theorem fe (x21 : F21.FT) (x22 : F22.FT) (x13 : F13.FT) (l1 : G1) (l2 : G2) (l3 : G3) (l4 : G4) (d : (Int × List (Int))) : bodyF (tabC Tryd.prog (tab x21 x22 x13) ((6, (.node .none (.node (.unit (u1 l1)) (.node (.unit (u2 l2)) (.node (.unit (u3 l3)) (.node (.unit (u4 l4)) .none)))))) :: pls x21 x22 x13) 100 12) 100 6 i o d = fP x21 x22 x13 l1 l2 l3 l4 d := by kernel_rfl
noncomputable def f : FT := fP F21.f F22.f F13.f l1 l2 l3 l4
def plan (l1 : G1) (l2 : G2) (l3 : G3) (l4 : G4) : Plan := (.node .none (.node (.unit (u1 l1)) (.node (.unit (u2 l2)) (.node (.unit (u3 l3)) (.node (.unit (u4 l4)) .none)))))
theorem planOk : PlanOk Tryd.prog (plan l1 l2 l3 l4) (bodyOf Tryd.prog 6) := (planOk_of (plan l1 l2 l3 l4) _ [([1, 0], u1 l1), ([1, 1, 0], u2 l2), ([1, 1, 1, 0], u3 l3), ([1, 1, 1, 1, 0], u4 l4)] rfl ⟨ok1, ok2, ok3, ok4, trivial⟩)
theorem meets : MeetsF Tryd.prog 6 ⟨i, o, f⟩ :=
  funcT (fuel := 100) (depth := 12) (pl := (6, plan l1 l2 l3 l4) :: pls F21.f F22.f F13.f) mixed tabS ⟨planOk, plsP⟩ (fun d => fe F21.f F22.f F13.f l1 l2 l3 l4 d)
theorem spec : SpecOk Tryd.prog (fun _ => none) 6 (specF ⟨i, o, f⟩) := specF_ok (by kernel_rfl) meets
end Go.Proofs.YtnmgbheaabdhlaaDoor.F6

/- Chapter 3: a message's bytes are the document's: the law. -/
namespace Go.Proofs.YtnmgbheaabdhlaaDoor.PF
open Go Go.Proofs Go.Proofs.YtnmgbheaabdhlaaDoor.Sx Go.Proofs.YtnmgbheaabdhlaaDoor.PA Go.Proofs.YtnmgbheaabdhlaaDoor.PB Go.Proofs.YtnmgbheaabdhlaaDoor.PC Go.Proofs.YtnmgbheaabdhlaaDoor.PD Go.Proofs.YtnmgbheaabdhlaaDoor.PE
set_option linter.unusedSimpArgs false
set_option linter.unusedVariables false
theorem min_of (x : Nat) : ((some (if (5000 : Int) < (x : Int) then (5000 : Int) else (x : Int))).getD (x : Int)) = ((min x 5000 : Nat) : Int) := by
  simp only [Option.getD_some]
  split <;> omega
theorem law (t : Int) (m : List Int) (ht : 0 ≤ t ∧ t ≤ 255) : ∃ q, F6.f (t, m) = some (true, q) := by
  have cut : F6.l1 () (t, m) = some ((), t, m.take 5000) := by
    unfold F6.l1 F6.r1 F6.r1P
    have c1 : decide ((0 : Int) ≤ ((min m.length 5000 : Nat) : Int) ∧ ((min m.length 5000 : Nat) : Int) ≤ (m.length : Int) ∧ 0 + m.length ≤ m.length) = true := decide_eq_true (by omega)
    have e1 : ((min m.length 5000 : Nat) : Int).toNat = min m.length 5000 := by omega
    have c2 : decide (0 + min m.length 5000 ≤ m.length) = true := decide_eq_true (by omega)
    have e2 : m.take (min m.length 5000) = m.take 5000 := by rw [Nat.min_comm, ← List.take_take, List.take_length]
    simp only [min_of, c1, e1, c2, cond_true, Bool.and_true, e2]
  have hl : (m.take 5000).length ≤ 5000 := by rw [List.length_take]; omega
  have b1 : F6.l2 (t, m.take 5000) () = some (((lay t (m.take 5000)).1, (lay t (m.take 5000)).2), ()) := by
    unfold F6.l2 F6.r2 F6.r2P
    simp only [le_all, cond_true, Bool.and_true, List.take_length, bytesP ht hl, Option.bind_some, take_all]
  have b2 : F6.l3 (t, m.take 5000) () = some (((lay t (m.take 5000)).1, (lay t (m.take 5000)).2), ()) := by
    unfold F6.l3 F6.r3 F6.r3P
    simp only [le_all, cond_true, Bool.and_true, List.take_length, refP ht hl, Option.bind_some, take_all]
  have b4 : F6.l4 ((lay t (m.take 5000)).2, (lay t (m.take 5000)).2) ((lay t (m.take 5000)).1, (lay t (m.take 5000)).1) = some (true, ()) := by
    unfold F6.l4 F6.r4 F6.r4P
    simp only [le_all, cond_true, Bool.and_true, List.take_length, equalP, Option.bind_some, beq_self_eq_true]
  refine ⟨(), ?_⟩
  unfold F6.f F6.fP
  simp only [le_all, cond_true, Bool.and_true, List.take_length, cut, b1, b2, b4, Option.bind_some, take_all]
theorem lays (d : Den F6.i) (hd : wfD F6.i d) : ∃ q, F6.f d = some (true, q) := by
  obtain ⟨t, m⟩ := d
  have h : 0 ≤ t ∧ t ≤ 255 := hd.1.1
  exact law t m h
end Go.Proofs.YtnmgbheaabdhlaaDoor.PF
