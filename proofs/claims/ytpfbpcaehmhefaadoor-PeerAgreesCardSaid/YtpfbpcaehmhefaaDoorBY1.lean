/- Chapter 15: what is agreed on: the program's and the document's. -/
import Derived.Test.YtpfbpcaehmhefaaDoorBX1
import Derived.Test.YtpfbpcaehmhefaaDoorBZP
import Derived.Test.YtpfbpcaehmhefaaDoorBZK
import Derived.IntWalk
namespace Go.Proofs.YtpfbpcaehmhefaaDoorB.PA
open Go Go.Proofs Go.Proofs.YtpfbpcaehmhefaaDoorB.Sx
set_option linter.unusedSimpArgs false
set_option linter.unusedVariables false
abbrev Cp := Int × List Int
theorem le_all (n : Nat) : decide (0 + n ≤ n) = true := decide_eq_true (by omega)
theorem take_all {α : Type} (l : List α) : List.take l.length (List.drop 0 l) = l := by simp
theorem loopN {α β : Type} {f : α → Option (α ⊕ β)} (S : Nat → α) (n : Nat) {r : β} (h1 : ∀ i, i < n → f (S i) = some (.inl (S (i + 1)))) (h2 : f (S n) = some (.inr r)) : iterO f (S 0) = some r := by
  have key : ∀ k i, i + k = n → iterO f (S i) = some r := by
    intro k
    induction k with
    | zero => intro i hi; rw [show i = n by omega]; exact iterO_done h2
    | succ k ih => intro i hi; rw [iterO_step (h1 i (by omega))]; exact ih (i + 1) (by omega)
  exact key n 0 (by omega)
theorem at_ok {α : Type} {ps : List α} {i : Nat} (h : i < ps.length) : decide ((0 : Int) ≤ (i : Int) ∧ (i : Int) < (ps.length : Int) ∧ 0 < ps.length) = true ∧ decide (0 + (i : Int).toNat < ps.length) = true := ⟨decide_eq_true (by omega), decide_eq_true (by omega)⟩
theorem getC {l : List Cp} {i : Nat} (h : i < l.length) : l.getD (0 + (i : Int).toNat) (0, []) = l[i] := by
  rw [show 0 + (i : Int).toNat = i by omega, List.getD_eq_getElem?_getD, List.getElem?_eq_getElem h]
  rfl
/-- One of a code, of so many bytes. -/
def pq (k m : Int) (c : Cp) : Bool := c.1 == k && ((c.2.length : Int) == m)
def ix (k m : Int) (l : List Cp) : Nat := l.findIdx (pq k m)
theorem ix_no {k m : Int} {l : List Cp} {i : Nat} (h : i < ix k m l) (hi : i < l.length) : pq k m l[i] = false := by
  have := List.not_of_lt_findIdx h
  simpa using this
theorem ix_yes {k m : Int} {l : List Cp} (h : ix k m l < l.length) : pq k m l[ix k m l] = true := List.findIdx_getElem (w := h)
theorem ix_le (k m : Int) (l : List Cp) : ix k m l ≤ l.length := List.findIdx_le_length
section
variable {l : List Cp} (hl : l.length ≤ 1000000)
include hl
theorem ixA (k : Int) : F71A.f (l, k, ()) = some (if ix k 0 l < l.length then (ix k 0 l : Int) else -1, ()) := by
  have key : F71A.l1 (l, (k, ()), (l.length : Int)) (OfNat.ofNat 0) = some (if ix k 0 l < l.length then (1, (ix k 0 l : Int)) else (0, 0), ()) := by
    refine loopN (S := fun i => (i : Int)) (ix k 0 l) (fun i hi => ?_) ?_
    · show F71A.r1P _ (i : Int) = _
      unfold F71A.r1P
      have hil : i < l.length := by have := ix_le k 0 l; omega
      have c1 : decide ((i : Int) < (l.length : Int)) = true := decide_eq_true (by omega)
      have hn := ix_no hi hil
      unfold pq at hn
      simp only [c1, cond_true, (at_ok hil).1, (at_ok hil).2, getC hil]
      rw [wrap64_id (n := (i : Int) + 1) (by omega)]
      cases h1 : l[i].1 == k with
      | false => simp only [cond_false]; rfl
      | true =>
        rw [h1, Bool.true_and] at hn
        simp only [hn, cond_false, cond_true]; rfl
    · show F71A.r1P _ (ix k 0 l : Int) = _
      unfold F71A.r1P
      by_cases h : ix k 0 l < l.length
      · have c1 : decide ((ix k 0 l : Int) < (l.length : Int)) = true := decide_eq_true (by omega)
        have hn := ix_yes h
        unfold pq at hn
        rw [Bool.and_eq_true] at hn
        simp only [c1, cond_true, (at_ok h).1, (at_ok h).2, getC h, hn.1, hn.2, if_pos h]
      · have c1 : decide ((ix k 0 l : Int) < (l.length : Int)) = false := decide_eq_false (by omega)
        simp only [c1, cond_false, if_neg h]
  unfold F71A.f F71A.fP
  simp only [le_all, cond_true, Bool.and_true, List.take_length, key, Option.bind_some]
  by_cases h : ix k 0 l < l.length
  · simp only [if_pos h]; rfl
  · simp only [if_neg h]; rfl
theorem ixB (k : Int) : F71B.f (l, k, ()) = some (if ix k 4 l < l.length then (ix k 4 l : Int) else -1, ()) := by
  have key : F71B.l1 (l, (k, ()), (l.length : Int)) (OfNat.ofNat 0) = some (if ix k 4 l < l.length then (1, (ix k 4 l : Int)) else (0, 0), ()) := by
    refine loopN (S := fun i => (i : Int)) (ix k 4 l) (fun i hi => ?_) ?_
    · show F71B.r1P _ (i : Int) = _
      unfold F71B.r1P
      have hil : i < l.length := by have := ix_le k 4 l; omega
      have c1 : decide ((i : Int) < (l.length : Int)) = true := decide_eq_true (by omega)
      have hn := ix_no hi hil
      unfold pq at hn
      simp only [c1, cond_true, (at_ok hil).1, (at_ok hil).2, getC hil]
      rw [wrap64_id (n := (i : Int) + 1) (by omega)]
      cases h1 : l[i].1 == k with
      | false => simp only [cond_false]; rfl
      | true =>
        rw [h1, Bool.true_and] at hn
        simp only [hn, cond_false, cond_true]; rfl
    · show F71B.r1P _ (ix k 4 l : Int) = _
      unfold F71B.r1P
      by_cases h : ix k 4 l < l.length
      · have c1 : decide ((ix k 4 l : Int) < (l.length : Int)) = true := decide_eq_true (by omega)
        have hn := ix_yes h
        unfold pq at hn
        rw [Bool.and_eq_true] at hn
        simp only [c1, cond_true, (at_ok h).1, (at_ok h).2, getC h, hn.1, hn.2, if_pos h]
      · have c1 : decide ((ix k 4 l : Int) < (l.length : Int)) = false := decide_eq_false (by omega)
        simp only [c1, cond_false, if_neg h]
  unfold F71B.f F71B.fP
  simp only [le_all, cond_true, Bool.and_true, List.take_length, key, Option.bind_some]
  by_cases h : ix k 4 l < l.length
  · simp only [if_pos h]; rfl
  · simp only [if_neg h]; rfl
def rf (l : List Cp) : Bool := decide (ix 2 0 l < l.length)
theorem refreshes : F49.f l = some (rf l, ()) := by
  have h2 : F71A.f (l, OfNat.ofNat 2, PUnit.unit) = _ := ixA hl 2
  unfold F49.f F49.fP
  simp only [le_all, cond_true, Bool.and_true, List.take_length, h2, Option.bind_some]
  unfold rf
  by_cases h : ix 2 0 l < l.length
  · simp only [if_pos h, decide_eq_true h]
    have c1 : decide ((ix 2 0 l : Int) < 0) = false := decide_eq_false (by omega)
    simp only [c1, cond_false, (at_ok h).1, (at_ok h).2, cond_true]
  · simp only [if_neg h, decide_eq_false h]
    rfl
theorem refreshesR : F53.f l = some (rf l, ()) := by
  have key : F53.l1 l (OfNat.ofNat 0) = some (if ix 2 0 l < l.length then (1, true) else (0, false), ()) := by
    refine loopN (S := fun i => (i : Int)) (ix 2 0 l) (fun i hi => ?_) ?_
    · show F53.r1P _ (i : Int) = _
      unfold F53.r1P
      have hil : i < l.length := by have := ix_le 2 0 l; omega
      have c1 : decide ((i : Int) < (l.length : Int)) = true := decide_eq_true (by omega)
      have hn := ix_no hi hil
      unfold pq at hn
      simp only [c1, cond_true, (at_ok hil).1, (at_ok hil).2, getC hil]
      rw [wrap64_id (n := (i : Int) + 1) (by omega)]
      cases h1 : l[i].1 == 2 with
      | false => simp only [cond_false]; rfl
      | true =>
        rw [h1, Bool.true_and] at hn
        simp only [hn, cond_false, cond_true]; rfl
    · show F53.r1P _ (ix 2 0 l : Int) = _
      unfold F53.r1P
      by_cases h : ix 2 0 l < l.length
      · have c1 : decide ((ix 2 0 l : Int) < (l.length : Int)) = true := decide_eq_true (by omega)
        have hn := ix_yes h
        unfold pq at hn
        rw [Bool.and_eq_true] at hn
        simp only [c1, cond_true, (at_ok h).1, (at_ok h).2, getC h, hn.1, hn.2, if_pos h]
      · have c1 : decide ((ix 2 0 l : Int) < (l.length : Int)) = false := decide_eq_false (by omega)
        simp only [c1, cond_false, if_neg h]
  unfold F53.f F53.fP
  simp only [le_all, cond_true, Bool.and_true, List.take_length, key, Option.bind_some]
  unfold rf
  by_cases h : ix 2 0 l < l.length
  · simp only [if_pos h, decide_eq_true h]; rfl
  · simp only [if_neg h, decide_eq_false h]; rfl
end
/-! ### Four bytes -/
def Byts (v : List Int) : Prop := ∀ x ∈ v, 0 ≤ x ∧ x ≤ 255
def big (v : List Int) : Int := 16777216 * v.getD 0 0 + 65536 * v.getD 1 0 + 256 * v.getD 2 0 + v.getD 3 0
theorem orN {n c : Int} (h0 : 0 ≤ n ∧ n ≤ 16777215) (hc : 0 ≤ c ∧ c ≤ 255) : IntKind.u32.wrap (((IntKind.u32.wrap (IntKind.u32.wrap (n * 128) * 2) % 4294967296).toNat ||| (IntKind.u32.wrap c % 4294967296).toNat : Nat) : Int) = 256 * n + c := by
  rw [IntWalk.u32_in (n * 128) (by omega), IntWalk.u32_in (n * 128 * 2) (by omega), IntWalk.u32_in c (by omega), Int.emod_eq_of_lt (by omega) (by omega), Int.emod_eq_of_lt (by omega) (by omega)]
  obtain ⟨m, rfl⟩ : ∃ m : Nat, n = (m : Int) := ⟨n.toNat, by omega⟩
  obtain ⟨d, rfl⟩ : ∃ d : Nat, c = (d : Int) := ⟨c.toNat, by omega⟩
  have e := Nat.two_pow_add_eq_or_of_lt (b := d) (i := 8) (by omega) m
  have e1 : ((m : Int) * 128 * 2).toNat = 2 ^ 8 * m := by omega
  rw [e1, Int.toNat_natCast, ← e]
  rw [IntWalk.u32_in _ (by omega)]
  omega
theorem step4 {v : List Int} (hb : Byts v) {n : Int} (h0 : 0 ≤ n ∧ n ≤ 16777215) {i : Nat} (hi : i < v.length) (hv : v.length = 4) : F73.r1 (v, (v.length : Int)) (n, (i : Int)) = some (.inl (256 * n + v[i], ((i + 1 : Nat) : Int))) := by
  show F73.r1P F85.f (v, (v.length : Int)) (n, (i : Int)) = _
  unfold F73.r1P
  have c1 : decide ((i : Int) < (v.length : Int)) = true := decide_eq_true (by omega)
  have e : v.getD (0 + (i : Int).toNat) 0 = v[i] := by
    rw [show 0 + (i : Int).toNat = i by omega, List.getD_eq_getElem?_getD, List.getElem?_eq_getElem hi]
    rfl
  simp only [c1, cond_true, (at_ok hi).1, (at_ok hi).2, e, orN h0 (hb _ (List.getElem_mem hi))]
  rw [wrap64_id (n := (i : Int) + 1) (by omega)]
  rfl
theorem loop4 {v : List Int} (hb : Byts v) (hv : v.length = 4) : F73.l1 (v, (v.length : Int)) (0, 0) = some (big v, ()) := by
  have b0 := hb _ (List.getElem_mem (show 0 < v.length by omega))
  have b1 := hb _ (List.getElem_mem (show 1 < v.length by omega))
  have b2 := hb _ (List.getElem_mem (show 2 < v.length by omega))
  have s0 := step4 hb (n := 0) (by omega) (i := 0) (by omega) hv
  have s1 := step4 hb (n := 256 * 0 + v[0]) (by omega) (i := 1) (by omega) hv
  have s2 := step4 hb (n := 256 * (256 * 0 + v[0]) + v[1]) (by omega) (i := 2) (by omega) hv
  have s3 := step4 hb (n := 256 * (256 * (256 * 0 + v[0]) + v[1]) + v[2]) (by omega) (i := 3) (by omega) hv
  show iterO (F73.r1 (v, (v.length : Int))) (0, 0) = _
  have e0 : ((0 : Int), (0 : Int)) = (0, ((0 : Nat) : Int)) := rfl
  rw [e0]
  refine (iterO_step s0).trans ((iterO_step s1).trans ((iterO_step s2).trans ((iterO_step s3).trans (iterO_done ?_))))
  show F73.r1P F85.f (v, (v.length : Int)) (_, ((4 : Nat) : Int)) = _
  unfold F73.r1P
  have c1 : decide (((4 : Nat) : Int) < (v.length : Int)) = false := decide_eq_false (by omega)
  simp only [c1, cond_false]
  have g : ∀ k, (h : k < v.length) → v.getD k 0 = v[k] := fun k h => by
    rw [List.getD_eq_getElem?_getD, List.getElem?_eq_getElem h]; rfl
  unfold big
  rw [g 0 (by omega), g 1 (by omega), g 2 (by omega), g 3 (by omega)]
  congr 3
  omega
theorem four {v : List Int} (hb : Byts v) (hv : v.length = 4) : ∃ r q, F66.f v = some (r, ()) ∧ F67.f r = some (big v, q) := by
  have hl := loop4 hb hv
  match v, hv with
  | [a, b, c, d], _ =>
    have e6 : F66.f [a, b, c, d] = some (([a, b, c, d], 0, [4], 0), ()) := by kernel_rfl
    have e8 : F85.f (([a, b, c, d], 0, [4], 0), 4) = some ([a, b, c, d], [a, b, c, d], 4, [4], 0) := by kernel_rfl
    refine ⟨_, ([a, b, c, d], 4, [4], 0), e6, ?_⟩
    have e7 : F73.f (([a, b, c, d], 0, [4], 0), 4) = some (big [a, b, c, d], [a, b, c, d], 4, [4], 0) := by
      unfold F73.f F73.fP
      simp only [e8, Option.bind_some]
      have hl2 : F73.l1 (List.take [a, b, c, d].length (List.drop 0 [a, b, c, d]), ([a, b, c, d].length : Int)) (0, 0) = some (big [a, b, c, d], ()) := hl
      simp only [le_all, Bool.and_true, cond_true, hl2, Option.bind_some]
    unfold F67.f F67.fP
    simp only [e7, Option.bind_some]
section
variable {l : List Cp} (hl : l.length ≤ 1000000) (hb : ∀ c ∈ l, Byts c.2)
include hl hb
def nm (l : List Cp) : Int × Bool := if h : ix 65 4 l < l.length then (big l[ix 65 4 l].2, true) else (0, false)
theorem number : F51.f l = some (nm l, ()) := by
  have h2 : F71B.f (l, OfNat.ofNat 65, PUnit.unit) = _ := ixB hl 65
  unfold F51.f F51.fP
  simp only [le_all, cond_true, Bool.and_true, List.take_length, h2, Option.bind_some]
  unfold nm
  by_cases h : ix 65 4 l < l.length
  · have hn := ix_yes h
    unfold pq at hn
    rw [Bool.and_eq_true, beq_iff_eq, beq_iff_eq] at hn
    have hv : l[ix 65 4 l].2.length = 4 := by omega
    obtain ⟨r, q, e1, e2⟩ := four (hb _ (List.getElem_mem h)) hv
    have c1 : decide ((ix 65 4 l : Int) < 0) = false := decide_eq_false (by omega)
    simp only [if_pos h, dif_pos h, c1, cond_false, (at_ok h).1, (at_ok h).2, cond_true, getC h, take_all, e1, Option.bind_some, e2]
  · simp only [if_neg h, dif_neg h]
    rfl
theorem numberR : F54.f l = some (nm l, ()) := by
  have key : F54.l1 l (OfNat.ofNat 0) = some (if h : ix 65 4 l < l.length then (1, big l[ix 65 4 l].2, true) else (0, 0, false), ()) := by
    refine loopN (S := fun i => (i : Int)) (ix 65 4 l) (fun i hi => ?_) ?_
    · show F54.r1P _ (i : Int) = _
      unfold F54.r1P
      have hil : i < l.length := by have := ix_le 65 4 l; omega
      have c1 : decide ((i : Int) < (l.length : Int)) = true := decide_eq_true (by omega)
      have hn := ix_no hi hil
      unfold pq at hn
      simp only [c1, cond_true, (at_ok hil).1, (at_ok hil).2, getC hil]
      rw [wrap64_id (n := (i : Int) + 1) (by omega)]
      cases h1 : l[i].1 == 65 with
      | false => simp only [cond_false]; rfl
      | true =>
        rw [h1, Bool.true_and] at hn
        simp only [hn, cond_false, cond_true]; rfl
    · show F54.r1P _ (ix 65 4 l : Int) = _
      unfold F54.r1P
      by_cases h : ix 65 4 l < l.length
      · have c1 : decide ((ix 65 4 l : Int) < (l.length : Int)) = true := decide_eq_true (by omega)
        have hn := ix_yes h
        unfold pq at hn
        rw [Bool.and_eq_true] at hn
        have hn2 := hn.2
        rw [beq_iff_eq] at hn2
        have hv : l[ix 65 4 l].2.length = 4 := by omega
        have hbb := hb _ (List.getElem_mem h)
        simp only [c1, cond_true, (at_ok h).1, (at_ok h).2, getC h, hn.1, hn.2, dif_pos h]
        generalize l[ix 65 4 l].2 = v at *
        have b : ∀ k, k < 4 → 0 ≤ v.getD k 0 ∧ v.getD k 0 ≤ 255 := fun k hk => by
          have hk2 : k < v.length := by omega
          rw [List.getD_eq_getElem?_getD, List.getElem?_eq_getElem hk2]
          exact hbb _ (List.getElem_mem hk2)
        have b0 := b 0 (by omega)
        have b1 := b 1 (by omega)
        have b2 := b 2 (by omega)
        have b3 := b 3 (by omega)
        have d1 : decide ((0 : Int) ≤ 0 ∧ (0 : Int) < (v.length : Int) ∧ 0 < v.length) = true := decide_eq_true (by omega)
        have d2 : decide ((0 : Int) ≤ 1 ∧ (1 : Int) < (v.length : Int) ∧ 0 < v.length) = true := decide_eq_true (by omega)
        have d3 : decide ((0 : Int) ≤ 2 ∧ (2 : Int) < (v.length : Int) ∧ 0 < v.length) = true := decide_eq_true (by omega)
        have d4 : decide ((0 : Int) ≤ 3 ∧ (3 : Int) < (v.length : Int) ∧ 0 < v.length) = true := decide_eq_true (by omega)
        have f1 : decide (0 < v.length) = true := decide_eq_true (by omega)
        have f2 : decide (1 < v.length) = true := decide_eq_true (by omega)
        have f3 : decide (2 < v.length) = true := decide_eq_true (by omega)
        have f4 : decide (3 < v.length) = true := decide_eq_true (by omega)
        simp only [d1, d2, d3, d4, f1, f2, f3, f4, cond_true]
        unfold big
        generalize v.getD 0 0 = x0 at *
        generalize v.getD 1 0 = x1 at *
        generalize v.getD 2 0 = x2 at *
        generalize v.getD 3 0 = x3 at *
        rw [IntWalk.u32_in x0 (by omega), IntWalk.u32_in x1 (by omega), IntWalk.u32_in x2 (by omega), IntWalk.u32_in x3 (by omega), IntWalk.u32_in (x0 * 16777216) (by omega), IntWalk.u32_in (x1 * 65536) (by omega), IntWalk.u32_in (x2 * 256) (by omega), IntWalk.u32_in (x0 * 16777216 + x1 * 65536) (by omega), IntWalk.u32_in (x0 * 16777216 + x1 * 65536 + x2 * 256) (by omega), IntWalk.u32_in (x0 * 16777216 + x1 * 65536 + x2 * 256 + x3) (by omega)]
        congr 5
        omega
      · have c1 : decide ((ix 65 4 l : Int) < (l.length : Int)) = false := decide_eq_false (by omega)
        simp only [c1, cond_false, dif_neg h]
  unfold F54.f F54.fP
  simp only [le_all, cond_true, Bool.and_true, List.take_length, key, Option.bind_some]
  unfold nm
  by_cases h : ix 65 4 l < l.length
  · simp only [dif_pos h]; rfl
  · simp only [dif_neg h]; rfl
end
/-! ### Times -/
theorem times {a b : Int} (ha : -9223372036854775808 ≤ a ∧ a ≤ 9223372036854775807) (hb : -9223372036854775808 ≤ b ∧ b ≤ 9223372036854775807) : ∃ p, F50.f (a, b) = some (p, ()) ∧ F52.f (a, b) = some (p, ()) := by
  have half : ∀ h : Int, h ≤ 9223372036854775807 → ∃ p : Int × Int, (bif decide (h ≤ 0) then some ((0, 0), PUnit.unit) else bif decide (h < 3) then some ((h, 1), PUnit.unit) else some ((h, IntKind.i64.wrap (h.tdiv 3)), PUnit.unit)) = some (p, ()) ∧
      (bif (if 0 > h then 0 else h) == 0 then some ((0, 0), PUnit.unit) else some ((if 0 > h then 0 else h, if 1 > IntKind.i64.wrap ((if 0 > h then 0 else h).tdiv 3) then 1 else IntKind.i64.wrap ((if 0 > h then 0 else h).tdiv 3)), PUnit.unit)) = some (p, ()) := by
    intro h hle
    by_cases h0 : h ≤ 0
    · refine ⟨(0, 0), by rw [decide_eq_true h0]; rfl, ?_⟩
      have e : (if 0 > h then (0 : Int) else h) = 0 := by split <;> omega
      rw [e]
      rfl
    · have e : (if 0 > h then (0 : Int) else h) = h := if_neg (by omega)
      have e2 : (h == 0) = false := beq_eq_false_iff_ne.2 (by omega)
      have e3 : IntKind.i64.wrap (h.tdiv 3) = h / 3 := by
        rw [Int.tdiv_eq_ediv_of_nonneg (by omega)]
        exact wrap64_id (by omega)
      rw [e, e2, e3, decide_eq_false h0]
      by_cases h3 : h < 3
      · refine ⟨(h, 1), by rw [decide_eq_true h3]; rfl, ?_⟩
        rw [if_pos (by omega)]
        rfl
      · refine ⟨(h, h / 3), by rw [decide_eq_false h3]; rfl, ?_⟩
        rw [if_neg (by omega)]
        rfl
  by_cases h : b < a
  · obtain ⟨p, h1, h2⟩ := half b hb.2
    refine ⟨p, ?_, ?_⟩
    · show F50.fP (a, b) = _
      unfold F50.fP
      simp only [if_pos h]
      exact h2
    · show F52.fP (a, b) = _
      unfold F52.fP
      simp only [decide_eq_true h, cond_true]
      exact h1
  · obtain ⟨p, h1, h2⟩ := half a ha.2
    refine ⟨p, ?_, ?_⟩
    · show F50.fP (a, b) = _
      unfold F50.fP
      simp only [if_neg h]
      exact h2
    · show F52.fP (a, b) = _
      unfold F52.fP
      simp only [decide_eq_false h, cond_false]
      exact h1
/-! ### Agreed -/
theorem agree {a b w : Int} {l : List Cp} (hl : l.length ≤ 1000000) (hb : ∀ c ∈ l, Byts c.2) (ha : -9223372036854775808 ≤ a ∧ a ≤ 9223372036854775807) (hbb : -9223372036854775808 ≤ b ∧ b ≤ 9223372036854775807) :
    ∃ r, F8.f (a, b, w, l) = some (r, ()) ∧ F9.f (a, b, w, l) = some (r, ()) := by
  obtain ⟨p, h1, h2⟩ := times ha hbb
  cases hn : (nm l).2 with
  | true =>
    refine ⟨(p.1, p.2, true, rf l, (nm l).1), ?_, ?_⟩
    · unfold F8.f F8.fP
      simp only [le_all, Bool.and_true, cond_true, List.take_length, refreshes hl, Option.bind_some, h1, number hl hb, hn]
    · unfold F9.f F9.fP
      simp only [le_all, Bool.and_true, cond_true, List.take_length, refreshesR hl, Option.bind_some, h2, numberR hl hb, hn]
  | false =>
    refine ⟨(p.1, p.2, false, rf l, IntKind.u32.wrap w), ?_, ?_⟩
    · unfold F8.f F8.fP
      simp only [le_all, Bool.and_true, cond_true, cond_false, List.take_length, refreshes hl, Option.bind_some, h1, number hl hb, hn]
    · unfold F9.f F9.fP
      simp only [le_all, Bool.and_true, cond_true, cond_false, List.take_length, refreshesR hl, Option.bind_some, h2, numberR hl hb, hn]
/-- At most so many bytes. -/
def ct (c : Cp) : Cp := (c.1, c.2.take (min 60 c.2.length))
theorem loopC {xs : List Cp} (hx : xs.length ≤ 9223372036854775807) : F3.l1 (xs, (xs.length : Int)) ([], [], 0) = some (((xs.take 20).map ct, (xs.take 20).map ct), ()) := by
  have e20 : (xs.take xs.length).take 20 = xs.take 20 := by rw [List.take_length]
  rw [← e20]
  refine loopN (S := fun k => (((xs.take k).take 20).map ct, ((xs.take k).take 20).map ct, (k : Int))) xs.length (fun k hk => ?_) ?_
  · show F3.r1P F8.f F9.f (xs, (xs.length : Int)) (((xs.take k).take 20).map ct, ((xs.take k).take 20).map ct, (k : Int)) = _
    unfold F3.r1P
    have c1 : decide ((k : Int) < (xs.length : Int)) = true := decide_eq_true (by omega)
    have hll : (((xs.take k).take 20).map ct).length ≤ 20 := by simp [List.length_take]; omega
    by_cases h20 : k < 20
    · have c2 : decide ((k : Int) < 20) = true := decide_eq_true (by omega)
      have eA : ((xs.take (k + 1)).take 20).map ct = ((xs.take k).take 20).map ct ++ [ct xs[k]] := by
        rw [List.take_of_length_le (l := xs.take (k + 1)) (by rw [List.length_take]; omega), List.take_of_length_le (l := xs.take k) (by rw [List.length_take]; omega), List.take_succ_eq_append_getElem hk, List.map_append]
        rfl
      simp only [eA]
      generalize (((xs.take k).take 20).map ct) = z at *
      have e2 : z.length + 2 / OfNat.ofNat 2 = z.length + 1 := rfl
      simp only [c1, cond_true, (at_ok hk).1, (at_ok hk).2, c2, getC hk, e2]
      have hm : (some (if 60 < (xs[k].2.length : Int) then (60 : Int) else (xs[k].2.length : Int))).getD (xs[k].2.length : Int) = ((min 60 xs[k].2.length : Nat) : Int) := by
        rw [Option.getD_some]
        split <;> omega
      have hmn : ((some (if 60 < (xs[k].2.length : Int) then (60 : Int) else (xs[k].2.length : Int))).getD (xs[k].2.length : Int)).toNat = min 60 xs[k].2.length := by rw [hm]; omega
      have c3 : decide ((0 : Int) ≤ ((min 60 xs[k].2.length : Nat) : Int) ∧ ((min 60 xs[k].2.length : Nat) : Int) ≤ (xs[k].2.length : Int) ∧ 0 + xs[k].2.length ≤ xs[k].2.length) = true := decide_eq_true (by omega)
      have c4 : decide (0 + min 60 xs[k].2.length ≤ xs[k].2.length) = true := decide_eq_true (by omega)
      have c5 : decide (z.length + 1 ≤ 1073741824) = true := decide_eq_true (by omega)
      have ec : ((xs[k].1, List.take (min 60 xs[k].2.length) (List.drop 0 xs[k].2)) : Cp) = ct xs[k] := rfl
      have c6 : decide (0 + (z.length + 1) ≤ (z ++ [ct xs[k]]).length) = true := decide_eq_true (by simp)
      have e7 : List.take (z.length + 1) (List.drop 0 (z ++ [ct xs[k]])) = z ++ [ct xs[k]] := by
        rw [List.drop_zero, List.take_of_length_le (by simp)]
      simp only [hm, hmn, Int.toNat_natCast, c3, c4, c5, le_all, List.take_length, Bool.and_true, cond_true, ec, c6, e7]
      rw [wrap64_id (n := (k : Int) + 1) (by omega)]
      rfl
    · have c2 : decide ((k : Int) < 20) = false := decide_eq_false (by omega)
      have eA : ((xs.take (k + 1)).take 20) = ((xs.take k).take 20) := by
        rw [List.take_take, List.take_take, Nat.min_eq_left (by omega), Nat.min_eq_left (by omega)]
      simp only [eA, c1, cond_true, cond_false, (at_ok hk).1, (at_ok hk).2, c2, le_all, Bool.and_true, List.take_length]
      rw [wrap64_id (n := (k : Int) + 1) (by omega)]
      rfl
  · show F3.r1P F8.f F9.f (xs, (xs.length : Int)) (((xs.take xs.length).take 20).map ct, ((xs.take xs.length).take 20).map ct, (xs.length : Int)) = _
    unfold F3.r1P
    have c1 : decide ((xs.length : Int) < (xs.length : Int)) = false := decide_eq_false (by omega)
    simp only [c1, cond_false, le_all, cond_true, Bool.and_true, List.take_length]
theorem law {a b w : Int} {xs : List Cp} (hx : xs.length ≤ 9223372036854775807) (hb : ∀ c ∈ xs, Byts c.2) (ha : -9223372036854775808 ≤ a ∧ a ≤ 9223372036854775807) (hbb : -9223372036854775808 ≤ b ∧ b ≤ 9223372036854775807) : F3.f (a, b, w, xs) = some (true, ()) := by
  have hl2 : ((xs.take 20).map ct).length ≤ 1000000 := by simp [List.length_take]; omega
  have hb2 : ∀ c ∈ (xs.take 20).map ct, Byts c.2 := by
    intro c hc
    obtain ⟨c0, h0, rfl⟩ := List.mem_map.1 hc
    exact fun x hx => hb c0 (List.mem_of_mem_take h0) x (List.mem_of_mem_take hx)
  obtain ⟨r, h1, h2⟩ := agree (w := w) hl2 hb2 ha hbb
  unfold F3.f F3.fP
  simp only [le_all, Bool.and_true, cond_true, List.take_length, loopC hx, Option.bind_some, take_all, h1, h2, beq_self_eq_true]
theorem agrees (d : Den F3.i) (hd : wfD F3.i d) : ∃ q, F3.f d = some (true, q) := by
  obtain ⟨a, b, w, xs⟩ := d
  refine ⟨(), law (Nat.le_trans hd.2.1.2.2.1.1 (by decide)) (fun c hc x hx => ((hd.2.1.2.2.1.2 c hc).2.1.2 x hx).1) hd.1 hd.2.1.1⟩
end Go.Proofs.YtpfbpcaehmhefaaDoorB.PA
