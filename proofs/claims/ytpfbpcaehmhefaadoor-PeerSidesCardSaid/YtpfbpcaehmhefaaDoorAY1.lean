/- Chapter 15: what is agreed on: two sides. -/
import Derived.Test.YtpfbpcaehmhefaaDoorAX1
import Derived.Test.YtpfbpcaehmhefaaDoorAZP
import Derived.Test.YtpfbpcaehmhefaaDoorAZK
import Derived.IntWalk
namespace Go.Proofs.YtpfbpcaehmhefaaDoorA.PA
open Go Go.Proofs Go.Proofs.YtpfbpcaehmhefaaDoorA.Sx
set_option linter.unusedSimpArgs false
set_option linter.unusedVariables false
abbrev Cp := Int × List Int
theorem le_all (n : Nat) : decide (0 + n ≤ n) = true := decide_eq_true (by omega)
theorem take_all {α : Type} (l : List α) : List.take l.length (List.drop 0 l) = l := by simp
theorem loopN {α β : Type} {f : α → Option (α ⊕ β)} (S : Nat → α) (n : Nat) {r : β} (h1 : ∀ i, i < n → f (S i) = some (.inl (S (i + 1)))) (h2 : f (S n) = some (.inr r)) : iterO f (S 0) = some r := by
  have key : ∀ k i, i + k = n → iterO f (S i) = some r := by
    intro k
    induction k with
    | zero => intro i hi; rw [show i = n by omega]; exact iterO_done h2
    | succ k ih => intro i hi; rw [iterO_step (h1 i (by omega))]; exact ih (i + 1) (by omega)
  exact key n 0 (by omega)
theorem at_ok {α : Type} {ps : List α} {i : Nat} (h : i < ps.length) : decide ((0 : Int) ≤ (i : Int) ∧ (i : Int) < (ps.length : Int) ∧ 0 < ps.length) = true ∧ decide (0 + (i : Int).toNat < ps.length) = true := ⟨decide_eq_true (by omega), decide_eq_true (by omega)⟩
theorem getC {l : List Cp} {i : Nat} (h : i < l.length) : l.getD (0 + (i : Int).toNat) (0, []) = l[i] := by
  rw [show 0 + (i : Int).toNat = i by omega, List.getD_eq_getElem?_getD, List.getElem?_eq_getElem h]
  rfl
/-- One of a code, of so many bytes. -/
def pq (k m : Int) (c : Cp) : Bool := c.1 == k && ((c.2.length : Int) == m)
def ix (k m : Int) (l : List Cp) : Nat := l.findIdx (pq k m)
theorem ix_no {k m : Int} {l : List Cp} {i : Nat} (h : i < ix k m l) (hi : i < l.length) : pq k m l[i] = false := by
  have := List.not_of_lt_findIdx h
  simpa using this
theorem ix_yes {k m : Int} {l : List Cp} (h : ix k m l < l.length) : pq k m l[ix k m l] = true := List.findIdx_getElem (w := h)
theorem ix_le (k m : Int) (l : List Cp) : ix k m l ≤ l.length := List.findIdx_le_length
section
variable {l : List Cp} (hl : l.length ≤ 1000000)
include hl
theorem ixA (k : Int) : F71A.f (l, k, ()) = some (if ix k 0 l < l.length then (ix k 0 l : Int) else -1, ()) := by
  have key : F71A.l1 (l, (k, ()), (l.length : Int)) (OfNat.ofNat 0) = some (if ix k 0 l < l.length then (1, (ix k 0 l : Int)) else (0, 0), ()) := by
    refine loopN (S := fun i => (i : Int)) (ix k 0 l) (fun i hi => ?_) ?_
    · show F71A.r1P _ (i : Int) = _
      unfold F71A.r1P
      have hil : i < l.length := by have := ix_le k 0 l; omega
      have c1 : decide ((i : Int) < (l.length : Int)) = true := decide_eq_true (by omega)
      have hn := ix_no hi hil
      unfold pq at hn
      simp only [c1, cond_true, (at_ok hil).1, (at_ok hil).2, getC hil]
      rw [wrap64_id (n := (i : Int) + 1) (by omega)]
      cases h1 : l[i].1 == k with
      | false => simp only [cond_false]; rfl
      | true =>
        rw [h1, Bool.true_and] at hn
        simp only [hn, cond_false, cond_true]; rfl
    · show F71A.r1P _ (ix k 0 l : Int) = _
      unfold F71A.r1P
      by_cases h : ix k 0 l < l.length
      · have c1 : decide ((ix k 0 l : Int) < (l.length : Int)) = true := decide_eq_true (by omega)
        have hn := ix_yes h
        unfold pq at hn
        rw [Bool.and_eq_true] at hn
        simp only [c1, cond_true, (at_ok h).1, (at_ok h).2, getC h, hn.1, hn.2, if_pos h]
      · have c1 : decide ((ix k 0 l : Int) < (l.length : Int)) = false := decide_eq_false (by omega)
        simp only [c1, cond_false, if_neg h]
  unfold F71A.f F71A.fP
  simp only [le_all, cond_true, Bool.and_true, List.take_length, key, Option.bind_some]
  by_cases h : ix k 0 l < l.length
  · simp only [if_pos h]; rfl
  · simp only [if_neg h]; rfl
theorem ixB (k : Int) : F71B.f (l, k, ()) = some (if ix k 4 l < l.length then (ix k 4 l : Int) else -1, ()) := by
  have key : F71B.l1 (l, (k, ()), (l.length : Int)) (OfNat.ofNat 0) = some (if ix k 4 l < l.length then (1, (ix k 4 l : Int)) else (0, 0), ()) := by
    refine loopN (S := fun i => (i : Int)) (ix k 4 l) (fun i hi => ?_) ?_
    · show F71B.r1P _ (i : Int) = _
      unfold F71B.r1P
      have hil : i < l.length := by have := ix_le k 4 l; omega
      have c1 : decide ((i : Int) < (l.length : Int)) = true := decide_eq_true (by omega)
      have hn := ix_no hi hil
      unfold pq at hn
      simp only [c1, cond_true, (at_ok hil).1, (at_ok hil).2, getC hil]
      rw [wrap64_id (n := (i : Int) + 1) (by omega)]
      cases h1 : l[i].1 == k with
      | false => simp only [cond_false]; rfl
      | true =>
        rw [h1, Bool.true_and] at hn
        simp only [hn, cond_false, cond_true]; rfl
    · show F71B.r1P _ (ix k 4 l : Int) = _
      unfold F71B.r1P
      by_cases h : ix k 4 l < l.length
      · have c1 : decide ((ix k 4 l : Int) < (l.length : Int)) = true := decide_eq_true (by omega)
        have hn := ix_yes h
        unfold pq at hn
        rw [Bool.and_eq_true] at hn
        simp only [c1, cond_true, (at_ok h).1, (at_ok h).2, getC h, hn.1, hn.2, if_pos h]
      · have c1 : decide ((ix k 4 l : Int) < (l.length : Int)) = false := decide_eq_false (by omega)
        simp only [c1, cond_false, if_neg h]
  unfold F71B.f F71B.fP
  simp only [le_all, cond_true, Bool.and_true, List.take_length, key, Option.bind_some]
  by_cases h : ix k 4 l < l.length
  · simp only [if_pos h]; rfl
  · simp only [if_neg h]; rfl
def rf (l : List Cp) : Bool := decide (ix 2 0 l < l.length)
theorem refreshes : F49.f l = some (rf l, ()) := by
  have h2 : F71A.f (l, OfNat.ofNat 2, PUnit.unit) = _ := ixA hl 2
  unfold F49.f F49.fP
  simp only [le_all, cond_true, Bool.and_true, List.take_length, h2, Option.bind_some]
  unfold rf
  by_cases h : ix 2 0 l < l.length
  · simp only [if_pos h, decide_eq_true h]
    have c1 : decide ((ix 2 0 l : Int) < 0) = false := decide_eq_false (by omega)
    simp only [c1, cond_false, (at_ok h).1, (at_ok h).2, cond_true]
  · simp only [if_neg h, decide_eq_false h]
    rfl
end
/-! ### Four bytes -/
def Byts (v : List Int) : Prop := ∀ x ∈ v, 0 ≤ x ∧ x ≤ 255
def big (v : List Int) : Int := 16777216 * v.getD 0 0 + 65536 * v.getD 1 0 + 256 * v.getD 2 0 + v.getD 3 0
theorem orN {n c : Int} (h0 : 0 ≤ n ∧ n ≤ 16777215) (hc : 0 ≤ c ∧ c ≤ 255) : IntKind.u32.wrap (((IntKind.u32.wrap (IntKind.u32.wrap (n * 128) * 2) % 4294967296).toNat ||| (IntKind.u32.wrap c % 4294967296).toNat : Nat) : Int) = 256 * n + c := by
  rw [IntWalk.u32_in (n * 128) (by omega), IntWalk.u32_in (n * 128 * 2) (by omega), IntWalk.u32_in c (by omega), Int.emod_eq_of_lt (by omega) (by omega), Int.emod_eq_of_lt (by omega) (by omega)]
  obtain ⟨m, rfl⟩ : ∃ m : Nat, n = (m : Int) := ⟨n.toNat, by omega⟩
  obtain ⟨d, rfl⟩ : ∃ d : Nat, c = (d : Int) := ⟨c.toNat, by omega⟩
  have e := Nat.two_pow_add_eq_or_of_lt (b := d) (i := 8) (by omega) m
  have e1 : ((m : Int) * 128 * 2).toNat = 2 ^ 8 * m := by omega
  rw [e1, Int.toNat_natCast, ← e]
  rw [IntWalk.u32_in _ (by omega)]
  omega
theorem step4 {v : List Int} (hb : Byts v) {n : Int} (h0 : 0 ≤ n ∧ n ≤ 16777215) {i : Nat} (hi : i < v.length) (hv : v.length = 4) : F73.r1 (v, (v.length : Int)) (n, (i : Int)) = some (.inl (256 * n + v[i], ((i + 1 : Nat) : Int))) := by
  show F73.r1P F85.f (v, (v.length : Int)) (n, (i : Int)) = _
  unfold F73.r1P
  have c1 : decide ((i : Int) < (v.length : Int)) = true := decide_eq_true (by omega)
  have e : v.getD (0 + (i : Int).toNat) 0 = v[i] := by
    rw [show 0 + (i : Int).toNat = i by omega, List.getD_eq_getElem?_getD, List.getElem?_eq_getElem hi]
    rfl
  simp only [c1, cond_true, (at_ok hi).1, (at_ok hi).2, e, orN h0 (hb _ (List.getElem_mem hi))]
  rw [wrap64_id (n := (i : Int) + 1) (by omega)]
  rfl
theorem loop4 {v : List Int} (hb : Byts v) (hv : v.length = 4) : F73.l1 (v, (v.length : Int)) (0, 0) = some (big v, ()) := by
  have b0 := hb _ (List.getElem_mem (show 0 < v.length by omega))
  have b1 := hb _ (List.getElem_mem (show 1 < v.length by omega))
  have b2 := hb _ (List.getElem_mem (show 2 < v.length by omega))
  have s0 := step4 hb (n := 0) (by omega) (i := 0) (by omega) hv
  have s1 := step4 hb (n := 256 * 0 + v[0]) (by omega) (i := 1) (by omega) hv
  have s2 := step4 hb (n := 256 * (256 * 0 + v[0]) + v[1]) (by omega) (i := 2) (by omega) hv
  have s3 := step4 hb (n := 256 * (256 * (256 * 0 + v[0]) + v[1]) + v[2]) (by omega) (i := 3) (by omega) hv
  show iterO (F73.r1 (v, (v.length : Int))) (0, 0) = _
  have e0 : ((0 : Int), (0 : Int)) = (0, ((0 : Nat) : Int)) := rfl
  rw [e0]
  refine (iterO_step s0).trans ((iterO_step s1).trans ((iterO_step s2).trans ((iterO_step s3).trans (iterO_done ?_))))
  show F73.r1P F85.f (v, (v.length : Int)) (_, ((4 : Nat) : Int)) = _
  unfold F73.r1P
  have c1 : decide (((4 : Nat) : Int) < (v.length : Int)) = false := decide_eq_false (by omega)
  simp only [c1, cond_false]
  have g : ∀ k, (h : k < v.length) → v.getD k 0 = v[k] := fun k h => by
    rw [List.getD_eq_getElem?_getD, List.getElem?_eq_getElem h]; rfl
  unfold big
  rw [g 0 (by omega), g 1 (by omega), g 2 (by omega), g 3 (by omega)]
  congr 3
  omega
theorem four {v : List Int} (hb : Byts v) (hv : v.length = 4) : ∃ r q, F66.f v = some (r, ()) ∧ F67.f r = some (big v, q) := by
  have hl := loop4 hb hv
  match v, hv with
  | [a, b, c, d], _ =>
    have e6 : F66.f [a, b, c, d] = some (([a, b, c, d], 0, [4], 0), ()) := by kernel_rfl
    have e8 : F85.f (([a, b, c, d], 0, [4], 0), 4) = some ([a, b, c, d], [a, b, c, d], 4, [4], 0) := by kernel_rfl
    refine ⟨_, ([a, b, c, d], 4, [4], 0), e6, ?_⟩
    have e7 : F73.f (([a, b, c, d], 0, [4], 0), 4) = some (big [a, b, c, d], [a, b, c, d], 4, [4], 0) := by
      unfold F73.f F73.fP
      simp only [e8, Option.bind_some]
      have hl2 : F73.l1 (List.take [a, b, c, d].length (List.drop 0 [a, b, c, d]), ([a, b, c, d].length : Int)) (0, 0) = some (big [a, b, c, d], ()) := hl
      simp only [le_all, Bool.and_true, cond_true, hl2, Option.bind_some]
    unfold F67.f F67.fP
    simp only [e7, Option.bind_some]
section
variable {l : List Cp} (hl : l.length ≤ 1000000) (hb : ∀ c ∈ l, Byts c.2)
include hl hb
def nm (l : List Cp) : Int × Bool := if h : ix 65 4 l < l.length then (big l[ix 65 4 l].2, true) else (0, false)
theorem number : F51.f l = some (nm l, ()) := by
  have h2 : F71B.f (l, OfNat.ofNat 65, PUnit.unit) = _ := ixB hl 65
  unfold F51.f F51.fP
  simp only [le_all, cond_true, Bool.and_true, List.take_length, h2, Option.bind_some]
  unfold nm
  by_cases h : ix 65 4 l < l.length
  · have hn := ix_yes h
    unfold pq at hn
    rw [Bool.and_eq_true, beq_iff_eq, beq_iff_eq] at hn
    have hv : l[ix 65 4 l].2.length = 4 := by omega
    obtain ⟨r, q, e1, e2⟩ := four (hb _ (List.getElem_mem h)) hv
    have c1 : decide ((ix 65 4 l : Int) < 0) = false := decide_eq_false (by omega)
    simp only [if_pos h, dif_pos h, c1, cond_false, (at_ok h).1, (at_ok h).2, cond_true, getC h, take_all, e1, Option.bind_some, e2]
  · simp only [if_neg h, dif_neg h]
    rfl
end
/-! ### What may be told -/
noncomputable def toldB (n : Int) : Bool := match F28.f n with | some (b, _) => b | none => false
theorem told_of {n : Int} (h : toldB n = true) : F28.f n = some (true, ()) := by
  unfold toldB at h
  split at h
  · rename_i b u e
    rw [e, h]
  · cases h
theorem chkM : ((List.range 16).all fun (k : Nat) => toldB (65001 + (k : Int))) = true := by kernel_rfl
theorem chkC : ((List.range 256).all fun (k : Nat) => toldB (100 + (k : Int))) = true := by kernel_rfl
theorem toldM {m : Int} (h : 65001 ≤ m ∧ m ≤ 65016) : F28.f m = some (true, ()) := by
  have := List.all_eq_true.1 chkM (m - 65001).toNat (List.mem_range.2 (by omega))
  rw [show 65001 + (((m - 65001).toNat : Nat) : Int) = m by omega] at this
  exact told_of this
theorem toldC {m : Int} (h : 100 ≤ m ∧ m ≤ 355) : F28.f m = some (true, ()) := by
  have := List.all_eq_true.1 chkC (m - 100).toNat (List.mem_range.2 (by omega))
  rw [show 100 + (((m - 100).toNat : Nat) : Int) = m by omega] at this
  exact told_of this
theorem toldZ : F28.f 70000 = some (true, ()) := told_of (by kernel_rfl)
/-! ### A side without others -/
theorem noOne (m c i : Int) : F56.f ([], m, c, [], i) = some (false, ()) := by
  have key : F60.l1 ([], (m, c, [], i), 0) (OfNat.ofNat 0) = some ((0, 0), ()) := by
    refine iterO_done ?_
    rfl
  have h60 : F60.f ([], m, c, [], i) = some (-1, ()) := by
    unfold F60.f F60.fP
    have key2 : F60.l1 (List.take ([] : List Int).length [], (m, c, [], i), (([] : List Int).length : Int)) (OfNat.ofNat 0) = some ((0, 0), ()) := key
    simp only [le_all, Bool.and_true, cond_true, key2, Option.bind_some]
    rfl
  unfold F56.f F56.fP
  have h2 : F60.f (List.take ([] : List Int).length [], m, c, [], i) = some (-1, ()) := h60
  simp only [le_all, Bool.and_true, cond_true, h2, Option.bind_some]
  rfl
theorem notIn (v : Int) : F37.f ([], v) = some (false, ()) := by
  have key : F62.l1 ([], v, 0) (OfNat.ofNat 0) = some ((0, 0), ()) := by
    refine iterO_done ?_
    rfl
  have h62 : F62.f ([], v) = some (-1, ()) := by
    unfold F62.f F62.fP
    have key2 : F62.l1 (List.take ([] : List Int).length [], v, (([] : List Int).length : Int)) (OfNat.ofNat 0) = some ((0, 0), ()) := key
    simp only [le_all, Bool.and_true, cond_true, key2, Option.bind_some]
    rfl
  unfold F37.f F37.fP
  have h2 : F62.f (List.take ([] : List Int).length [], v) = some (-1, ()) := h62
  simp only [le_all, Bool.and_true, cond_true, h2, Option.bind_some]
  rfl
theorem may {m c i : Int} (hm : F28.f m = some (true, ())) (hc : F28.f c = some (true, ())) (hi : 0 < i ∧ i < 3758096384) : F23.f (m, c, [], i) = some (true, ()) := by
  have key : F23.l1 (m, c, [], i) (OfNat.ofNat 1) = some ((0, false), ()) := by
    refine iterO_done ?_
    rfl
  have key2 : F23.l1 (m, c, List.take ([] : List Int).length [], i) (OfNat.ofNat 1) = some ((0, false), ()) := key
  have h56 : F56.f (List.take ([] : List Int).length [], m, c, List.take ([] : List Int).length [], i) = some (false, ()) := noOne m c i
  have c1 : (i != 0) = true := bne_iff_ne.2 (by omega)
  have c2 : decide (i < 3758096384) = true := decide_eq_true hi.2
  have c0 : decide ((0 : Int) = 0) = true := rfl
  have c3 : decide ((([] : List Int).length : Int) ≤ 16) = true := rfl
  have c4 : ((([] : List Int).length : Int) == 0) = true := rfl
  unfold F23.f F23.fP
  simp only [le_all, Bool.and_true, cond_true, key2, Option.bind_some, c0, hm, hc, c3, c4, h56, Bool.not_false, c1, c2]
  cases m != c <;> rfl
theorem classO {m c i n : Int} (hm : F28.f m = some (true, ())) (hc : F28.f c = some (true, ())) (hi : 0 < i ∧ i < 3758096384) (hn : F28.f n = some (true, ())) (h1 : n ≠ m) (h2 : n ≠ c) : F24.f ((m, c, [], i), n) = some (3, ()) := by
  have h23 : F23.f (m, c, List.take ([] : List Int).length [], i) = some (true, ()) := may hm hc hi
  have h37 : F37.f (List.take ([] : List Int).length [], n) = some (false, ()) := notIn n
  unfold F24.f F24.fP
  simp only [le_all, Bool.and_true, cond_true, h23, Option.bind_some, Bool.not_true, cond_false, hn, beq_eq_false_iff_ne.2 h1, h37, beq_eq_false_iff_ne.2 h2]
theorem tells3 (m c i : Int) : F25.f ((m, c, [], i), 3) = some (c, ()) := rfl
def ours (n : Int) : List Cp := [(1, [0, 1, 0, 1]), (2, []), (65, [IntKind.u8.wrap (n.fdiv 16777216), IntKind.u8.wrap (n.fdiv 65536), IntKind.u8.wrap (n.fdiv 256), IntKind.u8.wrap n])]
theorem oursF (n : Int) : F57.f n = some (ours n, ()) := by
  have h : F68.f [0, 1, 0, 1] = some ([0, 1, 0, 1], ()) := by kernel_rfl
  unfold F57.f F57.fP
  simp only [h, Option.bind_some]
  rfl
theorem caps3 (m c i : Int) : F26.f ((m, c, [], i), 3) = some (ours c, ()) := by
  unfold F26.f F26.fP
  have h25 : F25.f ((m, c, List.take ([] : List Int).length [], i), 3) = some (c, ()) := tells3 m c i
  have c1 : decide ((3 : Int) < 1) = false := rfl
  have c2 : decide ((3 : Int) > 3) = false := rfl
  simp only [c1, c2, cond_false, le_all, Bool.and_true, cond_true, h25, Option.bind_some, oursF, take_all]
theorem short (n : Int) : ∃ s, F30.f n = some (s, ()) := by
  have e : F30.f n = bif decide (n > 65535) then some (23456, ()) else some (IntKind.u16.wrap n, ()) := rfl
  rw [e]
  cases decide (n > 65535)
  · exact ⟨_, rfl⟩
  · exact ⟨_, rfl⟩
theorem shortZ : F30.f 70000 = some (23456, ()) := rfl
theorem u8 (n : Int) : IntKind.u8.wrap n = n % 256 := IntKind.wrap_u8 n
theorem byts (n : Int) : Byts [IntKind.u8.wrap (n.fdiv 16777216), IntKind.u8.wrap (n.fdiv 65536), IntKind.u8.wrap (n.fdiv 256), IntKind.u8.wrap n] := by
  intro x hx
  simp only [List.mem_cons, List.not_mem_nil, or_false, u8] at hx
  rcases hx with rfl | rfl | rfl | rfl <;> omega
theorem big_of {n : Int} (h : 0 ≤ n ∧ n ≤ 4294967295) : big [IntKind.u8.wrap (n.fdiv 16777216), IntKind.u8.wrap (n.fdiv 65536), IntKind.u8.wrap (n.fdiv 256), IntKind.u8.wrap n] = n := by
  show 16777216 * IntKind.u8.wrap (n.fdiv 16777216) + 65536 * IntKind.u8.wrap (n.fdiv 65536) + 256 * IntKind.u8.wrap (n.fdiv 256) + IntKind.u8.wrap n = n
  rw [u8, u8, u8, u8, Int.fdiv_eq_ediv_of_nonneg _ (by omega), Int.fdiv_eq_ediv_of_nonneg _ (by omega), Int.fdiv_eq_ediv_of_nonneg _ (by omega)]
  omega
theorem rf_ours (n : Int) : rf (ours n) = true := rfl
theorem nm_ours {n : Int} (h : 0 ≤ n ∧ n ≤ 4294967295) : nm (ours n) = (n, true) := by
  have e : nm (ours n) = (big [IntKind.u8.wrap (n.fdiv 16777216), IntKind.u8.wrap (n.fdiv 65536), IntKind.u8.wrap (n.fdiv 256), IntKind.u8.wrap n], true) := rfl
  rw [e, big_of h]
theorem ours_byts (n : Int) : ∀ c ∈ ours n, Byts c.2 := by
  intro c hc
  unfold ours at hc
  simp only [List.mem_cons, List.not_mem_nil, or_false] at hc
  rcases hc with rfl | rfl | rfl
  · intro x hx
    simp only [List.mem_cons, List.not_mem_nil, or_false] at hx
    rcases hx with rfl | rfl | rfl | rfl <;> omega
  · intro x hx
    cases hx
  · exact byts n
theorem times (a b : Int) : ∃ p : Int × Int, F50.f (a, b) = some (p, ()) ∧ F50.f (b, a) = some (p, ()) := by
  have e : (if a < b then a else b) = (if b < a then b else a) := by
    split <;> split <;> omega
  have h1 : F50.f (a, b) = F50.f (b, a) := by
    show F50.fP (a, b) = F50.fP (b, a)
    unfold F50.fP
    simp only [e]
  have h2 : ∃ p, F50.f (b, a) = some (p, ()) := by
    show ∃ p, F50.fP (b, a) = some (p, ())
    unfold F50.fP
    simp only
    cases (if 0 > if a < b then a else b then 0 else if a < b then a else b) == 0
    · exact ⟨_, rfl⟩
    · exact ⟨_, rfl⟩
  obtain ⟨p, hp⟩ := h2
  exact ⟨p, h1.trans hp, hp⟩
theorem agreeO {a b w n : Int} {p : Int × Int} (hp : F50.f (a, b) = some (p, ())) (hn : 0 ≤ n ∧ n ≤ 4294967295) : F8.f (a, b, w, ours n) = some ((p.1, p.2, true, true, n), ()) := by
  have hl : (ours n).length ≤ 1000000 := by show 3 ≤ 1000000; omega
  unfold F8.f F8.fP
  simp only [le_all, Bool.and_true, cond_true, List.take_length, refreshes hl, Option.bind_some, hp, number hl (ours_byts n), nm_ours hn, rf_ours]
theorem agreeN {a b w : Int} {p : Int × Int} (hp : F50.f (a, b) = some (p, ())) : F8.f (a, b, w, []) = some ((p.1, p.2, false, false, IntKind.u32.wrap w), ()) := by
  have hl : ([] : List Cp).length ≤ 1000000 := by show 0 ≤ 1000000; omega
  have hb : ∀ c ∈ ([] : List Cp), Byts c.2 := fun c hc => by cases hc
  have e1 : rf [] = false := rfl
  have e2 : nm [] = (0, false) := rfl
  unfold F8.f F8.fP
  simp only [le_all, Bool.and_true, cond_true, cond_false, List.take_length, refreshes hl, Option.bind_some, hp, number hl hb, e1, e2]
theorem law (a b h0 h1 : Int) (none : Bool) (ha : 0 ≤ a ∧ a ≤ 255) (hb : 0 ≤ b ∧ b ≤ 255) : F5.f ((a, b), (h0, h1), none) = some (true, ()) := by
  obtain ⟨m, hm, hmr⟩ : ∃ m, F29.f a = some (m, ()) ∧ 65001 ≤ m ∧ m ≤ 65016 := by
    have e : a.tmod 16 = a % 16 := Int.tmod_eq_emod_of_nonneg ha.1
    refine ⟨65001 + a % 16, ?_, by omega⟩
    show F29.fP a = _
    unfold F29.fP
    rw [e, IntWalk.u32_in (a % 16) (by omega), IntWalk.u32_in _ (by omega)]
  have hc : IntKind.u32.wrap (100 + IntKind.u32.wrap b) = 100 + b := by
    rw [IntWalk.u32_in b (by omega), IntWalk.u32_in _ (by omega)]
  obtain ⟨p, hp1, hp2⟩ := times (IntKind.i64.wrap h0) (IntKind.i64.wrap h1)
  obtain ⟨s, hs⟩ := short (100 + b)
  have tM := toldM hmr
  have tC : F28.f (100 + b) = some (true, ()) := toldC (by omega)
  have m1 : F23.f (m, 70000, [], 1) = some (true, ()) := may tM toldZ (by omega)
  have m2 : F23.f (100 + b, 100 + b, [], 2) = some (true, ()) := may tC tC (by omega)
  have k1 : F24.f ((m, 70000, [], 1), 100 + b) = some (3, ()) := classO tM toldZ (by omega) tC (by omega) (by omega)
  have k2 : F24.f ((100 + b, 100 + b, [], 2), 70000) = some (3, ()) := classO tC tC (by omega) toldZ (by omega) (by omega)
  have q1 : F8.f (IntKind.i64.wrap h0, IntKind.i64.wrap h1, s, ours (100 + b)) = some ((p.1, p.2, true, true, 100 + b), ()) := agreeO hp1 (by omega)
  have q2 : F8.f (IntKind.i64.wrap h1, IntKind.i64.wrap h0, 23456, ours 70000) = some ((p.1, p.2, true, true, 70000), ()) := agreeO hp2 (by omega)
  have q3 : F8.f (IntKind.i64.wrap h1, IntKind.i64.wrap h0, 23456, []) = some ((p.1, p.2, false, false, IntKind.u32.wrap 23456), ()) := agreeN hp2
  have e3 : ((3 : Int) != 3) = false := rfl
  unfold F5.f F5.fP
  cases none with
  | false =>
    simp only [hm, Option.bind_some, m1, Bool.not_true, cond_false, hc, m2, tells3, k1, k2, e3, caps3, hs, le_all, Bool.and_true, cond_true, take_all, q1, shortZ, q2, bne_self_eq_false]
    rfl
  | true =>
    simp only [hm, Option.bind_some, m1, Bool.not_true, cond_false, hc, m2, tells3, k1, k2, e3, caps3, hs, le_all, Bool.and_true, cond_true, take_all, q1, shortZ, q3, bne_self_eq_false]
    rfl
theorem sides (d : Den F5.i) (hd : wfD F5.i d) : ∃ q, F5.f d = some (true, q) := by
  obtain ⟨⟨a, b⟩, ⟨h0, h1⟩, none⟩ := d
  exact ⟨(), law a b h0 h1 none hd.1.1 hd.1.2.1⟩
end Go.Proofs.YtpfbpcaehmhefaaDoorA.PA
