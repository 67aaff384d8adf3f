/- Chapter 1: a reader's calls, in plain lists and numbers: the program's. -/
import Derived.Test.YtkleakkhbfdipaaZP
import Derived.Test.YtkleakkhbfdipaaX1
import Derived.IntWalk
import Derived.Test.YtkleakkhbfdipaaX2
import Derived.Test.YtkleakkhbfdipaaZK
namespace Go.Proofs.Ytkleakkhbfdipaa.PA
open Go Go.Proofs Go.Proofs.Ytkleakkhbfdipaa.Sx
set_option linter.unusedSimpArgs false
set_option linter.unusedVariables false
theorem take_all {α : Type} (l : List α) : List.take l.length (List.drop 0 l) = l := by simp
theorem le_all (n : Nat) : decide (0 + n ≤ n) = true := decide_eq_true (by omega)
theorem len_ne (m : Int) (o : List Int) : ((((m :: o).length : Nat) : Int) == 0) = false := by
  rw [beq_eq_false_iff_ne, List.length_cons]
  omega
/-- The end of the innermost block; m the end of all. -/
def top (m : Int) (o : List Int) : Int := (m :: o).getD o.length 0
abbrev RS := List Int × Int × List Int × Int
/-- A reader: byteL, place, ends of open blocks. -/
structure RdOk (b : List Int) (a : Int) (o : List Int) : Prop where
  hb : b.length ≤ 1000000
  ho : o.length ≤ 1000000
  h0 : 0 ≤ a
  h1 : a ≤ top b.length o
  hm : top b.length o ≤ b.length
  hc : ∀ i, i < o.length → ((b.length : Int) :: o).getD (i + 1) 0 ≤ ((b.length : Int) :: o).getD i 0
theorem errP (b : List Int) (a m : Int) (o : List Int) (e : Int) : F10.f (b, a, m :: o, e) = some (e, b, a, m :: o, e) := by
  show F10.fP (b, a, m :: o, e) = _
  unfold F10.fP
  dsimp only
  rw [len_ne]
  simp only [le_all, Bool.and_true, cond_true, cond_false, List.take_length]
/-- An error noted. -/
def nt (e k : Int) : Int := if e = 0 then k else e
theorem failP (b : List Int) (a m : Int) (o : List Int) (e k : Int) : F18.f ((b, a, m :: o, e), k) = some ((), b, a, m :: o, nt e k) := by
  show F18.fP F10.f ((b, a, m :: o, e), k) = _
  unfold F18.fP nt
  simp only [errP, Option.bind_some, le_all, Bool.and_true, cond_true, take_all]
  by_cases h : e = 0
  · subst h; rfl
  · rw [if_neg h, beq_eq_false_iff_ne.2 h]; rfl
theorem last_idx (m : Int) {o : List Int} (ho : o.length ≤ 1000000) : (0 + (IntKind.i64.wrap ((((m :: o).length : Nat) : Int) - 1)).toNat) = o.length := by
  rw [List.length_cons, wrap64_id (by omega)]
  omega
/-- How many are left; behind an error none. -/
def lf (a t e : Int) : Int := if e = 0 then t - a else 0
section
variable {b : List Int} {a : Int} {o : List Int} (h : RdOk b a o)
include h
theorem leftP (e : Int) : F19.f (b, a, (b.length : Int) :: o, e) = some (lf a (top b.length o) e, b, a, (b.length : Int) :: o, e) := by
  have h0 := h.h0; have h1 := h.h1; have hm := h.hm; have hb := h.hb; have ho := h.ho
  show F19.fP F10.f (b, a, (b.length : Int) :: o, e) = _
  unfold F19.fP lf
  simp only [errP, Option.bind_some, last_idx _ h.ho, take_all, le_all, Bool.and_true]
  by_cases he : e = 0
  · have w : IntKind.i64.wrap (((((b.length : Int) :: o).length : Nat) : Int) - 1) = o.length := by rw [List.length_cons, wrap64_id (by omega)]; omega
    rw [if_pos he, w]
    have c1 : (e != 0) = false := by simpa using he
    have c2 : decide (0 ≤ (o.length : Int) ∧ (o.length : Int) < ((((b.length : Int) :: o).length : Nat) : Int) ∧ 0 < ((b.length : Int) :: o).length) = true := decide_eq_true (by rw [List.length_cons]; omega)
    have c3 : decide (o.length < ((b.length : Int) :: o).length) = true := decide_eq_true (by rw [List.length_cons]; omega)
    simp only [c1, c2, c3, cond_false, cond_true]
    rw [wrap64_id (show -9223372036854775808 ≤ ((b.length : Int) :: o).getD o.length 0 - a ∧ ((b.length : Int) :: o).getD o.length 0 - a ≤ 9223372036854775807 by unfold top at h1 hm; omega)]
    rfl
  · rw [if_neg he]
    have c1 : (e != 0) = true := by simpa using he
    rw [c1]; rfl
/-- What is noted of a take of n. -/
def er (a t e n : Int) : Int := if e = 0 then (if n < 0 ∨ t - a < n then 4 else 0) else e
end
theorem er_zero {a t e n : Int} (hz : er a t e n = 0) : e = 0 ∧ 0 ≤ n ∧ n ≤ t - a := by
  unfold er at hz
  split at hz
  · rename_i he
    split at hz
    · cases hz
    · rename_i hn
      exact ⟨he, by omega, by omega⟩
  · rename_i he
    exact absurd hz he
section
variable {b : List Int} {a : Int} {o : List Int} (h : RdOk b a o)
include h
theorem hasP (e n : Int) : F53.f ((b, a, (b.length : Int) :: o, e), n) = some (er a (top b.length o) e n == 0, b, a, (b.length : Int) :: o, er a (top b.length o) e n) := by
  have h1 := h.h1
  show F53.fP F19.f F18.f F10.f ((b, a, (b.length : Int) :: o, e), n) = _
  unfold F53.fP
  simp only [leftP h, failP, errP, Option.bind_some]
  by_cases hn : n < 0
  · rw [decide_eq_true hn]
    have : nt e 4 = er a (top b.length o) e n := by
      unfold nt er
      split
      · rw [if_pos (.inl hn)]
      · rfl
    rw [this]; rfl
  · rw [decide_eq_false hn]
    simp only [cond_false]
    by_cases hl : n > lf a (top b.length o) e
    · rw [decide_eq_true hl]
      have : nt e 4 = er a (top b.length o) e n := by
        unfold lf at hl
        unfold nt er
        split
        · rename_i he
          rw [if_pos he] at hl
          rw [if_pos (.inr hl)]
        · rfl
      rw [this]; rfl
    · rw [decide_eq_false hl]
      have : e = er a (top b.length o) e n := by
        unfold lf at hl
        unfold er
        split
        · rename_i he
          rw [if_pos he] at hl
          rw [if_neg (by omega)]; exact he
        · rfl
      rw [← this]; rfl
end
theorem cloneF (s : List Int) (hs : s.length ≤ 1000000) : F51.f s = some (s, ()) := by
  show (if 0 < s.length then F51.fP s else some ([], ())) = _
  by_cases h0 : 0 < s.length
  · rw [if_pos h0]
    unfold F51.fP
    have c1 : decide (0 < s.length) = true := decide_eq_true h0
    have c2 : decide (0 + (List.take s.length s).length ≤ 1073741824) = true := decide_eq_true (by rw [List.take_length]; omega)
    have c3 : decide (0 + (0 + (List.take s.length s).length) ≤ ([] ++ List.take s.length s).length) = true := decide_eq_true (by rw [List.take_length]; simp)
    rw [c1, c2, c3, le_all]
    simp
  · rw [if_neg h0]
    have : s = [] := List.length_eq_zero_iff.1 (by omega)
    rw [this]
/-- n byteL from place a on. -/
def cut (b : List Int) (a n : Int) : List Int := (b.drop a.toNat).take n.toNat
section
variable {b : List Int} {a : Int} {o : List Int} (h : RdOk b a o)
include h
theorem takeOk {e n : Int} (hz : er a (top b.length o) e n = 0) : F13.f ((b, a, (b.length : Int) :: o, e), n) = some (cut b a n, b, a + n, (b.length : Int) :: o, e) := by
  obtain ⟨he, hn0, hn1⟩ := er_zero hz
  have h0 := h.h0; have h1 := h.h1; have hm := h.hm; have hb := h.hb
  show F13.fP F53.f F51.f ((b, a, (b.length : Int) :: o, e), n) = _
  unfold F13.fP
  have w1 : IntKind.i64.wrap (a + n) = a + n := wrap64_id (by omega)
  have w2 : IntKind.i64.wrap (a + n - n) = a := by rw [show a + n - n = a by omega]; exact wrap64_id (by omega)
  have c1 : decide (0 ≤ a ∧ a ≤ a + n ∧ a + n ≤ (b.length : Int) ∧ 0 + b.length ≤ b.length) = true := decide_eq_true (by omega)
  simp only [hasP h, Option.bind_some, hz, beq_self_eq_true, Bool.not_true, cond_false, w1, w2, Option.getD_some, c1, cond_true]
  by_cases hl : a = b.length
  · have n0 : n = 0 := by omega
    rw [decide_eq_true hl]
    have c2 : decide (0 ≤ 0 + b.length ∧ 0 + b.length ≤ b.length) = true := decide_eq_true (by omega)
    simp only [cond_true, c2, cloneF [] (by simp), Option.bind_some, le_all, Bool.and_true, take_all]
    unfold cut
    rw [n0, he]
    rfl
  · rw [decide_eq_false hl]
    have c2 : decide (0 + a.toNat + (a + n - a).toNat ≤ b.length) = true := decide_eq_true (by omega)
    have hlen : (List.take (a + n - a).toNat (List.drop (0 + a.toNat) b)).length ≤ 1000000 := by rw [List.length_take, List.length_drop]; omega
    simp only [cond_false, c2, Bool.and_true, cond_true, cloneF _ hlen, Option.bind_some, le_all, take_all]
    unfold cut
    rw [show a + n - a = n by omega, Nat.zero_add, he]
theorem takeNo {e n : Int} (hz : er a (top b.length o) e n ≠ 0) : F13.f ((b, a, (b.length : Int) :: o, e), n) = some ([], b, a, (b.length : Int) :: o, er a (top b.length o) e n) := by
  show F13.fP F53.f F51.f ((b, a, (b.length : Int) :: o, e), n) = _
  unfold F13.fP
  simp only [hasP h, Option.bind_some]
  rw [beq_eq_false_iff_ne.2 hz]
  rfl
end
theorem cut_len (b : List Int) (a n : Int) : (cut b a n).length ≤ b.length := by unfold cut; rw [List.length_take, List.length_drop]; omega
section
variable {b : List Int} {a : Int} {o : List Int} (h : RdOk b a o)
include h
theorem restOk {e : Int} (he : e = 0) : F14.f (b, a, (b.length : Int) :: o, e) = some (cut b a (top b.length o - a), b, top b.length o, (b.length : Int) :: o, e) := by
  have h1 := h.h1
  show F14.fP F19.f F13.f (b, a, (b.length : Int) :: o, e) = _
  unfold F14.fP
  have hz : er a (top b.length o) e (top b.length o - a) = 0 := by unfold er; rw [if_pos he, if_neg (by omega)]
  have hl : lf a (top b.length o) e = top b.length o - a := if_pos he
  simp only [leftP h, hl, takeOk h hz, Option.bind_some, le_all, Bool.and_true, cond_true, take_all]
  rw [show a + (top b.length o - a) = top b.length o by omega]
theorem restNo {e : Int} (he : e ≠ 0) : F14.f (b, a, (b.length : Int) :: o, e) = some ([], b, a, (b.length : Int) :: o, e) := by
  show F14.fP F19.f F13.f (b, a, (b.length : Int) :: o, e) = _
  unfold F14.fP
  have hz : er a (top b.length o) e (lf a (top b.length o) e) = e := if_neg he
  have hn := takeNo h (e := e) (n := lf a (top b.length o) e) (by rw [hz]; exact he)
  rw [hz] at hn
  simp only [leftP h, hn, Option.bind_some]
  rfl
end
/-! Numbers. -/
def val (l : List Int) : Int := l.foldl (fun n c => 256 * n + c) 0
theorem val_snoc (l : List Int) (c : Int) : val (l ++ [c]) = 256 * val l + c := by unfold val; rw [List.foldl_append]; rfl
def byteL (l : List Int) : Prop := ∀ c ∈ l, 0 ≤ c ∧ c ≤ 255
theorem val_bound : ∀ (k : Nat) (l : List Int), byteL l → l.length = k → 0 ≤ val l ∧ val l < 256 ^ k
  | 0, l, _, hl => by
    have : l = [] := List.length_eq_zero_iff.1 hl
    subst this
    exact ⟨by decide, by decide⟩
  | k + 1, l, hb, hl => by
    have hne : l ≠ [] := fun e => by rw [e] at hl; cases hl
    have e := List.dropLast_concat_getLast hne
    rw [← e, val_snoc]
    have hc := hb _ (List.getLast_mem hne)
    obtain ⟨i1, i2⟩ := val_bound k l.dropLast (fun c hc => hb c (List.dropLast_subset l hc)) (by rw [List.length_dropLast]; omega)
    rw [Int.pow_succ]
    generalize (256 : Int) ^ k = q at *
    omega
theorem or256 {n c : Int} (h0 : 0 ≤ n) (hc : 0 ≤ c ∧ c ≤ 255) : (((n * 256).toNat ||| c.toNat : Nat) : Int) = 256 * n + c := by
  obtain ⟨m, rfl⟩ : ∃ m : Nat, n = (m : Int) := ⟨n.toNat, by omega⟩
  obtain ⟨d, rfl⟩ : ∃ d : Nat, c = (d : Int) := ⟨c.toNat, by omega⟩
  have e := Nat.two_pow_add_eq_or_of_lt (b := d) (i := 8) (by omega) m
  have e1 : ((m : Int) * 256).toNat = 2 ^ 8 * m := by omega
  rw [e1, Int.toNat_natCast, ← e]
  omega
theorem byteL_take {l : List Int} (h : byteL l) (k : Nat) : byteL (l.take k) := fun c hc => h c (List.take_subset k l hc)
theorem byteL_cut {b : List Int} (h : byteL b) (a n : Int) : byteL (cut b a n) := fun c hc => h c (List.drop_subset _ b (List.take_subset _ _ hc))
/-- Small enough not to wrap. -/
theorem small {l : List Int} (hb : byteL l) {k : Nat} (hk : k < l.length) : 0 ≤ val (l.take k) ∧ val (l.take k) < 256 ^ k ∧ val (l.take (k + 1)) = 256 * val (l.take k) + l[k] ∧ 0 ≤ l[k] ∧ l[k] ≤ 255 := by
  obtain ⟨i1, i2⟩ := val_bound k (l.take k) (byteL_take hb k) (by rw [List.length_take]; omega)
  refine ⟨i1, i2, ?_, hb _ (List.getElem_mem hk)⟩
  rw [List.take_succ_eq_append_getElem hk, val_snoc]
theorem getD_at {α : Type} (l : List α) (d : α) {i : Nat} (h : i < l.length) : l.getD i d = l[i] := by rw [List.getD, List.getElem?_eq_getElem h]; rfl
section
variable {l : List Int} (hb : byteL l)
include hb
theorem num4 (hl : l.length ≤ 4) : F61.l1 (l, (l.length : Int)) (0, 0) = some (val l, ()) := by
  show iterO (F61.r1 (l, (l.length : Int))) (0, 0) = _
  obtain ⟨r, e1, e2⟩ := iterO_inv (f := F61.r1 (l, (l.length : Int))) (fun z => ∃ k : Nat, k ≤ l.length ∧ z = (val (l.take k), (k : Int))) (fun z => l.length - z.2.toNat) (fun r => r = (val l, ())) (by
    rintro z ⟨k, hk, rfl⟩
    have hf : F61.r1 (l, (l.length : Int)) (val (l.take k), (k : Int)) = F61.r1P F13.f (l, (l.length : Int)) (val (l.take k), (k : Int)) := rfl
    rw [hf]
    unfold F61.r1P
    dsimp only
    by_cases hlt : k < l.length
    · left
      obtain ⟨s1, s2, s3, s4, s5⟩ := small hb hlt
      have hp : (256 : Int) ^ k ≤ 16777216 := by
        have hk4 : k = 0 ∨ k = 1 ∨ k = 2 ∨ k = 3 := by omega
        rcases hk4 with rfl | rfl | rfl | rfl <;> decide
      refine ⟨(val (l.take (k + 1)), ((k + 1 : Nat) : Int)), ?_, ⟨k + 1, hlt, rfl⟩, by simp only [Int.toNat_natCast]; omega⟩
      have c1 : decide ((k : Int) < (l.length : Int)) = true := decide_eq_true (by omega)
      have c2 : decide (0 ≤ (k : Int) ∧ (k : Int) < (l.length : Int) ∧ 0 < l.length) = true := decide_eq_true (by omega)
      have c3 : decide (0 + (k : Int).toNat < l.length) = true := decide_eq_true (by omega)
      have e3 : l.getD (0 + (k : Int).toNat) 0 = l[k] := by rw [Nat.zero_add, Int.toNat_natCast]; exact getD_at l _ hlt
      rw [c1, c2, c3, e3, s3]
      generalize val (l.take k) = n at *
      generalize l[k] = c at *
      simp only [cond_true]
      rw [IntWalk.u32_in (n * 128) (by omega), IntWalk.u32_in (n * 128 * 2) (by omega), IntWalk.u32_in c (by omega), Int.emod_eq_of_lt (by omega) (by omega), Int.emod_eq_of_lt (by omega) (by omega), show n * 128 * 2 = n * 256 by omega, or256 s1 ⟨s4, s5⟩,
        IntWalk.u32_in _ (by omega), wrap64_id (by omega)]
      rfl
    · right
      have : k = l.length := by omega
      subst this
      exact ⟨_, by rw [decide_eq_false (show ¬ (l.length : Int) < (l.length : Int) by omega)]; rfl, by rw [List.take_length]⟩) (0, 0) ⟨0, Nat.zero_le _, rfl⟩
  rw [e1, e2]
theorem num2 (hl : l.length ≤ 2) : F62.l1 (l, (l.length : Int)) (0, 0) = some (val l, ()) := by
  show iterO (F62.r1 (l, (l.length : Int))) (0, 0) = _
  obtain ⟨r, e1, e2⟩ := iterO_inv (f := F62.r1 (l, (l.length : Int))) (fun z => ∃ k : Nat, k ≤ l.length ∧ z = (val (l.take k), (k : Int))) (fun z => l.length - z.2.toNat) (fun r => r = (val l, ())) (by
    rintro z ⟨k, hk, rfl⟩
    have hf : F62.r1 (l, (l.length : Int)) (val (l.take k), (k : Int)) = F62.r1P F13.f (l, (l.length : Int)) (val (l.take k), (k : Int)) := rfl
    rw [hf]
    unfold F62.r1P
    dsimp only
    by_cases hlt : k < l.length
    · left
      obtain ⟨s1, s2, s3, s4, s5⟩ := small hb hlt
      have hp : (256 : Int) ^ k ≤ 256 := by
        have hk4 : k = 0 ∨ k = 1 := by omega
        rcases hk4 with rfl | rfl <;> decide
      refine ⟨(val (l.take (k + 1)), ((k + 1 : Nat) : Int)), ?_, ⟨k + 1, hlt, rfl⟩, by simp only [Int.toNat_natCast]; omega⟩
      have c1 : decide ((k : Int) < (l.length : Int)) = true := decide_eq_true (by omega)
      have c2 : decide (0 ≤ (k : Int) ∧ (k : Int) < (l.length : Int) ∧ 0 < l.length) = true := decide_eq_true (by omega)
      have c3 : decide (0 + (k : Int).toNat < l.length) = true := decide_eq_true (by omega)
      have e3 : l.getD (0 + (k : Int).toNat) 0 = l[k] := by rw [Nat.zero_add, Int.toNat_natCast]; exact getD_at l _ hlt
      rw [c1, c2, c3, e3, s3]
      generalize val (l.take k) = n at *
      generalize l[k] = c at *
      simp only [cond_true]
      rw [IntWalk.u16_in (n * 128) (by omega), IntWalk.u16_in (n * 128 * 2) (by omega), IntWalk.u16_in c (by omega), Int.emod_eq_of_lt (by omega) (by omega), Int.emod_eq_of_lt (by omega) (by omega), show n * 128 * 2 = n * 256 by omega, or256 s1 ⟨s4, s5⟩,
        IntWalk.u16_in _ (by omega), wrap64_id (by omega)]
      rfl
    · right
      have : k = l.length := by omega
      subst this
      exact ⟨_, by rw [decide_eq_false (show ¬ (l.length : Int) < (l.length : Int) by omega)]; rfl, by rw [List.take_length]⟩) (0, 0) ⟨0, Nat.zero_le _, rfl⟩
  rw [e1, e2]
theorem num1 (hl : l.length ≤ 1) : F52.l1 (l, (l.length : Int)) (0, 0) = some (val l, ()) := by
  show iterO (F52.r1 (l, (l.length : Int))) (0, 0) = _
  obtain ⟨r, e1, e2⟩ := iterO_inv (f := F52.r1 (l, (l.length : Int))) (fun z => ∃ k : Nat, k ≤ l.length ∧ z = (val (l.take k), (k : Int))) (fun z => l.length - z.2.toNat) (fun r => r = (val l, ())) (by
    rintro z ⟨k, hk, rfl⟩
    have hf : F52.r1 (l, (l.length : Int)) (val (l.take k), (k : Int)) = F52.r1P F13.f (l, (l.length : Int)) (val (l.take k), (k : Int)) := rfl
    rw [hf]
    unfold F52.r1P
    dsimp only
    by_cases hlt : k < l.length
    · left
      obtain ⟨s1, s2, s3, s4, s5⟩ := small hb hlt
      have k0 : k = 0 := by omega
      subst k0
      refine ⟨(val (l.take (0 + 1)), ((0 + 1 : Nat) : Int)), ?_, ⟨0 + 1, hlt, rfl⟩, by simp only [Int.toNat_natCast]; omega⟩
      have c1 : decide (((0 : Nat) : Int) < (l.length : Int)) = true := decide_eq_true (by omega)
      have c2 : decide (0 ≤ ((0 : Nat) : Int) ∧ ((0 : Nat) : Int) < (l.length : Int) ∧ 0 < l.length) = true := decide_eq_true (by omega)
      have c3 : decide (0 + ((0 : Nat) : Int).toNat < l.length) = true := decide_eq_true (by omega)
      have e3 : l.getD (0 + ((0 : Nat) : Int).toNat) 0 = l[0] := by rw [Nat.zero_add, Int.toNat_natCast]; exact getD_at l _ hlt
      rw [c1, c2, c3, e3, s3]
      have n0 : val (l.take 0) = 0 := rfl
      rw [n0]
      generalize l[0] = c at *
      simp only [cond_true]
      have oc := or256 (n := 0) (Int.le_refl _) (c := c) ⟨s4, s5⟩
      rw [IntWalk.u8_in (0 * 128) (by omega), IntWalk.u8_in (0 * 128 * 2) (by omega), Int.emod_eq_of_lt (by omega) (by omega), Int.emod_eq_of_lt (by omega) (by omega), show (0 : Int) * 128 * 2 = 0 * 256 by omega, oc,
        IntWalk.u8_in _ (by omega), wrap64_id (by omega)]
      rfl
    · right
      have : k = l.length := by omega
      subst this
      exact ⟨_, by rw [decide_eq_false (show ¬ (l.length : Int) < (l.length : Int) by omega)]; rfl, by rw [List.take_length]⟩) (0, 0) ⟨0, Nat.zero_le _, rfl⟩
  rw [e1, e2]
end
theorem cut_le (b : List Int) (a : Int) (n : Nat) : (cut b a n).length ≤ n := by unfold cut; rw [List.length_take, Int.toNat_natCast]; omega
/-- A number of n byteL: what is taken; 0 where nothing may be. -/
def numOf (b : List Int) (a t e : Int) (n : Nat) : Int := if er a t e n = 0 then val (cut b a n) else 0
def numSt (b : List Int) (a t e : Int) (n : Nat) (ends : List Int) : RS := if er a t e n = 0 then (b, a + n, ends, e) else (b, a, ends, er a t e n)
section
variable {b : List Int} {a : Int} {o : List Int} (h : RdOk b a o) (hb : byteL b)
include h hb
theorem byteP (e : Int) : F12.f (b, a, (b.length : Int) :: o, e) = some (numOf b a (top b.length o) e 1, numSt b a (top b.length o) e 1 ((b.length : Int) :: o)) := by
  show F12.fP F52.f (b, a, (b.length : Int) :: o, e) = _
  unfold F12.fP
  have key : F52.f ((b, a, (b.length : Int) :: o, e), 1) = some (numOf b a (top b.length o) e 1, numSt b a (top b.length o) e 1 ((b.length : Int) :: o)) := by
    show F52.fP F13.f F52.l1 ((b, a, (b.length : Int) :: o, e), 1) = _
    unfold F52.fP numOf numSt
    by_cases hz : er a (top b.length o) e (1 : Nat) = 0
    · have t := takeOk h hz
      rw [if_pos hz, if_pos hz]
      rw [show (((1 : Nat) : Int)) = 1 from rfl] at t
      simp only [t, Option.bind_some, le_all, Bool.and_true, cond_true, take_all]
      rw [num1 (byteL_cut hb a 1) (cut_le b a 1)]
      rfl
    · have t := takeNo h hz
      rw [if_neg hz, if_neg hz]
      rw [show (((1 : Nat) : Int)) = 1 from rfl] at t ⊢
      simp only [t, Option.bind_some, le_all, Bool.and_true, cond_true, take_all]
      rw [num1 (l := []) (fun c hc => by cases hc) (by simp)]
      rfl
  simp only [key, Option.bind_some]
theorem twoP (e : Int) : F48.f (b, a, (b.length : Int) :: o, e) = some (numOf b a (top b.length o) e 2, numSt b a (top b.length o) e 2 ((b.length : Int) :: o)) := by
  show F48.fP F62.f (b, a, (b.length : Int) :: o, e) = _
  unfold F48.fP
  have key : F62.f ((b, a, (b.length : Int) :: o, e), 2) = some (numOf b a (top b.length o) e 2, numSt b a (top b.length o) e 2 ((b.length : Int) :: o)) := by
    show F62.fP F13.f F62.l1 ((b, a, (b.length : Int) :: o, e), 2) = _
    unfold F62.fP numOf numSt
    by_cases hz : er a (top b.length o) e (2 : Nat) = 0
    · have t := takeOk h hz
      rw [if_pos hz, if_pos hz]
      rw [show (((2 : Nat) : Int)) = 2 from rfl] at t
      simp only [t, Option.bind_some, le_all, Bool.and_true, cond_true, take_all]
      rw [num2 (byteL_cut hb a 2) (cut_le b a 2)]
      rfl
    · have t := takeNo h hz
      rw [if_neg hz, if_neg hz]
      rw [show (((2 : Nat) : Int)) = 2 from rfl] at t ⊢
      simp only [t, Option.bind_some, le_all, Bool.and_true, cond_true, take_all]
      rw [num2 (l := []) (fun c hc => by cases hc) (by simp)]
      rfl
  simp only [key, Option.bind_some]
theorem fourP (e : Int) : F40.f (b, a, (b.length : Int) :: o, e) = some (numOf b a (top b.length o) e 4, numSt b a (top b.length o) e 4 ((b.length : Int) :: o)) := by
  show F40.fP F61.f (b, a, (b.length : Int) :: o, e) = _
  unfold F40.fP
  have key : F61.f ((b, a, (b.length : Int) :: o, e), 4) = some (numOf b a (top b.length o) e 4, numSt b a (top b.length o) e 4 ((b.length : Int) :: o)) := by
    show F61.fP F13.f F61.l1 ((b, a, (b.length : Int) :: o, e), 4) = _
    unfold F61.fP numOf numSt
    by_cases hz : er a (top b.length o) e (4 : Nat) = 0
    · have t := takeOk h hz
      rw [if_pos hz, if_pos hz]
      rw [show (((4 : Nat) : Int)) = 4 from rfl] at t
      simp only [t, Option.bind_some, le_all, Bool.and_true, cond_true, take_all]
      rw [num4 (byteL_cut hb a 4) (cut_le b a 4)]
      rfl
    · have t := takeNo h hz
      rw [if_neg hz, if_neg hz]
      rw [show (((4 : Nat) : Int)) = 4 from rfl] at t ⊢
      simp only [t, Option.bind_some, le_all, Bool.and_true, cond_true, take_all]
      rw [num4 (l := []) (fun c hc => by cases hc) (by simp)]
      rfl
  simp only [key, Option.bind_some]
end
end Go.Proofs.Ytkleakkhbfdipaa.PA

/- Chapter 1: the writers: what each call leaves. -/
namespace Go.Proofs.Ytkleakkhbfdipaa.PE
open Go Go.Proofs Go.Proofs.Ytkleakkhbfdipaa.Sx Go.Proofs.Ytkleakkhbfdipaa.PA
set_option linter.unusedSimpArgs false
set_option linter.unusedVariables false
abbrev Hs := List (Int × Int)
theorem errW (b : List Int) (h : Hs) (e : Int) : F34.f (b, h, e, true) = some (e, b, h, e, true) := rfl
theorem failsNo (b : List Int) (h : Hs) (e k : Int) : F55.f ((b, h, e, true), false, k) = some (e != 0, b, h, e, true) := by
  show F55.fP F34.f ((b, h, e, true), false, k) = _
  unfold F55.fP
  simp only [errW, Option.bind_some, cond_false, Bool.cond_self]
theorem failsYes (b : List Int) (h : Hs) (k : Int) : F55.f ((b, h, 0, true), true, k) = some (k != 0, b, h, k, true) := by
  show F55.fP F34.f ((b, h, 0, true), true, k) = _
  unfold F55.fP
  simp only [errW, Option.bind_some, cond_true, take_all, le_all, Bool.and_true, show ((0 : Int) == 0) = true from rfl]
theorem failsOld (b : List Int) (h : Hs) {e : Int} (he : e ≠ 0) (c : Bool) (k : Int) : F55.f ((b, h, e, true), c, k) = some (true, b, h, e, true) := by
  show F55.fP F34.f ((b, h, e, true), c, k) = _
  unfold F55.fP
  simp only [errW, Option.bind_some, beq_eq_false_iff_ne.2 he, cond_false, bne, Bool.not_false]
theorem doneOld (b : List Int) (h : Hs) {e : Int} (he : e ≠ 0) : F31.f (b, h, e, true) = some (([], e), b, h, e, true) := by
  show F31.fP F34.f F51.f (b, h, e, true) = _
  unfold F31.fP
  simp only [errW, Option.bind_some, bne, beq_eq_false_iff_ne.2 he, Bool.not_false, cond_true]
theorem doneHeld (b : List Int) (h : Hs) (x : Int × Int) : F31.f (b, h ++ [x], 0, true) = some (([], 26), b, h ++ [x], 0, true) := by
  show F31.fP F34.f F51.f (b, h ++ [x], 0, true) = _
  unfold F31.fP
  have c : decide ((((h ++ [x]).length : Nat) : Int) > 0) = true := decide_eq_true (by rw [List.length_append]; simp only [List.length_cons, List.length_nil]; omega)
  simp only [errW, Option.bind_some, bne, beq_self_eq_true, Bool.not_true, cond_false, c, cond_true, le_all, Bool.and_true, take_all]
theorem doneOk {b : List Int} (hb : b.length ≤ 1000000) : F31.f (b, [], 0, true) = some ((b, 0), b, [], 0, true) := by
  show F31.fP F34.f F51.f (b, [], 0, true) = _
  unfold F31.fP
  have c : decide (((([] : Hs).length : Nat) : Int) > 0) = false := rfl
  simp only [errW, Option.bind_some, bne, beq_self_eq_true, Bool.not_true, cond_false, c, cond_true, le_all, Bool.and_true, take_all, PA.cloneF b hb]
theorem lenW (b : List Int) (h : Hs) (e : Int) : F33.f (b, h, e, true) = some ((b.length : Int), b, h, e, true) := by
  show F33.fP (b, h, e, true) = _
  unfold F33.fP
  simp only [le_all, Bool.and_true, cond_true, List.take_length]
/-! the reference's bytes -/
theorem layStep {b : List Int} (hb : b.length ≤ 1000000) (h : Hs) {n wide y i : Int} (hn : 0 ≤ n ∧ n ≤ 9223372036854775807) (hy : 1 ≤ y ∧ y ≤ 16777216) (hi : i < wide) (h0 : 0 ≤ i ∧ i ≤ 1000) :
    F24.r2 (n, wide) ((b, h, 0), y, i) = some (.inl ((b ++ [n / y % 256], h, 0), (if 1 > y / 256 then 1 else y / 256), i + 1)) := by
  show F24.r2P (n, wide) ((b, h, 0), y, i) = _
  unfold F24.r2P
  have q := IntWalk.tdiv_le n y hn.1 hy.1
  have e1 : IntKind.u8.wrap ((IntKind.i64.wrap (n.tdiv y)).tmod 256) = n / y % 256 := by
    rw [IntWalk.i64_quo n y ⟨hn.1, hn.2, hy.1⟩, IntWalk.rem_in _ _ q.1, IntWalk.u8_in _ (by omega)]
  have e2 : IntKind.i64.wrap (y.tdiv 256) = y / 256 := IntWalk.i64_quo y 256 ⟨by omega, by omega, by omega⟩
  have c1 : decide (y ≠ 0) = true := decide_eq_true (by omega)
  have c2 : decide (b.length + 1 ≤ 1073741824) = true := decide_eq_true (by omega)
  have e3 : IntKind.i64.wrap (i + 1) = i + 1 := wrap64_id (by omega)
  have c3 : decide (0 + (b.length + 1) ≤ (b ++ [n / y % 256]).length) = true := decide_eq_true (by rw [List.length_append]; simp)
  have c4 : List.take (b.length + 1) (List.drop 0 (b ++ [n / y % 256])) = b ++ [n / y % 256] := by rw [List.drop_zero, List.take_of_length_le (by simp)]
  simp only [e1, e2, e3, c1, c2, c3, c4, decide_eq_true hi, cond_true, le_all, List.take_length, Bool.and_true]
theorem layEnd (b : List Int) (h : Hs) {n wide y i : Int} (hi : ¬ i < wide) : F24.r2 (n, wide) ((b, h, 0), y, i) = some (.inr ((), b, h, 0)) := by
  show F24.r2P (n, wide) ((b, h, 0), y, i) = _
  unfold F24.r2P
  simp only [decide_eq_false hi, cond_false]
theorem layOld (b : List Int) (h : Hs) {e : Int} (he : e ≠ 0) (n wide : Int) : F24.f ((b, h, e), n, wide) = some ((), b, h, e) := by
  show F24.fP F24.l1 F24.l2 ((b, h, e), n, wide) = _
  unfold F24.fP
  simp only [bne, beq_eq_false_iff_ne.2 he, Bool.not_false, cond_true]
theorem by1 : F24.l1 1 (1, 1) = some (1, ()) := iterO_done rfl
theorem by2 : F24.l1 2 (1, 1) = some (256, ()) := (iterO_step rfl).trans (iterO_done rfl)
theorem by4 : F24.l1 4 (1, 1) = some (16777216, ()) := (iterO_step rfl).trans ((iterO_step rfl).trans ((iterO_step rfl).trans (iterO_done rfl)))
theorem lay1 {b : List Int} (hb : b.length ≤ 100000) (h : Hs) {n : Int} (hn : 0 ≤ n ∧ n ≤ 4294967295) : F24.f ((b, h, 0), n, 1) = some ((), b ++ [n % 256], h, 0) := by
  show F24.fP F24.l1 F24.l2 ((b, h, 0), n, 1) = _
  unfold F24.fP
  have l : F24.l2 (n, 1) ((b, h, 0), 1, 0) = some ((), b ++ [n / 1 % 256], h, 0) :=
    (iterO_step (layStep (by omega) h ⟨hn.1, by omega⟩ (by omega) (by omega) (by omega))).trans (iterO_done (layEnd _ _ (by omega)))
  rw [Int.ediv_one] at l
  simp only [by1, Option.bind_some, l, bne_self_eq_false, cond_false]
theorem lay2 {b : List Int} (hb : b.length ≤ 100000) (h : Hs) {n : Int} (hn : 0 ≤ n ∧ n ≤ 4294967295) : F24.f ((b, h, 0), n, 2) = some ((), b ++ [n / 256 % 256, n % 256], h, 0) := by
  show F24.fP F24.l1 F24.l2 ((b, h, 0), n, 2) = _
  unfold F24.fP
  have l : F24.l2 (n, 2) ((b, h, 0), 256, 0) = some ((), b ++ [n / 256 % 256, n % 256], h, 0) := by
    refine (iterO_step (layStep (by omega) h ⟨hn.1, by omega⟩ (by omega) (by omega) (by omega))).trans ((iterO_step (layStep (by rw [List.length_append]; simp only [List.length_cons, List.length_nil]; omega) h ⟨hn.1, by omega⟩ (by decide) (by decide) (by decide))).trans ((iterO_done (layEnd _ _ (by decide))).trans ?_))
    simp
  simp only [by2, Option.bind_some, l, bne_self_eq_false, cond_false]
theorem lay4 {b : List Int} (hb : b.length ≤ 100000) (h : Hs) {n : Int} (hn : 0 ≤ n ∧ n ≤ 4294967295) : F24.f ((b, h, 0), n, 4) = some ((), b ++ [n / 16777216 % 256, n / 65536 % 256, n / 256 % 256, n % 256], h, 0) := by
  show F24.fP F24.l1 F24.l2 ((b, h, 0), n, 4) = _
  unfold F24.fP
  have l : F24.l2 (n, 4) ((b, h, 0), 16777216, 0) = some ((), b ++ [n / 16777216 % 256, n / 65536 % 256, n / 256 % 256, n % 256], h, 0) := by
    refine (iterO_step (layStep (by omega) h ⟨hn.1, by omega⟩ (by omega) (by omega) (by omega))).trans ((iterO_step (layStep (by rw [List.length_append]; simp only [List.length_cons, List.length_nil]; omega) h ⟨hn.1, by omega⟩ (by decide) (by decide) (by decide))).trans ((iterO_step (layStep (by simp only [List.length_append, List.length_cons, List.length_nil]; omega) h ⟨hn.1, by omega⟩ (by decide) (by decide) (by decide))).trans ((iterO_step (layStep (by simp only [List.length_append, List.length_cons, List.length_nil]; omega) h ⟨hn.1, by omega⟩ (by decide) (by decide) (by decide))).trans ((iterO_done (layEnd _ _ (by decide))).trans ?_))))
    simp
  simp only [by4, Option.bind_some, l, bne_self_eq_false, cond_false]
/-! the program's bytes -/
theorem app {b l : List Int} : List.take (b.length + l.length) (List.drop 0 (List.take b.length (List.drop 0 b) ++ l)) = b ++ l := by
  rw [take_all, List.drop_zero, ← List.length_append, List.take_length]
theorem app' {b l : List Int} : List.take (b.length + l.length) (List.drop 0 (b ++ l)) = b ++ l := by
  rw [List.drop_zero, ← List.length_append, List.take_length]
theorem twoStep {b : List Int} (hb : b.length ≤ 100000) (h : Hs) (l : List Int) {i : Int} (h0 : 0 ≤ i ∧ i ≤ 1000) (hi : i < l.length) {n : Int} (hl : l.getD i.toNat 0 = n) (hn : 0 ≤ n ∧ n ≤ 65535) :
    F25.r1 (l, (l.length : Int)) ((b, h, 0, true), i) = some (.inl ((b ++ [n / 256, n % 256], h, 0, true), i + 1)) := by
  show F25.r1P F34.f (l, (l.length : Int)) ((b, h, 0, true), i) = _
  unfold F25.r1P
  have c1 : decide (0 ≤ i ∧ i < ((l.length : Nat) : Int) ∧ 0 < l.length) = true := decide_eq_true (by omega)
  have c2 : decide (0 + i.toNat < l.length) = true := decide_eq_true (by omega)
  have e1 : IntKind.u8.wrap (Int.fdiv n 256) = n / 256 := by
    rw [Int.fdiv_eq_ediv_of_nonneg _ (by omega), IntWalk.u8_in _ (by omega)]
  have e2 : IntKind.u8.wrap n = n % 256 := IntKind.wrap_u8 n
  have e3 : IntKind.i64.wrap (i + 1) = i + 1 := wrap64_id (by omega)
  have c3 : decide (b.length + 2 / OfNat.ofNat 1 ≤ 1073741824) = true := decide_eq_true (by show b.length + 2 ≤ _; omega)
  have c4 : decide (0 + (b.length + 2 / OfNat.ofNat 1) ≤ (b ++ [n / 256, n % 256]).length) = true := decide_eq_true (by rw [List.length_append]; exact Nat.le_of_eq (Nat.zero_add _))
  have c5 : List.take (b.length + 2 / OfNat.ofNat 1) (List.drop 0 (b ++ [n / 256, n % 256])) = b ++ [n / 256, n % 256] := app' (l := [n / 256, n % 256])
  have hl' : l.getD (0 + i.toNat) 0 = n := by rw [Nat.zero_add]; exact hl
  simp only [decide_eq_true hi, c1, c2, cond_true, errW, Option.bind_some, beq_self_eq_true, hl', e1, e2, e3, c3, c4, c5, le_all, Bool.and_true, take_all]
theorem twoEnd (b : List Int) (h : Hs) (e : Int) (l : List Int) {i : Int} (hi : ¬ i < l.length) : F25.r1 (l, (l.length : Int)) ((b, h, e, true), i) = some (.inr ((), b, h, e, true)) := by
  show F25.r1P F34.f (l, (l.length : Int)) ((b, h, e, true), i) = _
  unfold F25.r1P
  simp only [decide_eq_false hi, cond_false]
theorem twoOld (b : List Int) (h : Hs) {e : Int} (he : e ≠ 0) (l : List Int) {i : Int} (h0 : 0 ≤ i ∧ i ≤ 1000) (hi : i < l.length) : F25.r1 (l, (l.length : Int)) ((b, h, e, true), i) = some (.inl ((b, h, e, true), i + 1)) := by
  show F25.r1P F34.f (l, (l.length : Int)) ((b, h, e, true), i) = _
  unfold F25.r1P
  have c1 : decide (0 ≤ i ∧ i < ((l.length : Nat) : Int) ∧ 0 < l.length) = true := decide_eq_true (by omega)
  have c2 : decide (0 + i.toNat < l.length) = true := decide_eq_true (by omega)
  have e3 : IntKind.i64.wrap (i + 1) = i + 1 := wrap64_id (by omega)
  simp only [decide_eq_true hi, c1, c2, cond_true, errW, Option.bind_some, beq_eq_false_iff_ne.2 he, cond_false, e3]
theorem two {b : List Int} (hb : b.length ≤ 100000) (h : Hs) {n : Int} (hn : 0 ≤ n ∧ n ≤ 65535) : F25.l1 ([n], 1) ((b, h, 0, true), 0) = some ((), b ++ [n / 256 % 256, n % 256], h, 0, true) := by
  have e : n / 256 % 256 = n / 256 := Int.emod_eq_of_lt (by omega) (by omega)
  rw [e]
  exact (iterO_step (twoStep hb h [n] (by decide) (by simp) (n := n) rfl hn)).trans (iterO_done (twoEnd _ _ _ [n] (by simp)))
theorem twoO (b : List Int) (h : Hs) {e : Int} (he : e ≠ 0) (n : Int) : F25.l1 ([n], 1) ((b, h, e, true), 0) = some ((), b, h, e, true) :=
  (iterO_step (twoOld b h he [n] (by decide) (by simp))).trans (iterO_done (twoEnd _ _ _ [n] (by simp)))
theorem twos {b : List Int} (hb : b.length ≤ 90000) (h : Hs) {n m : Int} (hn : 0 ≤ n ∧ n ≤ 65535) (hm : 0 ≤ m ∧ m ≤ 65535) : F25.l1 ([n, m], 2) ((b, h, 0, true), 0) = some ((), b ++ [n / 256, n % 256, m / 256, m % 256], h, 0, true) := by
  refine (iterO_step (twoStep (by omega) h [n, m] (by decide) (by simp) (n := n) rfl hn)).trans ((iterO_step (twoStep (by rw [List.length_append]; simp only [List.length_cons, List.length_nil]; omega) h [n, m] (by decide) (by simp) (n := m) rfl hm)).trans ((iterO_done (twoEnd _ _ _ [n, m] (by simp))).trans ?_))
  simp
theorem twosO (b : List Int) (h : Hs) {e : Int} (he : e ≠ 0) (n m : Int) : F25.l1 ([n, m], 2) ((b, h, e, true), 0) = some ((), b, h, e, true) :=
  (iterO_step (twoOld b h he [n, m] (by decide) (by simp))).trans ((iterO_step (twoOld b h he [n, m] (by decide) (by simp))).trans (iterO_done (twoEnd _ _ _ [n, m] (by simp))))
theorem four {b : List Int} (hb : b.length ≤ 90000) (h : Hs) {n : Int} (hn : 0 ≤ n ∧ n ≤ 4294967295) : F26.l1 ([n], 1) ((b, h, 0, true), 0) = some ((), b ++ [n / 16777216 % 256, n / 65536 % 256, n / 256 % 256, n % 256], h, 0, true) := by
  have e1 : IntKind.u16.wrap (Int.fdiv n 65536) = n / 65536 := by
    rw [Int.fdiv_eq_ediv_of_nonneg _ (by omega), IntWalk.u16_in _ (by omega)]
  have e2 : IntKind.u16.wrap n = n % 65536 := IntKind.wrap_u16 n
  have s : F26.r1 ([n], 1) ((b, h, 0, true), 0) = some (.inl ((b ++ [n / 16777216 % 256, n / 65536 % 256, n / 256 % 256, n % 256], h, 0, true), 1)) := by
    show F26.r1P F34.f F25.l1 ([n], 1) ((b, h, 0, true), 0) = _
    unfold F26.r1P
    have g : ([n] : List Int).getD (0 + (0 : Int).toNat) 0 = n := rfl
    simp only [g, e1, e2, twos hb h (show 0 ≤ n / 65536 ∧ n / 65536 ≤ 65535 by omega) (show 0 ≤ n % 65536 ∧ n % 65536 ≤ 65535 by omega), Option.bind_some]
    rw [show n / 65536 / 256 = n / 16777216 % 256 by omega, show n / 65536 % 256 = n / 65536 % 256 from rfl, show n % 65536 / 256 = n / 256 % 256 by omega, show n % 65536 % 256 = n % 256 by omega]
    rfl
  exact (iterO_step s).trans (iterO_done rfl)
theorem fourO (b : List Int) (h : Hs) {e : Int} (he : e ≠ 0) (n : Int) : F26.l1 ([n], 1) ((b, h, e, true), 0) = some ((), b, h, e, true) := by
  have s : F26.r1 ([n], 1) ((b, h, e, true), 0) = some (.inl ((b, h, e, true), 1)) := by
    show F26.r1P F34.f F25.l1 ([n], 1) ((b, h, e, true), 0) = _
    unfold F26.r1P
    simp only [twosO b h he, Option.bind_some]
    rfl
  exact (iterO_step s).trans (iterO_done rfl)
end Go.Proofs.Ytkleakkhbfdipaa.PE

/- Chapter 1: the writers: what each act leaves, alike on both. -/
namespace Go.Proofs.Ytkleakkhbfdipaa.PF
open Go Go.Proofs Go.Proofs.Ytkleakkhbfdipaa.Sx Go.Proofs.Ytkleakkhbfdipaa.PA Go.Proofs.Ytkleakkhbfdipaa.PE
set_option linter.unusedSimpArgs false
set_option linter.unusedVariables false
/-- Bytes and holds behind so many acts. -/
structure WOk (b : List Int) (h : Hs) (k : Nat) : Prop where
  lb : b.length ≤ 301 * k
  lh : h.length ≤ k
  at0 : ∀ x ∈ h, 0 ≤ x.1 ∧ (x.2 = 1 ∨ x.2 = 2) ∧ x.1 + x.2 ≤ b.length
theorem WOk.more {b : List Int} {h : Hs} {k : Nat} (w : WOk b h k) {l : List Int} (hl : l.length ≤ 301) : WOk (b ++ l) h (k + 1) := by
  have := w.lb; have := w.lh
  exact ⟨by rw [List.length_append]; omega, by omega, fun x hx => by obtain ⟨a, c, d⟩ := w.at0 x hx; rw [List.length_append]; exact ⟨a, c, by omega⟩⟩
theorem WOk.same {b : List Int} {h : Hs} {k : Nat} (w : WOk b h k) : WOk b h (k + 1) := by
  have := w.lb; have := w.lh
  exact ⟨by omega, by omega, w.at0⟩
abbrev St := (List Int × Hs × Int × Bool) × (List Int × Hs × Int)
abbrev W (b : List Int) (h : Hs) (e : Int) : St := ((b, h, e, true), (b, h, e))
section
variable {b : List Int} {h : Hs} {k : Nat} (w : WOk b h k) (hk : k ≤ 100)
include w hk
theorem act1 (e a0 a1 : Int) : ∃ b' h' e', F4.l1 (a0, a1) (W b h e) = some ((), W b' h' e') ∧ WOk b' h' (k + 1) := by
  have lb := w.lb
  show ∃ b' h' e', F4.r1P F22.f F34.f F24.f F55.f F28.f F30.f F31.f F33.f F25.l1 F26.l1 F29.l1 (a0, a1) (W b h e) = _ ∧ _
  unfold F4.r1P
  dsimp only
  by_cases he : e = 0
  · subst he
    have hw : 0 ≤ IntKind.u8.wrap a1 ∧ IntKind.u8.wrap a1 ≤ 255 := by rw [IntKind.wrap_u8]; omega
    have e1 : IntKind.i64.wrap (IntKind.u8.wrap a1) = IntKind.u8.wrap a1 := wrap64_id (by omega)
    have e2 : IntKind.u8.wrap a1 % 256 = IntKind.u8.wrap a1 := Int.emod_eq_of_lt (by omega) (by omega)
    have l := lay1 (b := b) (by omega) h (n := IntKind.u8.wrap a1) (by omega)
    rw [e2] at l
    rw [e1]
    generalize IntKind.u8.wrap a1 = n at *
    have c1 : decide (b.length + 1 / OfNat.ofNat 1 ≤ 1073741824) = true := decide_eq_true (by show b.length + 1 ≤ _; omega)
    have c2 : decide (0 + (b.length + 1 / OfNat.ofNat 1) ≤ (b ++ [n]).length) = true := decide_eq_true (by rw [List.length_append]; exact Nat.le_of_eq (Nat.zero_add _))
    have c3 : List.take (b.length + 1 / OfNat.ofNat 1) (List.drop 0 (b ++ [n])) = b ++ [n] := app' (l := [n])
    refine ⟨b ++ [n], h, 0, ?_, w.more (by simp)⟩
    simp only [errW, Option.bind_some, beq_self_eq_true, cond_true, c1, c2, c3, l, le_all, take_all, Bool.and_true]
  · refine ⟨b, h, e, ?_, w.same⟩
    simp only [errW, Option.bind_some, beq_eq_false_iff_ne.2 he, cond_false, layOld b h he]
theorem act2 (e a0 a1 : Int) : ∃ b' h' e', F4.l2 (a0, a1) (W b h e) = some ((), W b' h' e') ∧ WOk b' h' (k + 1) := by
  have lb := w.lb
  show ∃ b' h' e', F4.r2P F22.f F34.f F24.f F55.f F28.f F30.f F31.f F33.f F25.l1 F26.l1 F29.l1 (a0, a1) (W b h e) = _ ∧ _
  unfold F4.r2P
  dsimp only
  by_cases he : e = 0
  · subst he
    have hw : 0 ≤ IntKind.u16.wrap a1 ∧ IntKind.u16.wrap a1 ≤ 65535 := by rw [IntKind.wrap_u16]; omega
    have e1 : IntKind.i64.wrap (IntKind.u16.wrap a1) = IntKind.u16.wrap a1 := wrap64_id (by omega)
    rw [e1]
    generalize IntKind.u16.wrap a1 = n at *
    exact ⟨b ++ [n / 256 % 256, n % 256], h, 0, by simp only [two (b := b) (by omega) h hw, Option.bind_some, lay2 (b := b) (by omega) h (n := n) (by omega)], w.more (by simp)⟩
  · exact ⟨b, h, e, by simp only [twoO b h he, Option.bind_some, layOld b h he], w.same⟩
theorem act3 (e a0 a1 : Int) : ∃ b' h' e', F4.l3 (a0, a1) (W b h e) = some ((), W b' h' e') ∧ WOk b' h' (k + 1) := by
  have lb := w.lb
  show ∃ b' h' e', F4.r3P F22.f F34.f F24.f F55.f F28.f F30.f F31.f F33.f F25.l1 F26.l1 F29.l1 (a0, a1) (W b h e) = _ ∧ _
  unfold F4.r3P
  dsimp only
  by_cases he : e = 0
  · subst he
    have hw : 0 ≤ IntKind.u32.wrap a1 ∧ IntKind.u32.wrap a1 ≤ 4294967295 := by rw [IntKind.wrap_u32]; omega
    have e1 : IntKind.i64.wrap (IntKind.u32.wrap a1) = IntKind.u32.wrap a1 := wrap64_id (by omega)
    rw [e1]
    generalize IntKind.u32.wrap a1 = n at *
    exact ⟨b ++ [n / 16777216 % 256, n / 65536 % 256, n / 256 % 256, n % 256], h, 0, by simp only [four (b := b) (by omega) h hw, Option.bind_some, lay4 (b := b) (by omega) h (n := n) (by omega)], w.more (by simp)⟩
  · exact ⟨b, h, e, by simp only [fourO b h he, Option.bind_some, layOld b h he], w.same⟩
end
theorem zeros {b : List Int} (hb : b.length ≤ 90000) (h : Hs) {m : Nat} (hm : m ≤ 1000) : F4.l4 (m : Int) ((b, h, 0), 0) = some ((), b ++ List.replicate m 0, h, 0) := by
  show iterO (F4.r4 (m : Int)) ((b, h, 0), 0) = _
  obtain ⟨r, e1, e2⟩ := iterO_inv (f := F4.r4 (m : Int)) (fun z => ∃ k : Nat, k ≤ m ∧ z = ((b ++ List.replicate k 0, h, 0), (k : Int))) (fun z => m - z.2.toNat) (fun r => r = ((), b ++ List.replicate m 0, h, 0)) (by
    rintro z ⟨k, hk, rfl⟩
    have hf : F4.r4 (m : Int) ((b ++ List.replicate k 0, h, 0), (k : Int)) = F4.r4P F22.f F34.f F24.f F55.f F28.f F30.f F31.f F33.f F25.l1 F26.l1 F29.l1 (m : Int) ((b ++ List.replicate k 0, h, 0), (k : Int)) := rfl
    rw [hf]
    unfold F4.r4P
    dsimp only
    by_cases hlt : k < m
    · left
      have e3 : IntKind.i64.wrap ((k : Int) + 1) = ((k + 1 : Nat) : Int) := by rw [wrap64_id (by omega)]; omega
      refine ⟨((b ++ List.replicate (k + 1) 0, h, 0), ((k + 1 : Nat) : Int)), ?_, ⟨k + 1, hlt, rfl⟩, by show m - ((k + 1 : Nat) : Int).toNat < m - (k : Int).toNat; omega⟩
      rw [decide_eq_true (show (k : Int) < (m : Int) by omega), cond_true, lay1 (by rw [List.length_append, List.length_replicate]; omega) h (by omega), Option.bind_some, e3]
      rw [show (0 : Int) % 256 = 0 from rfl, List.append_assoc, show List.replicate k (0 : Int) ++ [0] = List.replicate (k + 1) 0 from (List.replicate_succ' ..).symm]
    · right
      have : k = m := by omega
      subst this
      exact ⟨_, by rw [decide_eq_false (show ¬ (k : Int) < (k : Int) by omega)]; rfl, rfl⟩) ((b, h, 0), 0) ⟨0, Nat.zero_le _, by simp⟩
  rw [e1, e2]
theorem zerosO (b : List Int) (h : Hs) {e : Int} (he : e ≠ 0) {m : Nat} (hm : m ≤ 1000) : F4.l4 (m : Int) ((b, h, e), 0) = some ((), b, h, e) := by
  show iterO (F4.r4 (m : Int)) ((b, h, e), 0) = _
  obtain ⟨r, e1, e2⟩ := iterO_inv (f := F4.r4 (m : Int)) (fun z => ∃ k : Nat, k ≤ m ∧ z = ((b, h, e), (k : Int))) (fun z => m - z.2.toNat) (fun r => r = ((), b, h, e)) (by
    rintro z ⟨k, hk, rfl⟩
    have hf : F4.r4 (m : Int) ((b, h, e), (k : Int)) = F4.r4P F22.f F34.f F24.f F55.f F28.f F30.f F31.f F33.f F25.l1 F26.l1 F29.l1 (m : Int) ((b, h, e), (k : Int)) := rfl
    rw [hf]
    unfold F4.r4P
    dsimp only
    by_cases hlt : k < m
    · left
      have e3 : IntKind.i64.wrap ((k : Int) + 1) = ((k + 1 : Nat) : Int) := by rw [wrap64_id (by omega)]; omega
      refine ⟨((b, h, e), ((k + 1 : Nat) : Int)), ?_, ⟨k + 1, hlt, rfl⟩, by show m - ((k + 1 : Nat) : Int).toNat < m - (k : Int).toNat; omega⟩
      rw [decide_eq_true (show (k : Int) < (m : Int) by omega), cond_true, layOld b h he, Option.bind_some, e3]
    · right
      have : k = m := by omega
      subst this
      exact ⟨_, by rw [decide_eq_false (show ¬ (k : Int) < (k : Int) by omega)]; rfl, rfl⟩) ((b, h, e), 0) ⟨0, Nat.zero_le _, rfl⟩
  rw [e1, e2]
theorem act5 {b : List Int} {h : Hs} {k : Nat} (w : WOk b h k) (hk : k ≤ 100) (e a0 a1 : Int) : ∃ b' h' e', F4.l5 (a0, a1) (W b h e) = some ((), W b' h' e') ∧ WOk b' h' (k + 1) := by
  have lb := w.lb
  show ∃ b' h' e', F4.r5P F22.f F34.f F24.f F55.f F28.f F30.f F31.f F33.f F25.l1 F26.l1 F29.l1 F4.l4 (a0, a1) (W b h e) = _ ∧ _
  unfold F4.r5P
  dsimp only
  obtain ⟨m, hm, hm1⟩ : ∃ m : Nat, IntKind.i64.wrap ((IntKind.u64.wrap a1).tmod 301) = (m : Int) ∧ m ≤ 300 := by
    have hu : 0 ≤ IntKind.u64.wrap a1 := by rw [IntKind.wrap_u64]; omega
    rw [IntWalk.rem_in _ _ hu, wrap64_id (by omega)]
    exact ⟨(IntKind.u64.wrap a1 % 301).toNat, by omega, by omega⟩
  rw [hm]
  have c0 : decide (0 ≤ (m : Int) ∧ (m : Int) ≤ (m : Int) ∧ (m : Int) ≤ 1073741824 ∧ (↑(OfNat.ofNat 1) : Int) * (m : Int) ≤ 281474976710656) = true := decide_eq_true ⟨by omega, by omega, by omega, by show (1 : Int) * (m : Int) ≤ _; omega⟩
  rw [c0]
  simp only [Int.toNat_natCast, cond_true, errW, Option.bind_some]
  by_cases he : e = 0
  · subst he
    have t : List.take m (List.drop 0 (List.replicate m (0 : Int))) = List.replicate m 0 := by rw [List.drop_zero, List.take_of_length_le (by simp)]
    have c1 : decide (0 + m ≤ (List.replicate m (0 : Int)).length) = true := decide_eq_true (by simp)
    have c2 : decide (b.length + (List.replicate m (0 : Int)).length ≤ 1073741824) = true := decide_eq_true (by rw [List.length_replicate]; omega)
    have c3 : decide (0 + (b.length + (List.replicate m (0 : Int)).length) ≤ (b ++ List.replicate m (0 : Int)).length) = true := decide_eq_true (by rw [List.length_append]; omega)
    exact ⟨b ++ List.replicate m 0, h, 0, by simp only [beq_self_eq_true, cond_true, t, c1, c2, c3, le_all, take_all, Bool.and_true, app', zeros (b := b) (by omega) h (show m ≤ 1000 by omega), Option.bind_some], w.more (by rw [List.length_replicate]; omega)⟩
  · exact ⟨b, h, e, by simp only [beq_eq_false_iff_ne.2 he, cond_false, zerosO b h he (show m ≤ 1000 by omega), Option.bind_some], w.same⟩
/-! a hold -/
theorem holdVO (b : List Int) (h : Hs) {e : Int} (he : e ≠ 0) (n : Int) : F28.f ((b, h, e), n) = some ((), b, h, e) := by
  show F28.fP F24.f ((b, h, e), n) = _
  unfold F28.fP
  simp only [bne, beq_eq_false_iff_ne.2 he, Bool.not_false, cond_true]
theorem holdVNo (b : List Int) (h : Hs) {n : Int} (h1 : n ≠ 1) (h2 : n ≠ 2) : F28.f ((b, h, 0), n) = some ((), b, h, 1) := by
  show F28.fP F24.f ((b, h, 0), n) = _
  unfold F28.fP
  simp only [bne, beq_self_eq_true, Bool.not_true, cond_false, beq_eq_false_iff_ne.2 h1, beq_eq_false_iff_ne.2 h2, Bool.not_false, cond_true, le_all, Bool.and_true, List.take_length]
theorem appH (b : List Int) (h : Hs) (x : Int × Int) : List.take (h.length + 2 / OfNat.ofNat 2) (List.drop 0 (h ++ [x])) = h ++ [x] := by
  show List.take (h.length + 1) _ = _
  rw [List.drop_zero, List.take_of_length_le (by simp)]
theorem appHc (h : Hs) (x : Int × Int) : decide (0 + (h.length + 2 / OfNat.ofNat 2) ≤ (h ++ [x]).length) = true := decide_eq_true (by show 0 + (h.length + 1) ≤ _; rw [List.length_append]; simp)
theorem appHb {h : Hs} (hh : h.length ≤ 1000) : decide (h.length + 2 / OfNat.ofNat 2 ≤ 1073741824) = true := decide_eq_true (by show h.length + 1 ≤ _; omega)
theorem holdV1 {b : List Int} (hb : b.length ≤ 90000) {h : Hs} (hh : h.length ≤ 1000) : F28.f ((b, h, 0), 1) = some ((), b ++ [0], h ++ [((b.length : Int), 1)], 0) := by
  show F28.fP F24.f ((b, h, 0), 1) = _
  unfold F28.fP
  have l := lay1 (b := b) (by omega) (h ++ [((b.length : Int), 1)]) (n := 0) (by omega)
  rw [show (0 : Int) % 256 = 0 from rfl] at l
  simp only [bne_self_eq_false, cond_false, cond_true, appHb hh, appHc, appH b, le_all, Bool.and_true, List.take_length, l, Option.bind_some]
theorem holdV2 {b : List Int} (hb : b.length ≤ 90000) {h : Hs} (hh : h.length ≤ 1000) : F28.f ((b, h, 0), 2) = some ((), b ++ [0, 0], h ++ [((b.length : Int), 2)], 0) := by
  show F28.fP F24.f ((b, h, 0), 2) = _
  unfold F28.fP
  have l := lay2 (b := b) (by omega) (h ++ [((b.length : Int), 2)]) (n := 0) (by omega)
  rw [show (0 : Int) / 256 % 256 = 0 from rfl, show (0 : Int) % 256 = 0 from rfl] at l
  simp only [show ((2 : Int) != 1) = true from rfl, bne_self_eq_false, cond_false, cond_true, appHb hh, appHc, appH b, le_all, Bool.and_true, List.take_length, l, Option.bind_some]
theorem act6 {b : List Int} {h : Hs} {k : Nat} (w : WOk b h k) (hk : k ≤ 100) (e a0 a1 : Int) : ∃ b' h' e', F4.l6 (a0, a1) (W b h e) = some ((), W b' h' e') ∧ WOk b' h' (k + 1) := by
  have lb := w.lb; have lh := w.lh
  show ∃ b' h' e', F4.r6P F22.f F34.f F24.f F55.f F28.f F30.f F31.f F33.f F25.l1 F26.l1 F29.l1 (a0, a1) (W b h e) = _ ∧ _
  unfold F4.r6P
  dsimp only
  by_cases he : e = 0
  case neg => exact ⟨b, h, e, by simp only [failsOld b h he, Option.bind_some, cond_true, holdVO b h he, Bool.cond_self], w.same⟩
  subst he
  have grow : ∀ {l : List Int} {n : Int}, (n = 1 ∨ n = 2) → (l.length : Int) = n → WOk (b ++ l) (h ++ [((b.length : Int), n)]) (k + 1) := fun {l n} h12 hn => by
    refine ⟨by rw [List.length_append]; omega, by rw [List.length_append]; simp only [List.length_cons, List.length_nil]; omega, fun x hx => ?_⟩
    rw [List.length_append]
    rcases List.mem_append.1 hx with hx | hx
    · obtain ⟨p, q, r⟩ := w.at0 x hx
      exact ⟨p, q, by omega⟩
    · rw [List.mem_singleton] at hx
      subst hx
      exact ⟨by show 0 ≤ (b.length : Int); omega, h12, by show (b.length : Int) + n ≤ _; omega⟩
  by_cases h1 : a1 = 1
  · subst h1
    refine ⟨b ++ [0], h ++ [((b.length : Int), 1)], 0, ?_, grow (.inl rfl) rfl⟩
    have c1 : decide ((0 : Int) ≤ 1 ∧ (1 : Int) ≤ 1 ∧ (1 : Int) ≤ 1073741824 ∧ (↑(OfNat.ofNat 1) : Int) * 1 ≤ 281474976710656) = true := by decide
    have c2 : decide (0 + (1 : Int).toNat ≤ (List.replicate (1 : Int).toNat (0 : Int)).length) = true := by decide
    have t : List.take (1 : Int).toNat (List.drop 0 (List.replicate (1 : Int).toNat (0 : Int))) = [0] := rfl
    have c3 : decide (b.length + ([0] : List Int).length ≤ 1073741824) = true := decide_eq_true (by simp only [List.length_cons, List.length_nil]; omega)
    have c4 : decide (0 + (b.length + ([0] : List Int).length) ≤ (b ++ [0]).length) = true := decide_eq_true (by rw [List.length_append]; omega)
    simp only [bne_self_eq_false, cond_false, failsNo, Option.bind_some, appHb (show h.length ≤ 1000 by omega), appHc, appH b, cond_true, c1, c2, t, c3, c4, le_all, take_all, Bool.and_true, errW, beq_self_eq_true, holdV1 (b := b) (by omega) (show h.length ≤ 1000 by omega), app']
  by_cases h2 : a1 = 2
  · subst h2
    refine ⟨b ++ [0, 0], h ++ [((b.length : Int), 2)], 0, ?_, grow (.inr rfl) rfl⟩
    have c1 : decide ((0 : Int) ≤ 2 ∧ (2 : Int) ≤ 2 ∧ (2 : Int) ≤ 1073741824 ∧ (↑(OfNat.ofNat 1) : Int) * 2 ≤ 281474976710656) = true := by decide
    have c2 : decide (0 + (2 : Int).toNat ≤ (List.replicate (2 : Int).toNat (0 : Int)).length) = true := by decide
    have t : List.take (2 : Int).toNat (List.drop 0 (List.replicate (2 : Int).toNat (0 : Int))) = [0, 0] := rfl
    have c3 : decide (b.length + ([0, 0] : List Int).length ≤ 1073741824) = true := decide_eq_true (by simp only [List.length_cons, List.length_nil]; omega)
    have c4 : decide (0 + (b.length + ([0, 0] : List Int).length) ≤ (b ++ [0, 0]).length) = true := decide_eq_true (by rw [List.length_append]; omega)
    simp only [show ((2 : Int) != 1) = true from rfl, bne_self_eq_false, cond_false, failsNo, Option.bind_some, appHb (show h.length ≤ 1000 by omega), appHc, appH b, cond_true, c1, c2, t, c3, c4, le_all, take_all, Bool.and_true, errW, beq_self_eq_true, holdV2 (b := b) (by omega) (show h.length ≤ 1000 by omega), app']
  · refine ⟨b, h, 1, ?_, w.same⟩
    have n1 : (a1 != 1) = true := by simpa using h1
    have n2 : (a1 != 2) = true := by simpa using h2
    simp only [n1, n2, cond_true, failsYes, Option.bind_some, show ((1 : Int) != 0) = true from rfl, holdVNo b h h1 h2]
theorem act8 {b : List Int} {h : Hs} {k : Nat} (w : WOk b h k) (hk : k ≤ 100) (e a0 a1 : Int) : ∃ b' h' e', F4.l8 (a0, a1) (W b h e) = some ((), W b' h' e') ∧ WOk b' h' (k + 1) :=
  act6 w hk e 0 (IntKind.i64.wrap (a0 - 7))
end Go.Proofs.Ytkleakkhbfdipaa.PF

/- Chapter 1: a hold filled, the writers' ends, and the law. -/
namespace Go.Proofs.Ytkleakkhbfdipaa.PG
open Go Go.Proofs Go.Proofs.Ytkleakkhbfdipaa.Sx Go.Proofs.Ytkleakkhbfdipaa.PA Go.Proofs.Ytkleakkhbfdipaa.PE Go.Proofs.Ytkleakkhbfdipaa.PF
set_option linter.unusedSimpArgs false
set_option linter.unusedVariables false
section
variable (h : Hs) (x : Int × Int)
theorem sl : ((h ++ [x]).length : Int) = (h.length : Int) + 1 := by rw [List.length_append]; rfl
theorem lst (hh : h.length ≤ 1000) : IntKind.i64.wrap ((((h ++ [x]).length : Nat) : Int) - 1) = (h.length : Int) := by
  rw [sl, wrap64_id (by omega)]
  omega
theorem lg : (h ++ [x]).getD (0 + (h.length : Int).toNat) (0, 0) = x := by simp
theorem l1 : decide (0 ≤ (h.length : Int) ∧ (h.length : Int) < (((h ++ [x]).length : Nat) : Int) ∧ 0 < (h ++ [x]).length) = true := decide_eq_true (by
  have := sl h x
  refine ⟨by omega, by omega, by omega⟩)
theorem l2 : decide (0 + (h.length : Int).toNat < (h ++ [x]).length) = true := decide_eq_true (by have := sl h x; omega)
theorem l3 : decide (0 ≤ (h.length : Int) ∧ (h.length : Int) ≤ (((h ++ [x]).length : Nat) : Int) ∧ 0 + (h ++ [x]).length ≤ (h ++ [x]).length) = true := decide_eq_true (by
  have := sl h x
  refine ⟨by omega, by omega, by omega⟩)
theorem l4 : decide (0 + (h.length : Int).toNat ≤ (h ++ [x]).length) = true := decide_eq_true (by have := sl h x; omega)
theorem l5 : List.take (h.length : Int).toNat (h ++ [x]) = h := by simp
theorem l5' : List.take (h.length : Int).toNat (List.drop 0 (h ++ [x])) = h := by simp
theorem l6 : ((((h ++ [x]).length : Nat) : Int) == 0) = false := by
  rw [beq_eq_false_iff_ne, sl]
  omega
end
theorem sets {b : List Int} {i : Nat} {c : Int} : List.take b.length (List.drop 0 (b.set i c)) = b.set i c := by
  rw [List.drop_zero, List.take_of_length_le (by rw [List.length_set]; exact Nat.le_refl _)]
theorem setsC {b : List Int} {i : Nat} {c : Int} : decide (0 + b.length ≤ (b.set i c).length) = true := decide_eq_true (by rw [List.length_set]; omega)
/-- One number set into the bytes. -/
theorem fillStep {b : List Int} (hb : b.length ≤ 100000) (h : Hs) {a wd n k : Int} (ha : 0 ≤ a) (hk : 0 ≤ k ∧ k ≤ 10) (hl : a + k < b.length) :
    F29.r1 (a, wd) ((b, h, 0, true), n, k) = some (.inl ((b.set (a + k).toNat (IntKind.u8.wrap n), h, 0, true), n.fdiv 256, k - 1)) := by
  show F29.r1P F34.f F55.f (a, wd) ((b, h, 0, true), n, k) = _
  unfold F29.r1P
  dsimp only
  have e1 : IntKind.i64.wrap (a + k) = a + k := wrap64_id (by omega)
  have e2 : IntKind.i64.wrap (k - 1) = k - 1 := wrap64_id (by omega)
  rw [e1, e2]
  have c1 : decide (k ≥ 0) = true := decide_eq_true hk.1
  have c2 : decide (0 ≤ a + k ∧ a + k < (b.length : Int) ∧ 0 < b.length) = true := decide_eq_true (by omega)
  have c3 : decide (0 + (a + k).toNat < b.length) = true := decide_eq_true (by omega)
  rw [c1, c2, c3]
  simp only [cond_true, setsC, sets, le_all, Bool.and_true, List.take_length]
  simp only [Nat.zero_add]
theorem fillEnd (b : List Int) (h : Hs) (e : Int) {a wd n k : Int} (hk : k < 0) : F29.r1 (a, wd) ((b, h, e, true), n, k) = some (.inr ((), b, h, e, true)) := by
  show F29.r1P F34.f F55.f (a, wd) ((b, h, e, true), n, k) = _
  unfold F29.r1P
  dsimp only
  rw [show decide (k ≥ 0) = false from decide_eq_false (by omega)]
  rfl
theorem fillVO (b : List Int) (h : Hs) {e : Int} (he : e ≠ 0) : F30.f (b, h, e) = some ((), b, h, e) := by
  show F30.fP (b, h, e) = _
  unfold F30.fP
  simp only [bne, beq_eq_false_iff_ne.2 he, Bool.not_false, cond_true]
theorem fillVNo (b : List Int) : F30.f (b, [], 0) = some ((), b, [], 26) := by
  show F30.fP (b, [], 0) = _
  unfold F30.fP
  simp only [bne_self_eq_false, cond_false, show ((([] : Hs).length : Int) == 0) = true from rfl, cond_true, le_all, Bool.and_true, List.take_length]
theorem fillV1 {b : List Int} (hb : b.length ≤ 60000) {h : Hs} (hh : h.length ≤ 1000) {a : Int} (ha : 0 ≤ a) (hl : a + 1 ≤ b.length) :
    F30.f (b, h ++ [(a, 1)], 0) = some ((), if (b.length : Int) - a - 1 > 255 then (b, h ++ [(a, 1)], 3) else (b.set a.toNat (IntKind.u8.wrap ((b.length : Int) - a - 1)), h, 0)) := by
  show F30.fP (b, h ++ [(a, 1)], 0) = _
  unfold F30.fP
  dsimp only
  have e1 : IntKind.i64.wrap ((b.length : Int) - a) = (b.length : Int) - a := wrap64_id (by omega)
  have e2 : IntKind.i64.wrap ((b.length : Int) - a - 1) = (b.length : Int) - a - 1 := wrap64_id (by omega)
  have c2 : decide (0 ≤ a ∧ a < (b.length : Int) ∧ 0 < b.length) = true := decide_eq_true (by omega)
  have c3 : decide (0 + Int.toNat a < b.length) = true := decide_eq_true (by omega)
  simp only [bne_self_eq_false, cond_false, l6, lst h _ hh, l1, l2, lg, cond_true, e1, e2, beq_self_eq_true, Option.getD_some, l3, l4, l5, le_all, Bool.and_true, List.take_length]
  by_cases hn : (b.length : Int) - a - 1 > 255
  · rw [if_pos hn, decide_eq_true hn]
    rfl
  · rw [if_neg hn, decide_eq_false hn, decide_eq_false (show ¬ (b.length : Int) - a - 1 > 65535 by omega)]
    simp only [cond_false, c2, c3, cond_true, setsC, sets]
    simp only [Nat.zero_add]
theorem fillV2 {b : List Int} (hb : b.length ≤ 60000) {h : Hs} (hh : h.length ≤ 1000) {a : Int} (ha : 0 ≤ a) (hl : a + 2 ≤ b.length) :
    F30.f (b, h ++ [(a, 2)], 0) = some ((), (b.set a.toNat (((b.length : Int) - a - 2) / 256)).set (a + 1).toNat (((b.length : Int) - a - 2) % 256), h, 0) := by
  show F30.fP (b, h ++ [(a, 2)], 0) = _
  unfold F30.fP
  dsimp only
  have e1 : IntKind.i64.wrap ((b.length : Int) - a) = (b.length : Int) - a := wrap64_id (by omega)
  have e2 : IntKind.i64.wrap ((b.length : Int) - a - 2) = (b.length : Int) - a - 2 := wrap64_id (by omega)
  have e3 : IntKind.i64.wrap (a + 1) = a + 1 := wrap64_id (by omega)
  have e4 : IntKind.u8.wrap (IntKind.i64.wrap (((b.length : Int) - a - 2).tdiv 256)) = ((b.length : Int) - a - 2) / 256 := by
    rw [IntWalk.i64_quo _ 256 ⟨by omega, by omega, by omega⟩, IntWalk.u8_in _ (by omega)]
  have e5 : IntKind.u8.wrap (((b.length : Int) - a - 2).tmod 256) = ((b.length : Int) - a - 2) % 256 := by
    rw [IntWalk.rem_in _ _ (by omega), IntWalk.u8_in _ (by omega)]
  have c2 : decide (0 ≤ a ∧ a < (b.length : Int) ∧ 0 < b.length) = true := decide_eq_true (by omega)
  have c3 : decide (0 + Int.toNat a < b.length) = true := decide_eq_true (by omega)
  have c4 : decide ((b.length : Int) - a - 2 > 65535) = false := decide_eq_false (by omega)
  have c5 : ∀ c : Int, decide (0 ≤ a + 1 ∧ a + 1 < (b.length : Int) ∧ 0 < (b.set (0 + Int.toNat a) c).length) = true := fun c => decide_eq_true (by rw [List.length_set]; omega)
  have c6 : ∀ c : Int, decide (0 + (a + 1).toNat < (b.set (0 + Int.toNat a) c).length) = true := fun c => decide_eq_true (by rw [List.length_set]; omega)
  have c7 : ∀ (i j : Nat) (c d : Int), decide (0 + b.length ≤ ((b.set i c).set j d).length) = true := fun i j c d => decide_eq_true (by rw [List.length_set, List.length_set]; omega)
  have c8 : ∀ (i j : Nat) (c d : Int), List.take b.length (List.drop 0 ((b.set i c).set j d)) = (b.set i c).set j d := fun i j c d => by
    rw [List.drop_zero, List.take_of_length_le (by rw [List.length_set, List.length_set]; exact Nat.le_refl _)]
  simp only [bne_self_eq_false, cond_false, l6, lst h _ hh, l1, l2, lg, cond_true, e1, e2, e3, e4, e5, beq_self_eq_true, show ((2 : Int) == 1) = false from rfl, Option.getD_some, l3, l4, l5, le_all, Bool.and_true, List.take_length, c2, c3, c4, c5, c6, c7, c8]
  simp only [Nat.zero_add]
theorem act7 {b : List Int} {h : Hs} {k : Nat} (w : WOk b h k) (hk : k ≤ 100) (e : Int) : ∃ b' h' e', F4.l7 () (W b h e) = some ((), W b' h' e') ∧ WOk b' h' (k + 1) := by
  have lb := w.lb; have lh := w.lh
  show ∃ b' h' e', F4.r7P F22.f F34.f F24.f F55.f F28.f F30.f F31.f F33.f F25.l1 F26.l1 F29.l1 () (W b h e) = _ ∧ _
  unfold F4.r7P
  dsimp only
  by_cases he : e = 0
  case neg =>
    refine ⟨b, h, e, ?_, w.same⟩
    simp only [errW, Option.bind_some, beq_eq_false_iff_ne.2 he, cond_false, failsOld b h he, cond_true, fillVO b h he]
  subst he
  rcases List.eq_nil_or_concat h with rfl | ⟨g, x, rfl⟩
  · refine ⟨b, [], 26, ?_, w.same⟩
    simp only [errW, Option.bind_some, beq_self_eq_true, cond_true, le_all, take_all, Bool.and_true, show ((([] : Hs).length : Int) == 0) = true from rfl, failsYes, show ((26 : Int) != 0) = true from rfl, fillVNo]
  obtain ⟨a, wd⟩ := x
  have hg : g.length ≤ 1000 := by have := sl g (a, wd); rw [List.concat_eq_append] at lh; omega
  rw [List.concat_eq_append] at *
  obtain ⟨ha, h12, hl⟩ := w.at0 (a, wd) (List.mem_append.2 (.inr (List.mem_singleton.2 rfl)))
  have less : ∀ {c : List Int}, c.length = b.length → WOk c g (k + 1) := fun {c} hc => by
    have := sl g (a, wd)
    exact ⟨by omega, by omega, fun y hy => by rw [hc]; exact w.at0 y (List.mem_append.2 (.inl hy))⟩
  simp only at ha h12 hl
  have e1 : IntKind.i64.wrap ((b.length : Int) - a) = (b.length : Int) - a := wrap64_id (by omega)
  rcases h12 with rfl | rfl
  · have e2 : IntKind.i64.wrap ((b.length : Int) - a - 1) = (b.length : Int) - a - 1 := wrap64_id (by omega)
    have p : IntKind.i64.wrap ((1 : Int) * (2 : Int) ^ min (IntKind.i64.wrap ((8 : Int) * 1)).toNat 64) = 256 := by decide
    have p0 : decide ((0 : Int) ≤ IntKind.i64.wrap ((8 : Int) * 1)) = true := by decide
    have p1 : IntKind.i64.wrap ((1 : Int) - 1) = 0 := by decide
    by_cases hn : (b.length : Int) - a - 1 > 255
    · refine ⟨b, g ++ [(a, 1)], 3, ?_, w.same⟩
      have c : decide ((b.length : Int) - a - 1 ≥ 256) = true := decide_eq_true (by omega)
      simp only [errW, Option.bind_some, beq_self_eq_true, cond_true, cond_false, le_all, take_all, Bool.and_true, l6, failsNo, bne_self_eq_false, lst g _ hg, l1, l2, lg, e1, e2, p, p0, c, failsYes, show ((3 : Int) != 0) = true from rfl,
        fillV1 (b := b) (by omega) hg ha hl, if_pos hn]
    · refine ⟨b.set a.toNat (IntKind.u8.wrap ((b.length : Int) - a - 1)), g, 0, ?_, less (List.length_set ..)⟩
      have c : decide ((b.length : Int) - a - 1 ≥ 256) = false := decide_eq_false (by omega)
      have lp : F29.l1 (a, 1) ((b, g ++ [(a, 1)], 0, true), (b.length : Int) - a - 1, 0) = some ((), b.set a.toNat (IntKind.u8.wrap ((b.length : Int) - a - 1)), g ++ [(a, 1)], 0, true) := by
        have s := fillStep (b := b) (by omega) (g ++ [(a, 1)]) (a := a) (wd := 1) (n := (b.length : Int) - a - 1) (k := 0) ha (by decide) (by omega)
        rw [Int.add_zero] at s
        exact (iterO_step s).trans (iterO_done (fillEnd _ _ _ (by decide)))
      simp only [errW, Option.bind_some, beq_self_eq_true, cond_true, cond_false, le_all, take_all, Bool.and_true, l6, failsNo, bne_self_eq_false, lst g _ hg, l1, l2, lg, e1, e2, p, p0, p1, c, lp, Option.getD_some, l3, l4, l5',
        fillV1 (b := b) (by omega) hg ha hl, if_neg hn]
  · have e2 : IntKind.i64.wrap ((b.length : Int) - a - 2) = (b.length : Int) - a - 2 := wrap64_id (by omega)
    have p : IntKind.i64.wrap ((1 : Int) * (2 : Int) ^ min (IntKind.i64.wrap ((8 : Int) * 2)).toNat 64) = 65536 := by decide
    have p0 : decide ((0 : Int) ≤ IntKind.i64.wrap ((8 : Int) * 2)) = true := by decide
    have p1 : IntKind.i64.wrap ((2 : Int) - 1) = 1 := by decide
    refine ⟨(b.set a.toNat (((b.length : Int) - a - 2) / 256)).set (a + 1).toNat (((b.length : Int) - a - 2) % 256), g, 0, ?_, less (by rw [List.length_set, List.length_set])⟩
    have c : decide ((b.length : Int) - a - 2 ≥ 65536) = false := decide_eq_false (by omega)
    have lp : F29.l1 (a, 2) ((b, g ++ [(a, 2)], 0, true), (b.length : Int) - a - 2, 1) = some ((), (b.set a.toNat (((b.length : Int) - a - 2) / 256)).set (a + 1).toNat (((b.length : Int) - a - 2) % 256), g ++ [(a, 2)], 0, true) := by
      have s := fillStep (b := b) (by omega) (g ++ [(a, 2)]) (a := a) (wd := 2) (n := (b.length : Int) - a - 2) (k := 1) ha (by decide) (by omega)
      have s2 := fillStep (b := b.set (a + 1).toNat (IntKind.u8.wrap ((b.length : Int) - a - 2))) (by rw [List.length_set]; omega) (g ++ [(a, 2)]) (a := a) (wd := 2) (n := Int.fdiv ((b.length : Int) - a - 2) 256) (k := 1 - 1) ha (by decide) (by rw [List.length_set]; omega)
      refine (iterO_step s).trans ((iterO_step s2).trans ((iterO_done (fillEnd _ _ _ (by decide))).trans ?_))
      rw [show a + (1 - 1) = a by omega, Int.fdiv_eq_ediv_of_nonneg _ (by omega), IntWalk.u8_in (((b.length : Int) - a - 2) / 256) (by omega), IntKind.wrap_u8, List.set_comm _ _ (show (a + 1).toNat ≠ a.toNat by omega)]
    have r : ((b.set a.toNat (((b.length : Int) - a - 2) / 256)).set (a + 1).toNat (((b.length : Int) - a - 2) % 256)).length = b.length := by rw [List.length_set, List.length_set]
    simp only [errW, Option.bind_some, beq_self_eq_true, cond_true, cond_false, le_all, take_all, Bool.and_true, l6, failsNo, bne_self_eq_false, lst g _ hg, l1, l2, lg, e1, e2, p, p0, p1, c, lp, Option.getD_some, l3, l4, l5',
      fillV2 (b := b) (by omega) hg ha hl]
theorem noBytes : (ByteArray.mk (Array.mk (List.map (fun n : Int => UInt8.ofNat n.toNat) ([] : List Int)))).toList = [] := by
  show (ByteArray.mk #[]).toList = []
  unfold ByteArray.toList ByteArray.toList.loop
  rfl
theorem ends {b : List Int} (hb : b.length ≤ 100000) (h : Hs) (e : Int) : F4.l10 () (W b h e) = some ((0, false), W b h e) := by
  show F4.r10P F22.f F34.f F24.f F55.f F28.f F30.f F31.f F33.f F25.l1 F26.l1 F29.l1 () (W b h e) = _
  unfold F4.r10P
  dsimp only
  have c0 : decide (0 + ([] : List Int).length ≤ ([] : List Int).length) = true := rfl
  by_cases he : e = 0
  case neg =>
    have n : (e != 0) = true := by simpa using he
    simp only [doneOld b h he, Option.bind_some, n, cond_true, le_all, take_all, List.take_length, Bool.and_true, lenW, errW, bne_self_eq_false, cond_false, noBytes, beq_self_eq_true, Bool.not_true]
  subst he
  rcases List.eq_nil_or_concat h with rfl | ⟨g, x, rfl⟩
  · have c : decide (((([] : Hs).length : Nat) : Int) > 0) = false := rfl
    simp only [doneOk (b := b) (by omega), Option.bind_some, c, cond_true, le_all, take_all, List.take_length, Bool.and_true, lenW, errW, bne_self_eq_false, cond_false, beq_self_eq_true, Bool.not_true]
  · rw [List.concat_eq_append]
    have c : decide ((((g ++ [x]).length : Nat) : Int) > 0) = true := decide_eq_true (by have := sl g x; omega)
    simp only [doneHeld b g x, Option.bind_some, c, cond_true, le_all, take_all, List.take_length, Bool.and_true, lenW, errW, bne_self_eq_false, cond_false, noBytes, beq_self_eq_true, Bool.not_true]
theorem act {b : List Int} {h : Hs} {k : Nat} (w : WOk b h k) (hk : k ≤ 100) (e a0 a1 : Int) : ∃ b' h' e', F4.l9 ((a0, a1), a0) (W b h e) = some ((), W b' h' e') ∧ WOk b' h' (k + 1) := by
  show ∃ b' h' e', F4.r9P F22.f F34.f F24.f F55.f F28.f F30.f F31.f F33.f F25.l1 F26.l1 F29.l1 F4.l1 F4.l2 F4.l3 F4.l5 F4.l6 F4.l7 F4.l8 ((a0, a1), a0) (W b h e) = _ ∧ _
  unfold F4.r9P
  dsimp only
  have fin : ∀ {o : Option (Unit × PF.St)}, (∃ b' h' e', o = some ((), W b' h' e') ∧ WOk b' h' (k + 1)) → ∃ b' h' e', (o.bind fun r0 => some (PUnit.unit, r0.snd.fst, r0.snd.snd)) = some ((), W b' h' e') ∧ WOk b' h' (k + 1) := fun ⟨b', h', e', q, w'⟩ => ⟨b', h', e', by rw [q]; rfl, w'⟩
  cases k0 : a0 == 0 with
  | true => exact fin (act1 w hk e a0 a1)
  | false =>
  cases k1 : a0 == 1 with
  | true => exact fin (act2 w hk e a0 a1)
  | false =>
  cases k2 : a0 == 2 with
  | true => exact fin (act3 w hk e a0 a1)
  | false =>
  cases k3 : a0 == 3 with
  | true => exact fin (act5 w hk e a0 a1)
  | false =>
  cases k4 : a0 == 4 with
  | true => exact fin (act5 w hk e a0 a1)
  | false =>
  cases k5 : a0 == 5 with
  | true => exact fin (act6 w hk e a0 a1)
  | false =>
  cases k6 : a0 == 6 with
  | true => exact fin (act7 w hk e)
  | false =>
  cases k7 : a0 == 7 with
  | true => exact fin (act7 w hk e)
  | false =>
  cases k8 : a0 == 8 with
  | true => exact fin (act8 w hk e a0 a1)
  | false =>
  cases k9 : a0 == 9 with
  | true => exact fin (act8 w hk e a0 a1)
  | false => exact ⟨b, h, e, rfl, w.same⟩
theorem rounds (l : List (Int × Int)) (hl : l.length ≤ maxLen) :
    ∃ r, F4.l11 (l, (l.length : Int)) (([], [], 0, true), ([], [], 0), 0) = some r ∧ r.1.1 = 0 := by
  have hmx : maxLen ≤ 9223372036854775807 := by decide
  refine iterO_inv (f := F4.r11 (l, (l.length : Int))) (fun z => ∃ b h e, ∃ i : Nat, z = ((b, h, e, true), (b, h, e), (i : Int)) ∧ WOk b h i ∧ i ≤ 60 ∧ i ≤ l.length) (fun z => 60 - z.2.2.toNat) (fun r => r.1.1 = 0) ?_ _
    ⟨[], [], 0, 0, rfl, ⟨by simp, by simp, fun x hx => by simp at hx⟩, by omega, by omega⟩
  rintro z ⟨b, h, e, i, rfl, w, i6, il⟩
  have hf : F4.r11 (l, (l.length : Int)) ((b, h, e, true), (b, h, e), (i : Int)) = F4.r11P F22.f F34.f F24.f F55.f F28.f F30.f F31.f F33.f F25.l1 F26.l1 F29.l1 F4.l9 F4.l10 (l, (l.length : Int)) ((b, h, e, true), (b, h, e), (i : Int)) := rfl
  rw [hf]
  unfold F4.r11P
  dsimp only
  by_cases c1 : (i : Int) < ((l.length : Nat) : Int)
  case neg => exact .inr ⟨_, by rw [decide_eq_false c1]; rfl, rfl⟩
  have c2 : decide (0 ≤ (i : Int) ∧ (i : Int) < ((l.length : Nat) : Int) ∧ 0 < l.length) = true := decide_eq_true (by omega)
  have c3 : decide (0 + (i : Int).toNat < l.length) = true := decide_eq_true (by omega)
  rw [decide_eq_true c1, c2, c3]
  simp only [cond_true]
  by_cases c4 : (i : Int) = 60
  · exact .inr ⟨_, by rw [show ((i : Int) == 60) = true by simpa using c4]; rfl, rfl⟩
  rw [beq_eq_false_iff_ne.2 c4]
  simp only [cond_false]
  generalize (l.getD (0 + (i : Int).toNat) (0, 0)).fst = a0
  generalize (l.getD (0 + (i : Int).toNat) (0, 0)).snd = a1
  obtain ⟨b', h', e', q, w'⟩ := act w (by omega) e a0 a1
  have lb := w'.lb
  have w1 : IntKind.i64.wrap ((i : Int) + 1) = ((i + 1 : Nat) : Int) := by rw [wrap64_id (by omega)]; omega
  left
  refine ⟨((b', h', e', true), (b', h', e'), ((i + 1 : Nat) : Int)), ?_, ⟨b', h', e', i + 1, rfl, w', by omega, by omega⟩, by show 60 - ((i + 1 : Nat) : Int).toNat < 60 - (i : Int).toNat; omega⟩
  rw [q, Option.bind_some]
  dsimp only
  rw [ends (b := b') (by omega) h' e', Option.bind_some, w1]
  rfl
theorem scrollLays (d : Den F4.i) (hd : wfD F4.i d) : ∃ q, F4.f d = some (true, q) := by
  have hl : List.length (α := Int × Int) d ≤ maxLen := hd.1.1
  refine ⟨(), ?_⟩
  show F4.fP F22.f F34.f F24.f F55.f F28.f F30.f F31.f F33.f F25.l1 F26.l1 F29.l1 F4.l11 d = _
  unfold F4.fP
  obtain ⟨r, e1, e2⟩ := rounds d hl
  have e0 : F22.f () = some (([], [], 0, true), ()) := rfl
  simp only [e0, Option.bind_some, le_all, Bool.and_true, cond_true, List.take_length, e1, e2, decide_true]
end Go.Proofs.Ytkleakkhbfdipaa.PG
