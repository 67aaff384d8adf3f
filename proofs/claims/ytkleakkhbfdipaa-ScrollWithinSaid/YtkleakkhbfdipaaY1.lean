/- Chapter 1: a reader's calls, in plain lists and numbers: the program's. -/
import Derived.Test.YtkleakkhbfdipaaZP
import Derived.Test.YtkleakkhbfdipaaX1
import Derived.IntWalk
import Derived.Test.YtkleakkhbfdipaaZK
namespace Go.Proofs.Ytkleakkhbfdipaa.PA
open Go Go.Proofs Go.Proofs.Ytkleakkhbfdipaa.Sx
set_option linter.unusedSimpArgs false
set_option linter.unusedVariables false
theorem take_all {α : Type} (l : List α) : List.take l.length (List.drop 0 l) = l := by simp
theorem le_all (n : Nat) : decide (0 + n ≤ n) = true := decide_eq_true (by omega)
theorem len_ne (m : Int) (o : List Int) : ((((m :: o).length : Nat) : Int) == 0) = false := by
  rw [beq_eq_false_iff_ne, List.length_cons]
  omega
/-- The end of the innermost block; m the end of all. -/
def top (m : Int) (o : List Int) : Int := (m :: o).getD o.length 0
abbrev RS := List Int × Int × List Int × Int
/-- A reader: byteL, place, ends of open blocks. -/
structure RdOk (b : List Int) (a : Int) (o : List Int) : Prop where
  hb : b.length ≤ 1000000
  ho : o.length ≤ 1000000
  h0 : 0 ≤ a
  h1 : a ≤ top b.length o
  hm : top b.length o ≤ b.length
  hc : ∀ i, i < o.length → ((b.length : Int) :: o).getD (i + 1) 0 ≤ ((b.length : Int) :: o).getD i 0
theorem errP (b : List Int) (a m : Int) (o : List Int) (e : Int) : F10.f (b, a, m :: o, e) = some (e, b, a, m :: o, e) := by
  show F10.fP (b, a, m :: o, e) = _
  unfold F10.fP
  dsimp only
  rw [len_ne]
  simp only [le_all, Bool.and_true, cond_true, cond_false, List.take_length]
/-- An error noted. -/
def nt (e k : Int) : Int := if e = 0 then k else e
theorem failP (b : List Int) (a m : Int) (o : List Int) (e k : Int) : F18.f ((b, a, m :: o, e), k) = some ((), b, a, m :: o, nt e k) := by
  show F18.fP F10.f ((b, a, m :: o, e), k) = _
  unfold F18.fP nt
  simp only [errP, Option.bind_some, le_all, Bool.and_true, cond_true, take_all]
  by_cases h : e = 0
  · subst h; rfl
  · rw [if_neg h, beq_eq_false_iff_ne.2 h]; rfl
theorem last_idx (m : Int) {o : List Int} (ho : o.length ≤ 1000000) : (0 + (IntKind.i64.wrap ((((m :: o).length : Nat) : Int) - 1)).toNat) = o.length := by
  rw [List.length_cons, wrap64_id (by omega)]
  omega
/-- How many are left; behind an error none. -/
def lf (a t e : Int) : Int := if e = 0 then t - a else 0
section
variable {b : List Int} {a : Int} {o : List Int} (h : RdOk b a o)
include h
theorem leftP (e : Int) : F19.f (b, a, (b.length : Int) :: o, e) = some (lf a (top b.length o) e, b, a, (b.length : Int) :: o, e) := by
  have h0 := h.h0; have h1 := h.h1; have hm := h.hm; have hb := h.hb; have ho := h.ho
  show F19.fP F10.f (b, a, (b.length : Int) :: o, e) = _
  unfold F19.fP lf
  simp only [errP, Option.bind_some, last_idx _ h.ho, take_all, le_all, Bool.and_true]
  by_cases he : e = 0
  · have w : IntKind.i64.wrap (((((b.length : Int) :: o).length : Nat) : Int) - 1) = o.length := by rw [List.length_cons, wrap64_id (by omega)]; omega
    rw [if_pos he, w]
    have c1 : (e != 0) = false := by simpa using he
    have c2 : decide (0 ≤ (o.length : Int) ∧ (o.length : Int) < ((((b.length : Int) :: o).length : Nat) : Int) ∧ 0 < ((b.length : Int) :: o).length) = true := decide_eq_true (by rw [List.length_cons]; omega)
    have c3 : decide (o.length < ((b.length : Int) :: o).length) = true := decide_eq_true (by rw [List.length_cons]; omega)
    simp only [c1, c2, c3, cond_false, cond_true]
    rw [wrap64_id (show -9223372036854775808 ≤ ((b.length : Int) :: o).getD o.length 0 - a ∧ ((b.length : Int) :: o).getD o.length 0 - a ≤ 9223372036854775807 by unfold top at h1 hm; omega)]
    rfl
  · rw [if_neg he]
    have c1 : (e != 0) = true := by simpa using he
    rw [c1]; rfl
/-- What is noted of a take of n. -/
def er (a t e n : Int) : Int := if e = 0 then (if n < 0 ∨ t - a < n then 4 else 0) else e
end
theorem er_zero {a t e n : Int} (hz : er a t e n = 0) : e = 0 ∧ 0 ≤ n ∧ n ≤ t - a := by
  unfold er at hz
  split at hz
  · rename_i he
    split at hz
    · cases hz
    · rename_i hn
      exact ⟨he, by omega, by omega⟩
  · rename_i he
    exact absurd hz he
section
variable {b : List Int} {a : Int} {o : List Int} (h : RdOk b a o)
include h
theorem hasP (e n : Int) : F53.f ((b, a, (b.length : Int) :: o, e), n) = some (er a (top b.length o) e n == 0, b, a, (b.length : Int) :: o, er a (top b.length o) e n) := by
  have h1 := h.h1
  show F53.fP F19.f F18.f F10.f ((b, a, (b.length : Int) :: o, e), n) = _
  unfold F53.fP
  simp only [leftP h, failP, errP, Option.bind_some]
  by_cases hn : n < 0
  · rw [decide_eq_true hn]
    have : nt e 4 = er a (top b.length o) e n := by
      unfold nt er
      split
      · rw [if_pos (.inl hn)]
      · rfl
    rw [this]; rfl
  · rw [decide_eq_false hn]
    simp only [cond_false]
    by_cases hl : n > lf a (top b.length o) e
    · rw [decide_eq_true hl]
      have : nt e 4 = er a (top b.length o) e n := by
        unfold lf at hl
        unfold nt er
        split
        · rename_i he
          rw [if_pos he] at hl
          rw [if_pos (.inr hl)]
        · rfl
      rw [this]; rfl
    · rw [decide_eq_false hl]
      have : e = er a (top b.length o) e n := by
        unfold lf at hl
        unfold er
        split
        · rename_i he
          rw [if_pos he] at hl
          rw [if_neg (by omega)]; exact he
        · rfl
      rw [← this]; rfl
end
theorem cloneF (s : List Int) (hs : s.length ≤ 1000000) : F51.f s = some (s, ()) := by
  show (if 0 < s.length then F51.fP s else some ([], ())) = _
  by_cases h0 : 0 < s.length
  · rw [if_pos h0]
    unfold F51.fP
    have c1 : decide (0 < s.length) = true := decide_eq_true h0
    have c2 : decide (0 + (List.take s.length s).length ≤ 1073741824) = true := decide_eq_true (by rw [List.take_length]; omega)
    have c3 : decide (0 + (0 + (List.take s.length s).length) ≤ ([] ++ List.take s.length s).length) = true := decide_eq_true (by rw [List.take_length]; simp)
    rw [c1, c2, c3, le_all]
    simp
  · rw [if_neg h0]
    have : s = [] := List.length_eq_zero_iff.1 (by omega)
    rw [this]
/-- n byteL from place a on. -/
def cut (b : List Int) (a n : Int) : List Int := (b.drop a.toNat).take n.toNat
section
variable {b : List Int} {a : Int} {o : List Int} (h : RdOk b a o)
include h
theorem takeOk {e n : Int} (hz : er a (top b.length o) e n = 0) : F13.f ((b, a, (b.length : Int) :: o, e), n) = some (cut b a n, b, a + n, (b.length : Int) :: o, e) := by
  obtain ⟨he, hn0, hn1⟩ := er_zero hz
  have h0 := h.h0; have h1 := h.h1; have hm := h.hm; have hb := h.hb
  show F13.fP F53.f F51.f ((b, a, (b.length : Int) :: o, e), n) = _
  unfold F13.fP
  have w1 : IntKind.i64.wrap (a + n) = a + n := wrap64_id (by omega)
  have w2 : IntKind.i64.wrap (a + n - n) = a := by rw [show a + n - n = a by omega]; exact wrap64_id (by omega)
  have c1 : decide (0 ≤ a ∧ a ≤ a + n ∧ a + n ≤ (b.length : Int) ∧ 0 + b.length ≤ b.length) = true := decide_eq_true (by omega)
  simp only [hasP h, Option.bind_some, hz, beq_self_eq_true, Bool.not_true, cond_false, w1, w2, Option.getD_some, c1, cond_true]
  by_cases hl : a = b.length
  · have n0 : n = 0 := by omega
    rw [decide_eq_true hl]
    have c2 : decide (0 ≤ 0 + b.length ∧ 0 + b.length ≤ b.length) = true := decide_eq_true (by omega)
    simp only [cond_true, c2, cloneF [] (by simp), Option.bind_some, le_all, Bool.and_true, take_all]
    unfold cut
    rw [n0, he]
    rfl
  · rw [decide_eq_false hl]
    have c2 : decide (0 + a.toNat + (a + n - a).toNat ≤ b.length) = true := decide_eq_true (by omega)
    have hlen : (List.take (a + n - a).toNat (List.drop (0 + a.toNat) b)).length ≤ 1000000 := by rw [List.length_take, List.length_drop]; omega
    simp only [cond_false, c2, Bool.and_true, cond_true, cloneF _ hlen, Option.bind_some, le_all, take_all]
    unfold cut
    rw [show a + n - a = n by omega, Nat.zero_add, he]
theorem takeNo {e n : Int} (hz : er a (top b.length o) e n ≠ 0) : F13.f ((b, a, (b.length : Int) :: o, e), n) = some ([], b, a, (b.length : Int) :: o, er a (top b.length o) e n) := by
  show F13.fP F53.f F51.f ((b, a, (b.length : Int) :: o, e), n) = _
  unfold F13.fP
  simp only [hasP h, Option.bind_some]
  rw [beq_eq_false_iff_ne.2 hz]
  rfl
end
theorem cut_len (b : List Int) (a n : Int) : (cut b a n).length ≤ b.length := by unfold cut; rw [List.length_take, List.length_drop]; omega
section
variable {b : List Int} {a : Int} {o : List Int} (h : RdOk b a o)
include h
theorem restOk {e : Int} (he : e = 0) : F14.f (b, a, (b.length : Int) :: o, e) = some (cut b a (top b.length o - a), b, top b.length o, (b.length : Int) :: o, e) := by
  have h1 := h.h1
  show F14.fP F19.f F13.f (b, a, (b.length : Int) :: o, e) = _
  unfold F14.fP
  have hz : er a (top b.length o) e (top b.length o - a) = 0 := by unfold er; rw [if_pos he, if_neg (by omega)]
  have hl : lf a (top b.length o) e = top b.length o - a := if_pos he
  simp only [leftP h, hl, takeOk h hz, Option.bind_some, le_all, Bool.and_true, cond_true, take_all]
  rw [show a + (top b.length o - a) = top b.length o by omega]
theorem restNo {e : Int} (he : e ≠ 0) : F14.f (b, a, (b.length : Int) :: o, e) = some ([], b, a, (b.length : Int) :: o, e) := by
  show F14.fP F19.f F13.f (b, a, (b.length : Int) :: o, e) = _
  unfold F14.fP
  have hz : er a (top b.length o) e (lf a (top b.length o) e) = e := if_neg he
  have hn := takeNo h (e := e) (n := lf a (top b.length o) e) (by rw [hz]; exact he)
  rw [hz] at hn
  simp only [leftP h, hn, Option.bind_some]
  rfl
end
/-! Numbers. -/
def val (l : List Int) : Int := l.foldl (fun n c => 256 * n + c) 0
theorem val_snoc (l : List Int) (c : Int) : val (l ++ [c]) = 256 * val l + c := by unfold val; rw [List.foldl_append]; rfl
def byteL (l : List Int) : Prop := ∀ c ∈ l, 0 ≤ c ∧ c ≤ 255
theorem val_bound : ∀ (k : Nat) (l : List Int), byteL l → l.length = k → 0 ≤ val l ∧ val l < 256 ^ k
  | 0, l, _, hl => by
    have : l = [] := List.length_eq_zero_iff.1 hl
    subst this
    exact ⟨by decide, by decide⟩
  | k + 1, l, hb, hl => by
    have hne : l ≠ [] := fun e => by rw [e] at hl; cases hl
    have e := List.dropLast_concat_getLast hne
    rw [← e, val_snoc]
    have hc := hb _ (List.getLast_mem hne)
    obtain ⟨i1, i2⟩ := val_bound k l.dropLast (fun c hc => hb c (List.dropLast_subset l hc)) (by rw [List.length_dropLast]; omega)
    rw [Int.pow_succ]
    generalize (256 : Int) ^ k = q at *
    omega
theorem or256 {n c : Int} (h0 : 0 ≤ n) (hc : 0 ≤ c ∧ c ≤ 255) : (((n * 256).toNat ||| c.toNat : Nat) : Int) = 256 * n + c := by
  obtain ⟨m, rfl⟩ : ∃ m : Nat, n = (m : Int) := ⟨n.toNat, by omega⟩
  obtain ⟨d, rfl⟩ : ∃ d : Nat, c = (d : Int) := ⟨c.toNat, by omega⟩
  have e := Nat.two_pow_add_eq_or_of_lt (b := d) (i := 8) (by omega) m
  have e1 : ((m : Int) * 256).toNat = 2 ^ 8 * m := by omega
  rw [e1, Int.toNat_natCast, ← e]
  omega
theorem byteL_take {l : List Int} (h : byteL l) (k : Nat) : byteL (l.take k) := fun c hc => h c (List.take_subset k l hc)
theorem byteL_cut {b : List Int} (h : byteL b) (a n : Int) : byteL (cut b a n) := fun c hc => h c (List.drop_subset _ b (List.take_subset _ _ hc))
/-- Small enough not to wrap. -/
theorem small {l : List Int} (hb : byteL l) {k : Nat} (hk : k < l.length) : 0 ≤ val (l.take k) ∧ val (l.take k) < 256 ^ k ∧ val (l.take (k + 1)) = 256 * val (l.take k) + l[k] ∧ 0 ≤ l[k] ∧ l[k] ≤ 255 := by
  obtain ⟨i1, i2⟩ := val_bound k (l.take k) (byteL_take hb k) (by rw [List.length_take]; omega)
  refine ⟨i1, i2, ?_, hb _ (List.getElem_mem hk)⟩
  rw [List.take_succ_eq_append_getElem hk, val_snoc]
theorem getD_at {α : Type} (l : List α) (d : α) {i : Nat} (h : i < l.length) : l.getD i d = l[i] := by rw [List.getD, List.getElem?_eq_getElem h]; rfl
section
variable {l : List Int} (hb : byteL l)
include hb
theorem num4 (hl : l.length ≤ 4) : F61.l1 (l, (l.length : Int)) (0, 0) = some (val l, ()) := by
  show iterO (F61.r1 (l, (l.length : Int))) (0, 0) = _
  obtain ⟨r, e1, e2⟩ := iterO_inv (f := F61.r1 (l, (l.length : Int))) (fun z => ∃ k : Nat, k ≤ l.length ∧ z = (val (l.take k), (k : Int))) (fun z => l.length - z.2.toNat) (fun r => r = (val l, ())) (by
    rintro z ⟨k, hk, rfl⟩
    have hf : F61.r1 (l, (l.length : Int)) (val (l.take k), (k : Int)) = F61.r1P F13.f (l, (l.length : Int)) (val (l.take k), (k : Int)) := rfl
    rw [hf]
    unfold F61.r1P
    dsimp only
    by_cases hlt : k < l.length
    · left
      obtain ⟨s1, s2, s3, s4, s5⟩ := small hb hlt
      have hp : (256 : Int) ^ k ≤ 16777216 := by
        have hk4 : k = 0 ∨ k = 1 ∨ k = 2 ∨ k = 3 := by omega
        rcases hk4 with rfl | rfl | rfl | rfl <;> decide
      refine ⟨(val (l.take (k + 1)), ((k + 1 : Nat) : Int)), ?_, ⟨k + 1, hlt, rfl⟩, by simp only [Int.toNat_natCast]; omega⟩
      have c1 : decide ((k : Int) < (l.length : Int)) = true := decide_eq_true (by omega)
      have c2 : decide (0 ≤ (k : Int) ∧ (k : Int) < (l.length : Int) ∧ 0 < l.length) = true := decide_eq_true (by omega)
      have c3 : decide (0 + (k : Int).toNat < l.length) = true := decide_eq_true (by omega)
      have e3 : l.getD (0 + (k : Int).toNat) 0 = l[k] := by rw [Nat.zero_add, Int.toNat_natCast]; exact getD_at l _ hlt
      rw [c1, c2, c3, e3, s3]
      generalize val (l.take k) = n at *
      generalize l[k] = c at *
      simp only [cond_true]
      rw [IntWalk.u32_in (n * 128) (by omega), IntWalk.u32_in (n * 128 * 2) (by omega), IntWalk.u32_in c (by omega), Int.emod_eq_of_lt (by omega) (by omega), Int.emod_eq_of_lt (by omega) (by omega), show n * 128 * 2 = n * 256 by omega, or256 s1 ⟨s4, s5⟩,
        IntWalk.u32_in _ (by omega), wrap64_id (by omega)]
      rfl
    · right
      have : k = l.length := by omega
      subst this
      exact ⟨_, by rw [decide_eq_false (show ¬ (l.length : Int) < (l.length : Int) by omega)]; rfl, by rw [List.take_length]⟩) (0, 0) ⟨0, Nat.zero_le _, rfl⟩
  rw [e1, e2]
theorem num2 (hl : l.length ≤ 2) : F62.l1 (l, (l.length : Int)) (0, 0) = some (val l, ()) := by
  show iterO (F62.r1 (l, (l.length : Int))) (0, 0) = _
  obtain ⟨r, e1, e2⟩ := iterO_inv (f := F62.r1 (l, (l.length : Int))) (fun z => ∃ k : Nat, k ≤ l.length ∧ z = (val (l.take k), (k : Int))) (fun z => l.length - z.2.toNat) (fun r => r = (val l, ())) (by
    rintro z ⟨k, hk, rfl⟩
    have hf : F62.r1 (l, (l.length : Int)) (val (l.take k), (k : Int)) = F62.r1P F13.f (l, (l.length : Int)) (val (l.take k), (k : Int)) := rfl
    rw [hf]
    unfold F62.r1P
    dsimp only
    by_cases hlt : k < l.length
    · left
      obtain ⟨s1, s2, s3, s4, s5⟩ := small hb hlt
      have hp : (256 : Int) ^ k ≤ 256 := by
        have hk4 : k = 0 ∨ k = 1 := by omega
        rcases hk4 with rfl | rfl <;> decide
      refine ⟨(val (l.take (k + 1)), ((k + 1 : Nat) : Int)), ?_, ⟨k + 1, hlt, rfl⟩, by simp only [Int.toNat_natCast]; omega⟩
      have c1 : decide ((k : Int) < (l.length : Int)) = true := decide_eq_true (by omega)
      have c2 : decide (0 ≤ (k : Int) ∧ (k : Int) < (l.length : Int) ∧ 0 < l.length) = true := decide_eq_true (by omega)
      have c3 : decide (0 + (k : Int).toNat < l.length) = true := decide_eq_true (by omega)
      have e3 : l.getD (0 + (k : Int).toNat) 0 = l[k] := by rw [Nat.zero_add, Int.toNat_natCast]; exact getD_at l _ hlt
      rw [c1, c2, c3, e3, s3]
      generalize val (l.take k) = n at *
      generalize l[k] = c at *
      simp only [cond_true]
      rw [IntWalk.u16_in (n * 128) (by omega), IntWalk.u16_in (n * 128 * 2) (by omega), IntWalk.u16_in c (by omega), Int.emod_eq_of_lt (by omega) (by omega), Int.emod_eq_of_lt (by omega) (by omega), show n * 128 * 2 = n * 256 by omega, or256 s1 ⟨s4, s5⟩,
        IntWalk.u16_in _ (by omega), wrap64_id (by omega)]
      rfl
    · right
      have : k = l.length := by omega
      subst this
      exact ⟨_, by rw [decide_eq_false (show ¬ (l.length : Int) < (l.length : Int) by omega)]; rfl, by rw [List.take_length]⟩) (0, 0) ⟨0, Nat.zero_le _, rfl⟩
  rw [e1, e2]
theorem num1 (hl : l.length ≤ 1) : F52.l1 (l, (l.length : Int)) (0, 0) = some (val l, ()) := by
  show iterO (F52.r1 (l, (l.length : Int))) (0, 0) = _
  obtain ⟨r, e1, e2⟩ := iterO_inv (f := F52.r1 (l, (l.length : Int))) (fun z => ∃ k : Nat, k ≤ l.length ∧ z = (val (l.take k), (k : Int))) (fun z => l.length - z.2.toNat) (fun r => r = (val l, ())) (by
    rintro z ⟨k, hk, rfl⟩
    have hf : F52.r1 (l, (l.length : Int)) (val (l.take k), (k : Int)) = F52.r1P F13.f (l, (l.length : Int)) (val (l.take k), (k : Int)) := rfl
    rw [hf]
    unfold F52.r1P
    dsimp only
    by_cases hlt : k < l.length
    · left
      obtain ⟨s1, s2, s3, s4, s5⟩ := small hb hlt
      have k0 : k = 0 := by omega
      subst k0
      refine ⟨(val (l.take (0 + 1)), ((0 + 1 : Nat) : Int)), ?_, ⟨0 + 1, hlt, rfl⟩, by simp only [Int.toNat_natCast]; omega⟩
      have c1 : decide (((0 : Nat) : Int) < (l.length : Int)) = true := decide_eq_true (by omega)
      have c2 : decide (0 ≤ ((0 : Nat) : Int) ∧ ((0 : Nat) : Int) < (l.length : Int) ∧ 0 < l.length) = true := decide_eq_true (by omega)
      have c3 : decide (0 + ((0 : Nat) : Int).toNat < l.length) = true := decide_eq_true (by omega)
      have e3 : l.getD (0 + ((0 : Nat) : Int).toNat) 0 = l[0] := by rw [Nat.zero_add, Int.toNat_natCast]; exact getD_at l _ hlt
      rw [c1, c2, c3, e3, s3]
      have n0 : val (l.take 0) = 0 := rfl
      rw [n0]
      generalize l[0] = c at *
      simp only [cond_true]
      have oc := or256 (n := 0) (Int.le_refl _) (c := c) ⟨s4, s5⟩
      rw [IntWalk.u8_in (0 * 128) (by omega), IntWalk.u8_in (0 * 128 * 2) (by omega), Int.emod_eq_of_lt (by omega) (by omega), Int.emod_eq_of_lt (by omega) (by omega), show (0 : Int) * 128 * 2 = 0 * 256 by omega, oc,
        IntWalk.u8_in _ (by omega), wrap64_id (by omega)]
      rfl
    · right
      have : k = l.length := by omega
      subst this
      exact ⟨_, by rw [decide_eq_false (show ¬ (l.length : Int) < (l.length : Int) by omega)]; rfl, by rw [List.take_length]⟩) (0, 0) ⟨0, Nat.zero_le _, rfl⟩
  rw [e1, e2]
end
theorem cut_le (b : List Int) (a : Int) (n : Nat) : (cut b a n).length ≤ n := by unfold cut; rw [List.length_take, Int.toNat_natCast]; omega
/-- A number of n byteL: what is taken; 0 where nothing may be. -/
def numOf (b : List Int) (a t e : Int) (n : Nat) : Int := if er a t e n = 0 then val (cut b a n) else 0
def numSt (b : List Int) (a t e : Int) (n : Nat) (ends : List Int) : RS := if er a t e n = 0 then (b, a + n, ends, e) else (b, a, ends, er a t e n)
section
variable {b : List Int} {a : Int} {o : List Int} (h : RdOk b a o) (hb : byteL b)
include h hb
theorem byteP (e : Int) : F12.f (b, a, (b.length : Int) :: o, e) = some (numOf b a (top b.length o) e 1, numSt b a (top b.length o) e 1 ((b.length : Int) :: o)) := by
  show F12.fP F52.f (b, a, (b.length : Int) :: o, e) = _
  unfold F12.fP
  have key : F52.f ((b, a, (b.length : Int) :: o, e), 1) = some (numOf b a (top b.length o) e 1, numSt b a (top b.length o) e 1 ((b.length : Int) :: o)) := by
    show F52.fP F13.f F52.l1 ((b, a, (b.length : Int) :: o, e), 1) = _
    unfold F52.fP numOf numSt
    by_cases hz : er a (top b.length o) e (1 : Nat) = 0
    · have t := takeOk h hz
      rw [if_pos hz, if_pos hz]
      rw [show (((1 : Nat) : Int)) = 1 from rfl] at t
      simp only [t, Option.bind_some, le_all, Bool.and_true, cond_true, take_all]
      rw [num1 (byteL_cut hb a 1) (cut_le b a 1)]
      rfl
    · have t := takeNo h hz
      rw [if_neg hz, if_neg hz]
      rw [show (((1 : Nat) : Int)) = 1 from rfl] at t ⊢
      simp only [t, Option.bind_some, le_all, Bool.and_true, cond_true, take_all]
      rw [num1 (l := []) (fun c hc => by cases hc) (by simp)]
      rfl
  simp only [key, Option.bind_some]
theorem twoP (e : Int) : F48.f (b, a, (b.length : Int) :: o, e) = some (numOf b a (top b.length o) e 2, numSt b a (top b.length o) e 2 ((b.length : Int) :: o)) := by
  show F48.fP F62.f (b, a, (b.length : Int) :: o, e) = _
  unfold F48.fP
  have key : F62.f ((b, a, (b.length : Int) :: o, e), 2) = some (numOf b a (top b.length o) e 2, numSt b a (top b.length o) e 2 ((b.length : Int) :: o)) := by
    show F62.fP F13.f F62.l1 ((b, a, (b.length : Int) :: o, e), 2) = _
    unfold F62.fP numOf numSt
    by_cases hz : er a (top b.length o) e (2 : Nat) = 0
    · have t := takeOk h hz
      rw [if_pos hz, if_pos hz]
      rw [show (((2 : Nat) : Int)) = 2 from rfl] at t
      simp only [t, Option.bind_some, le_all, Bool.and_true, cond_true, take_all]
      rw [num2 (byteL_cut hb a 2) (cut_le b a 2)]
      rfl
    · have t := takeNo h hz
      rw [if_neg hz, if_neg hz]
      rw [show (((2 : Nat) : Int)) = 2 from rfl] at t ⊢
      simp only [t, Option.bind_some, le_all, Bool.and_true, cond_true, take_all]
      rw [num2 (l := []) (fun c hc => by cases hc) (by simp)]
      rfl
  simp only [key, Option.bind_some]
theorem fourP (e : Int) : F40.f (b, a, (b.length : Int) :: o, e) = some (numOf b a (top b.length o) e 4, numSt b a (top b.length o) e 4 ((b.length : Int) :: o)) := by
  show F40.fP F61.f (b, a, (b.length : Int) :: o, e) = _
  unfold F40.fP
  have key : F61.f ((b, a, (b.length : Int) :: o, e), 4) = some (numOf b a (top b.length o) e 4, numSt b a (top b.length o) e 4 ((b.length : Int) :: o)) := by
    show F61.fP F13.f F61.l1 ((b, a, (b.length : Int) :: o, e), 4) = _
    unfold F61.fP numOf numSt
    by_cases hz : er a (top b.length o) e (4 : Nat) = 0
    · have t := takeOk h hz
      rw [if_pos hz, if_pos hz]
      rw [show (((4 : Nat) : Int)) = 4 from rfl] at t
      simp only [t, Option.bind_some, le_all, Bool.and_true, cond_true, take_all]
      rw [num4 (byteL_cut hb a 4) (cut_le b a 4)]
      rfl
    · have t := takeNo h hz
      rw [if_neg hz, if_neg hz]
      rw [show (((4 : Nat) : Int)) = 4 from rfl] at t ⊢
      simp only [t, Option.bind_some, le_all, Bool.and_true, cond_true, take_all]
      rw [num4 (l := []) (fun c hc => by cases hc) (by simp)]
      rfl
  simp only [key, Option.bind_some]
end
end Go.Proofs.Ytkleakkhbfdipaa.PA

/- Chapter 1: blocks of a reader; the document's reader. -/
namespace Go.Proofs.Ytkleakkhbfdipaa.PB
open Go Go.Proofs Go.Proofs.Ytkleakkhbfdipaa.Sx Go.Proofs.Ytkleakkhbfdipaa.PA
set_option linter.unusedSimpArgs false
set_option linter.unusedVariables false
/-- The last one gone. -/
def popL (o : List Int) : List Int := o.take (o.length - 1)
theorem popL_len (o : List Int) : (popL o).length = o.length - 1 := by unfold popL; rw [List.length_take]; omega
theorem pop_cons (m : Int) {o : List Int} (h : 0 < o.length) : List.take o.length (m :: o) = m :: popL o := by
  unfold popL
  obtain ⟨k, hk⟩ : ∃ k, o.length = k + 1 := ⟨o.length - 1, by omega⟩
  rw [hk, List.take_succ_cons, Nat.add_sub_cancel]
theorem getD_lt (l : List Int) {i k : Nat} (h : i < k) : (l.take k).getD i 0 = l.getD i 0 := by
  rw [List.getD_eq_getElem?_getD, List.getD_eq_getElem?_getD, List.getElem?_take_of_lt h]
theorem getD_snoc_lt (l : List Int) (x : Int) {i : Nat} (h : i < l.length) : (l ++ [x]).getD i 0 = l.getD i 0 := by
  rw [List.getD_eq_getElem?_getD, List.getD_eq_getElem?_getD, List.getElem?_append_left h]
theorem getD_snoc (l : List Int) (x : Int) : (l ++ [x]).getD l.length 0 = x := by
  rw [List.getD_eq_getElem?_getD, List.getElem?_append_right (Nat.le_refl _)]
  simp
theorem top_nil (m : Int) : top m [] = m := rfl
theorem top_snoc (m : Int) (o : List Int) (x : Int) : top m (o ++ [x]) = x := by
  unfold top
  rw [List.length_append, ← List.cons_append]
  exact getD_snoc (m :: o) x
theorem top_pop (m : Int) {o : List Int} (h : 0 < o.length) : top m (popL o) = (m :: o).getD (o.length - 1) 0 := by
  unfold top
  rw [popL_len, ← pop_cons m h]
  exact getD_lt _ (by omega)
section
variable {b : List Int} {a : Int} {o : List Int} (h : RdOk b a o)
include h
theorem moved {x : Int} (h0 : 0 ≤ x) (h1 : x ≤ top b.length o) : RdOk b x o := ⟨h.hb, h.ho, h0, h1, h.hm, h.hc⟩
theorem opened {n : Int} (h0 : 0 ≤ n) (h1 : n ≤ top b.length o - a) (hl : o.length + 1 ≤ 1000000) : RdOk b a (o ++ [a + n]) := by
  have k0 := h.h0; have k1 := h.h1; have km := h.hm
  refine ⟨h.hb, by rw [List.length_append]; exact hl, k0, by rw [top_snoc]; omega, by rw [top_snoc]; omega, ?_⟩
  intro i hi
  rw [List.length_append, List.length_singleton] at hi
  rw [← List.cons_append]
  rcases Nat.lt_or_ge i o.length with hlt | hge
  · rw [getD_snoc_lt _ _ (by rw [List.length_cons]; omega), getD_snoc_lt _ _ (by rw [List.length_cons]; omega)]
    exact h.hc i hlt
  · have e : i = o.length := by omega
    subst e
    have e1 := getD_snoc ((b.length : Int) :: o) (a + n)
    rw [List.length_cons] at e1
    rw [e1, getD_snoc_lt _ _ (by rw [List.length_cons]; omega)]
    unfold top at h1
    omega
theorem popped {x : Int} (hl : 0 < o.length) (h0 : 0 ≤ x) (h1 : x ≤ top b.length o) : RdOk b x (popL o) ∧ top b.length o ≤ top b.length (popL o) := by
  have hh := h.hc (o.length - 1) (by omega)
  rw [show o.length - 1 + 1 = o.length by omega, ← top_pop _ hl] at hh
  have hh : top b.length o ≤ top b.length (popL o) := hh
  have chain : ∀ k, k ≤ o.length → ((b.length : Int) :: o).getD k 0 ≤ b.length := by
    intro k
    induction k with
    | zero => intro _; exact Int.le_refl _
    | succ k ih => intro hk; exact Int.le_trans (h.hc k (by omega)) (ih (by omega))
  refine ⟨⟨h.hb, by rw [popL_len]; have := h.ho; omega, h0, by omega, by rw [top_pop _ hl]; exact chain _ (by omega), ?_⟩, hh⟩
  intro i hi
  rw [popL_len] at hi
  rw [← pop_cons _ hl, getD_lt _ (by omega), getD_lt _ (by omega)]
  exact h.hc i (by omega)
/-! The program's blocks. -/
theorem openOk {e n : Int} (hz : er a (top b.length o) e n = 0) (hl : o.length + 1 ≤ 1000000) : F15.f ((b, a, (b.length : Int) :: o, e), n) = some ((), b, a, (b.length : Int) :: (o ++ [a + n]), e) := by
  obtain ⟨he, hn0, hn1⟩ := er_zero hz
  have h0 := h.h0; have h1 := h.h1; have hm := h.hm; have hb := h.hb
  show F15.fP F53.f ((b, a, (b.length : Int) :: o, e), n) = _
  unfold F15.fP
  have w1 : IntKind.i64.wrap (a + n) = a + n := wrap64_id (by omega)
  have d1 : (1 / OfNat.ofNat 1 : Nat) = 1 := rfl
  have c1 : decide (((b.length : Int) :: o).length + 1 ≤ 1073741824) = true := decide_eq_true (by rw [List.length_cons]; omega)
  have c2 : decide (0 + (((b.length : Int) :: o).length + 1) ≤ (((b.length : Int) :: o) ++ [a + n]).length) = true := decide_eq_true (by simp)
  have tk : List.take (((b.length : Int) :: o).length + 1) (List.drop 0 (((b.length : Int) :: o) ++ [a + n])) = (b.length : Int) :: (o ++ [a + n]) := by
    rw [List.drop_zero, List.take_of_length_le (by simp)]; rfl
  simp only [hasP h, hz, Option.bind_some, beq_self_eq_true, cond_true, d1, w1, c1, le_all, take_all, Bool.and_true, c2, tk]
  rw [he]
theorem openNo {e n : Int} (hz : er a (top b.length o) e n ≠ 0) : F15.f ((b, a, (b.length : Int) :: o, e), n) = some ((), b, a, (b.length : Int) :: o, er a (top b.length o) e n) := by
  show F15.fP F53.f ((b, a, (b.length : Int) :: o, e), n) = _
  unfold F15.fP
  simp only [hasP h, Option.bind_some]
  rw [beq_eq_false_iff_ne.2 hz]
  rfl
theorem deepP (e : Int) : F11.f (b, a, (b.length : Int) :: o, e) = some ((o.length : Int), b, a, (b.length : Int) :: o, e) := by
  show F11.fP (b, a, (b.length : Int) :: o, e) = _
  unfold F11.fP
  have ho := h.ho
  have w : IntKind.i64.wrap (((((b.length : Int) :: o).length : Nat) : Int) - 1) = o.length := by rw [List.length_cons, wrap64_id (by omega)]; omega
  simp only [w, le_all, Bool.and_true, cond_true, List.take_length]
  rw [if_neg (by omega)]
/-- An error noted where no block is open. -/
def er2 (o : List Int) (e : Int) : Int := if o.length = 0 then nt e 26 else e
theorem withinP (e : Int) : F54.f (b, a, (b.length : Int) :: o, e) = some (er2 o e == 0, b, a, (b.length : Int) :: o, er2 o e) := by
  show F54.fP F11.f F18.f F10.f (b, a, (b.length : Int) :: o, e) = _
  unfold F54.fP er2
  simp only [deepP h, failP, errP, Option.bind_some]
  by_cases hl : o.length = 0
  · rw [if_pos hl, hl]; rfl
  · rw [if_neg hl, beq_eq_false_iff_ne.2 (show (o.length : Int) ≠ 0 by omega)]; rfl
end
theorem er2_zero {o : List Int} {e : Int} (hz : er2 o e = 0) : 0 < o.length ∧ e = 0 := by
  unfold er2 nt at hz
  split at hz
  · split at hz
    · cases hz
    · rename_i h1 h2; exact absurd hz h2
  · exact ⟨by omega, hz⟩
section
variable {b : List Int} {a : Int} {o : List Int} (h : RdOk b a o)
include h
theorem skipOk {e : Int} (hz : er2 o e = 0) : F17.f (b, a, (b.length : Int) :: o, e) = some ((), b, top b.length o, (b.length : Int) :: popL o, e) := by
  obtain ⟨hl, he⟩ := er2_zero hz
  have ho := h.ho
  show F17.fP F54.f (b, a, (b.length : Int) :: o, e) = _
  unfold F17.fP
  have w : IntKind.i64.wrap (((((b.length : Int) :: o).length : Nat) : Int) - 1) = o.length := by rw [List.length_cons, wrap64_id (by omega)]; omega
  have c1 : decide (0 ≤ (o.length : Int) ∧ (o.length : Int) < ((((b.length : Int) :: o).length : Nat) : Int) ∧ 0 < ((b.length : Int) :: o).length) = true := decide_eq_true (by rw [List.length_cons]; omega)
  have c2 : decide (0 + (o.length : Int).toNat < ((b.length : Int) :: o).length) = true := decide_eq_true (by rw [List.length_cons]; omega)
  have c3 : decide (0 ≤ (o.length : Int) ∧ (o.length : Int) ≤ ((((b.length : Int) :: o).length : Nat) : Int) ∧ 0 + ((b.length : Int) :: o).length ≤ ((b.length : Int) :: o).length) = true := decide_eq_true (by rw [List.length_cons]; omega)
  have c4 : decide (0 + (o.length : Int).toNat ≤ ((b.length : Int) :: o).length) = true := decide_eq_true (by rw [List.length_cons]; omega)
  simp only [withinP h, hz, Option.bind_some, beq_self_eq_true, cond_true, w, Option.getD_some, c1, c2, c3, c4, le_all, Bool.and_true, take_all]
  rw [Nat.zero_add, Int.toNat_natCast, List.drop_zero, pop_cons _ hl, he]
  rfl
theorem skipNo {e : Int} (hz : er2 o e ≠ 0) : F17.f (b, a, (b.length : Int) :: o, e) = some ((), b, a, (b.length : Int) :: o, er2 o e) := by
  show F17.fP F54.f (b, a, (b.length : Int) :: o, e) = _
  unfold F17.fP
  simp only [withinP h, Option.bind_some]
  rw [beq_eq_false_iff_ne.2 hz]
  rfl
theorem closeNo {e : Int} (hz : er2 o e ≠ 0) : F16.f (b, a, (b.length : Int) :: o, e) = some ((), b, a, (b.length : Int) :: o, er2 o e) := by
  show F16.fP F54.f F19.f F18.f F10.f (b, a, (b.length : Int) :: o, e) = _
  unfold F16.fP
  simp only [withinP h, errP, Option.bind_some]
  rw [beq_eq_false_iff_ne.2 hz]
  rfl
theorem closeForm {e : Int} (hz : er2 o e = 0) (hl : a < top b.length o) : F16.f (b, a, (b.length : Int) :: o, e) = some ((), b, a, (b.length : Int) :: o, 5) := by
  obtain ⟨_, he⟩ := er2_zero hz
  show F16.fP F54.f F19.f F18.f F10.f (b, a, (b.length : Int) :: o, e) = _
  unfold F16.fP
  have l : lf a (top b.length o) 0 = top b.length o - a := rfl
  simp only [withinP h, hz, leftP h, l, failP, errP, Option.bind_some, beq_self_eq_true, cond_true]
  rw [decide_eq_true (show top b.length o - a > 0 by omega)]
  rfl
theorem closeOk {e : Int} (hz : er2 o e = 0) (hl : a = top b.length o) : F16.f (b, a, (b.length : Int) :: o, e) = some ((), b, top b.length o, (b.length : Int) :: popL o, e) := by
  obtain ⟨hlen, he⟩ := er2_zero hz
  have ho := h.ho
  show F16.fP F54.f F19.f F18.f F10.f (b, a, (b.length : Int) :: o, e) = _
  unfold F16.fP
  have l : lf a (top b.length o) 0 = top b.length o - a := rfl
  have w : IntKind.i64.wrap (((((b.length : Int) :: o).length : Nat) : Int) - 1) = o.length := by rw [List.length_cons, wrap64_id (by omega)]; omega
  have c3 : decide (0 ≤ (o.length : Int) ∧ (o.length : Int) ≤ ((((b.length : Int) :: o).length : Nat) : Int) ∧ 0 + ((b.length : Int) :: o).length ≤ ((b.length : Int) :: o).length) = true := decide_eq_true (by rw [List.length_cons]; omega)
  have c4 : decide (0 + (o.length : Int).toNat ≤ ((b.length : Int) :: o).length) = true := decide_eq_true (by rw [List.length_cons]; omega)
  simp only [withinP h, hz, leftP h, l, errP, Option.bind_some, beq_self_eq_true, cond_true]
  rw [decide_eq_false (show ¬ top b.length o - a > 0 by omega)]
  simp only [cond_false, w, Option.getD_some, c3, c4, le_all, Bool.and_true, cond_true, take_all]
  rw [Int.toNat_natCast, List.drop_zero, pop_cons _ hlen, he, hl]
/-! The document's. -/
theorem leftR (e : Int) : F37.f (b, a, o, e) = some (lf a (top b.length o) e, b, a, o, e) := by
  have h0 := h.h0; have h1 := h.h1; have hm := h.hm; have hb := h.hb; have ho := h.ho
  show F37.fP (b, a, o, e) = _
  unfold F37.fP lf
  by_cases he : e = 0
  · rw [if_pos he]
    have c1 : (e != 0) = false := by simpa using he
    dsimp only
    rw [c1]
    simp only [cond_false, le_all, Bool.and_true, cond_true, List.take_length]
    by_cases hl : o.length = 0
    · have hn : o = [] := List.length_eq_zero_iff.1 hl
      subst hn
      rw [top_nil] at *
      rw [decide_eq_false (by simp)]
      simp only [cond_false]
      rw [wrap64_id (by omega)]
    · have w : IntKind.i64.wrap (((o.length : Nat) : Int) - 1) = ((o.length - 1 : Nat) : Int) := by rw [wrap64_id (by omega)]; omega
      have c2 : decide (0 ≤ ((o.length - 1 : Nat) : Int) ∧ ((o.length - 1 : Nat) : Int) < (o.length : Int) ∧ 0 < o.length) = true := decide_eq_true (by omega)
      have c3 : decide (0 + ((o.length - 1 : Nat) : Int).toNat < o.length) = true := decide_eq_true (by omega)
      rw [decide_eq_true (show (o.length : Int) > 0 by omega), w]
      simp only [cond_true, c2, c3]
      have et : o.getD (0 + ((o.length - 1 : Nat) : Int).toNat) 0 = top b.length o := by
        unfold top
        obtain ⟨k, hk⟩ : ∃ k, o.length = k + 1 := ⟨o.length - 1, by omega⟩
        rw [hk, Nat.zero_add, Int.toNat_natCast, List.getD_cons_succ]
        rfl
      rw [et, wrap64_id (by omega)]
  · rw [if_neg he]
    have c1 : (e != 0) = true := by simpa using he
    dsimp only
    rw [c1]; rfl
theorem takeLoop {e n : Int} (hn0 : 0 ≤ n) (hn1 : n ≤ top b.length o - a) : F57.l1 n ((b, a, o, e), [], 0) = some (cut b a n, b, a + n, o, e) := by
  have h0 := h.h0; have h1 := h.h1; have hm := h.hm; have hb := h.hb
  show iterO (F57.r1 n) ((b, a, o, e), [], 0) = _
  obtain ⟨r, e1, e2⟩ := iterO_inv (f := F57.r1 n) (fun z => ∃ k : Nat, (k : Int) ≤ n ∧ z = ((b, a + k, o, e), cut b a k, (k : Int))) (fun z => (n - z.2.2).toNat) (fun r => r = (cut b a n, b, a + n, o, e)) (by
    rintro z ⟨k, hk, rfl⟩
    have hf : F57.r1 n ((b, a + k, o, e), cut b a k, (k : Int)) = F57.r1P F37.f n ((b, a + k, o, e), cut b a k, (k : Int)) := rfl
    rw [hf]
    unfold F57.r1P
    dsimp only
    by_cases hlt : (k : Int) < n
    · left
      have hc : cut b a ((k + 1 : Nat) : Int) = cut b a k ++ [b.getD (a + k).toNat 0] := by
        unfold cut
        rw [Int.toNat_natCast, Int.toNat_natCast]
        have hlen : k < (b.drop a.toNat).length := by rw [List.length_drop]; omega
        rw [List.take_succ_eq_append_getElem hlen, List.getElem_drop, getD_at _ _ (show (a + k).toNat < b.length by omega)]
        congr 3
        omega
      have lc : (cut b a (k : Int)).length ≤ b.length := cut_len b a k
      refine ⟨((b, a + ((k + 1 : Nat) : Int), o, e), cut b a ((k + 1 : Nat) : Int), ((k + 1 : Nat) : Int)), ?_, ⟨k + 1, by omega, rfl⟩, by simp only; omega⟩
      have d1 : (1 / OfNat.ofNat 1 : Nat) = 1 := rfl
      have c1 : decide ((k : Int) < n) = true := decide_eq_true hlt
      have c2 : decide (0 ≤ a + (k : Int) ∧ a + (k : Int) < (b.length : Int) ∧ 0 < b.length) = true := decide_eq_true (by omega)
      have c3 : decide (0 + (a + (k : Int)).toNat < b.length) = true := decide_eq_true (by omega)
      have c4 : decide ((cut b a (k : Int)).length + 1 ≤ 1073741824) = true := decide_eq_true (by omega)
      have c5 : decide (0 + ((cut b a (k : Int)).length + 1) ≤ (cut b a (k : Int) ++ [b.getD (a + k).toNat 0]).length) = true := decide_eq_true (by simp)
      have w1 : IntKind.i64.wrap (a + (k : Int) + 1) = a + ((k + 1 : Nat) : Int) := by rw [wrap64_id (by omega)]; omega
      have w2 : IntKind.i64.wrap ((k : Int) + 1) = ((k + 1 : Nat) : Int) := by rw [wrap64_id (by omega)]; omega
      have tk : List.take ((cut b a (k : Int)).length + 1) (List.drop 0 (cut b a (k : Int) ++ [b.getD (a + k).toNat 0])) = cut b a ((k + 1 : Nat) : Int) := by
        rw [List.drop_zero, List.take_of_length_le (by simp), hc]
      rw [c1, c2, c3]
      have e4 : b.getD (0 + (a + (k : Int)).toNat) 0 = b.getD (a + k).toNat 0 := by rw [Nat.zero_add]
      simp only [cond_true, d1, c4, le_all, Bool.and_true, List.take_length, w1, w2, e4, c5, tk]
    · right
      have e0 : (k : Int) = n := by omega
      refine ⟨(cut b a k, b, a + k, o, e), by rw [decide_eq_false hlt]; simp only [cond_false, le_all, Bool.and_true, cond_true, List.take_length], ?_⟩
      rw [e0]) ((b, a, o, e), [], 0) ⟨0, by omega, by simp [cut]⟩
  rw [e1, e2]
theorem takeROk {e n : Int} (hz : er a (top b.length o) e n = 0) : F57.f ((b, a, o, e), n) = some (cut b a n, b, a + n, o, e) := by
  obtain ⟨he, hn0, hn1⟩ := er_zero hz
  show F57.fP F37.f F57.l1 ((b, a, o, e), n) = _
  unfold F57.fP
  have l : lf a (top b.length o) e = top b.length o - a := if_pos he
  dsimp only
  rw [show (e != 0) = false by simpa using he, decide_eq_false (show ¬ n < 0 by omega)]
  simp only [cond_false, leftR h, l, Option.bind_some]
  rw [decide_eq_false (show ¬ n > top b.length o - a by omega)]
  simp only [cond_false, takeLoop h hn0 hn1, Option.bind_some, le_all, Bool.and_true, cond_true, take_all]
theorem takeRNo {e n : Int} (hz : er a (top b.length o) e n ≠ 0) : F57.f ((b, a, o, e), n) = some ([], b, a, o, er a (top b.length o) e n) := by
  show F57.fP F37.f F57.l1 ((b, a, o, e), n) = _
  unfold F57.fP
  dsimp only
  by_cases he : e = 0
  · subst he
    by_cases hn : n < 0
    · have : er a (top b.length o) 0 n = 4 := by unfold er; rw [if_pos rfl, if_pos (.inl hn)]
      rw [this, decide_eq_true hn]
      simp only [bne_self_eq_false, cond_false, cond_true, le_all, Bool.and_true, List.take_length]
    · have l : lf a (top b.length o) 0 = top b.length o - a := rfl
      have hl : n > top b.length o - a := by
        refine Int.lt_of_not_ge fun hge => hz ?_
        unfold er
        rw [if_pos rfl, if_neg (by omega)]
      have : er a (top b.length o) 0 n = 4 := by unfold er; rw [if_pos rfl, if_pos (.inr hl)]
      rw [this, decide_eq_false hn]
      simp only [bne_self_eq_false, cond_false, leftR h, l, Option.bind_some]
      rw [decide_eq_true hl]
      simp only [cond_true, le_all, Bool.and_true, take_all]
  · have : er a (top b.length o) e n = e := if_neg he
    rw [this, show (e != 0) = true by simpa using he]
    rfl
theorem openROk {e n : Int} (hz : er a (top b.length o) e n = 0) (hl : o.length + 1 ≤ 1000000) : F58.f ((b, a, o, e), n) = some ((), b, a, o ++ [a + n], e) := by
  obtain ⟨he, hn0, hn1⟩ := er_zero hz
  have h0 := h.h0; have h1 := h.h1; have hm := h.hm; have hb := h.hb
  show F58.fP F37.f ((b, a, o, e), n) = _
  unfold F58.fP
  have l : lf a (top b.length o) e = top b.length o - a := if_pos he
  have w1 : IntKind.i64.wrap (a + n) = a + n := wrap64_id (by omega)
  have d1 : (1 / OfNat.ofNat 1 : Nat) = 1 := rfl
  have c1 : decide (o.length + 1 ≤ 1073741824) = true := decide_eq_true (by omega)
  have c2 : decide (0 + (o.length + 1) ≤ (o ++ [a + n]).length) = true := decide_eq_true (by simp)
  have tk : List.take (o.length + 1) (List.drop 0 (o ++ [a + n])) = o ++ [a + n] := by rw [List.drop_zero, List.take_of_length_le (by simp)]
  dsimp only
  rw [show (e != 0) = false by simpa using he, decide_eq_false (show ¬ n < 0 by omega)]
  simp only [cond_false, leftR h, l, Option.bind_some]
  rw [decide_eq_false (show ¬ n > top b.length o - a by omega)]
  simp only [cond_false, cond_true, d1, w1, c1, le_all, take_all, Bool.and_true, c2, tk]
theorem openRNo {e n : Int} (hz : er a (top b.length o) e n ≠ 0) : F58.f ((b, a, o, e), n) = some ((), b, a, o, er a (top b.length o) e n) := by
  show F58.fP F37.f ((b, a, o, e), n) = _
  unfold F58.fP
  dsimp only
  by_cases he : e = 0
  · subst he
    by_cases hn : n < 0
    · have : er a (top b.length o) 0 n = 4 := by unfold er; rw [if_pos rfl, if_pos (.inl hn)]
      rw [this, decide_eq_true hn]
      simp only [bne_self_eq_false, cond_false, cond_true, le_all, Bool.and_true, List.take_length]
    · have l : lf a (top b.length o) 0 = top b.length o - a := rfl
      have hl : n > top b.length o - a := by
        refine Int.lt_of_not_ge fun hge => hz ?_
        unfold er
        rw [if_pos rfl, if_neg (by omega)]
      have : er a (top b.length o) 0 n = 4 := by unfold er; rw [if_pos rfl, if_pos (.inr hl)]
      rw [this, decide_eq_false hn]
      simp only [bne_self_eq_false, cond_false, leftR h, l, Option.bind_some]
      rw [decide_eq_true hl]
      simp only [cond_true, le_all, Bool.and_true, take_all]
  · have : er a (top b.length o) e n = e := if_neg he
    rw [this, show (e != 0) = true by simpa using he]
    rfl
end
theorem failR (b : List Int) (a : Int) (o : List Int) (e k : Int) : F60.f ((b, a, o, e), k) = some ((), b, a, o, nt e k) := by
  show F60.fP ((b, a, o, e), k) = _
  unfold F60.fP nt
  simp only [le_all, Bool.and_true, cond_true, List.take_length]
  by_cases he : e = 0
  · subst he; rfl
  · rw [if_neg he, beq_eq_false_iff_ne.2 he]; rfl
section
variable {b : List Int} {a : Int} {o : List Int} (h : RdOk b a o)
include h
/-- What a close comes to. -/
def er3 (a t : Int) (o : List Int) (e : Int) (skip : Bool) : Int := if er2 o e = 0 then (if skip = false ∧ a < t then 5 else 0) else er2 o e
theorem closeROk {e : Int} {skip : Bool} (hz : er3 a (top b.length o) o e skip = 0) : F59.f ((b, a, o, e), skip) = some ((), b, top b.length o, popL o, e) := by
  have h2 : er2 o e = 0 := by
    unfold er3 at hz
    split at hz
    · assumption
    · exact hz
  obtain ⟨hl, he⟩ := er2_zero h2
  have h0 := h.h0; have h1 := h.h1; have hm := h.hm; have hb := h.hb; have ho := h.ho
  show F59.fP F37.f ((b, a, o, e), skip) = _
  unfold F59.fP
  have l : lf a (top b.length o) e = top b.length o - a := if_pos he
  have w : IntKind.i64.wrap (((o.length : Nat) : Int) - 1) = ((o.length - 1 : Nat) : Int) := by rw [wrap64_id (by omega)]; omega
  have c2 : decide (0 ≤ ((o.length - 1 : Nat) : Int) ∧ ((o.length - 1 : Nat) : Int) < (o.length : Int) ∧ 0 < o.length) = true := decide_eq_true (by omega)
  have c3 : decide (0 + ((o.length - 1 : Nat) : Int).toNat < o.length) = true := decide_eq_true (by omega)
  have c4 : decide (0 ≤ ((o.length - 1 : Nat) : Int) ∧ ((o.length - 1 : Nat) : Int) ≤ (o.length : Int) ∧ 0 + o.length ≤ o.length) = true := decide_eq_true (by omega)
  have c5 : decide (0 + ((o.length - 1 : Nat) : Int).toNat ≤ o.length) = true := decide_eq_true (by omega)
  have et : o.getD (0 + ((o.length - 1 : Nat) : Int).toNat) 0 = top b.length o := by
    unfold top
    obtain ⟨k, hk⟩ : ∃ k, o.length = k + 1 := ⟨o.length - 1, by omega⟩
    rw [hk, Nat.zero_add, Int.toNat_natCast, List.getD_cons_succ]
    rfl
  have ep : List.take ((o.length - 1 : Nat) : Int).toNat o = popL o := by rw [Int.toNat_natCast]; rfl
  dsimp only
  rw [show (e != 0) = false by simpa using he, beq_eq_false_iff_ne.2 (show (o.length : Int) ≠ 0 by omega)]
  simp only [cond_false]
  cases skip with
  | true => simp only [Bool.not_true, cond_false, w, Option.getD_some, c2, c3, c4, c5, et, ep, le_all, Bool.and_true, cond_true, List.take_length]
  | false =>
    have ha : ¬ a < top b.length o := by
      intro ha
      unfold er3 at hz
      rw [if_pos h2, if_pos ⟨rfl, ha⟩] at hz
      cases hz
    simp only [Bool.not_false, cond_true, le_all, Bool.and_true, List.take_length, leftR h, l, Option.bind_some]
    rw [decide_eq_false (show ¬ top b.length o - a > 0 by omega)]
    simp only [cond_false, w, Option.getD_some, c2, c3, c4, c5, et, le_all, Bool.and_true, cond_true, List.drop_zero, List.take_length, ep]
theorem closeRNo {e : Int} {skip : Bool} (hz : er3 a (top b.length o) o e skip ≠ 0) : F59.f ((b, a, o, e), skip) = some ((), b, a, o, er3 a (top b.length o) o e skip) := by
  show F59.fP F37.f ((b, a, o, e), skip) = _
  unfold F59.fP
  dsimp only
  by_cases he : e = 0
  · subst he
    have l : lf a (top b.length o) 0 = top b.length o - a := rfl
    by_cases hl : o.length = 0
    · have : er3 a (top b.length o) o 0 skip = 26 := by
        have e2 : er2 o 0 = 26 := by unfold er2 nt; rw [if_pos hl, if_pos rfl]
        unfold er3
        rw [e2]; rfl
      rw [this, hl]
      simp only [bne_self_eq_false, cond_false, le_all, Bool.and_true, cond_true, List.take_length]
      have : o = [] := List.length_eq_zero_iff.1 hl
      subst this
      rfl
    · have e2 : er2 o 0 = 0 := by unfold er2; rw [if_neg hl]
      have hs : skip = false ∧ a < top b.length o := by
        refine Classical.byContradiction fun hn => hz ?_
        unfold er3
        rw [if_pos e2, if_neg hn]
      have e3 : er3 a (top b.length o) o 0 skip = 5 := by unfold er3; rw [if_pos e2, if_pos hs]
      rw [e3, hs.1, beq_eq_false_iff_ne.2 (show (o.length : Int) ≠ 0 by omega)]
      simp only [bne_self_eq_false, cond_false, Bool.not_false, cond_true, le_all, Bool.and_true, List.take_length, leftR h, l, Option.bind_some]
      rw [decide_eq_true (show top b.length o - a > 0 by omega)]
      simp only [cond_true, le_all, Bool.and_true, take_all]
  · have e2 : er2 o e = e := by unfold er2 nt; rw [if_neg he, ite_self]
    have : er3 a (top b.length o) o e skip = e := by unfold er3; rw [e2, if_neg he]
    rw [this, show (e != 0) = true by simpa using he]
    rfl
end
end Go.Proofs.Ytkleakkhbfdipaa.PB

/- Chapter 1: within blocks, whatever is called. -/
namespace Go.Proofs.Ytkleakkhbfdipaa.PD
open Go Go.Proofs Go.Proofs.Ytkleakkhbfdipaa.Sx Go.Proofs.Ytkleakkhbfdipaa.PA Go.Proofs.Ytkleakkhbfdipaa.PB
set_option linter.unusedSimpArgs false
set_option linter.unusedVariables false
/-- What a call has left: its reader (place a', blocks o', error e'), the ends that are kept beside it, the bytes that came. -/
structure After (b : List Int) (a : Int) (o : List Int) (e w : Int) (a' : Int) (o' : List Int) (e' : Int) (ends got : List Int) : Prop where
  ok : RdOk b a' o'
  len : o'.length ≤ o.length + 1
  gl : got.length ≤ 1000000
  shut : o'.length < o.length → ends = (b.length : Int) :: o ∧ o' = popL o ∧ a' = top b.length o
  same : ¬ o'.length < o.length → ends = (b.length : Int) :: o'
  fwd : a ≤ a'
  stop : e ≠ 0 → a' = a ∧ o' = o ∧ e' = e
  gotten : w < 5 → 0 < a' - a → got = cut b a (a' - a)
theorem cut1 {b : List Int} (hb : byteL b) {a : Int} (h0 : 0 ≤ a) (h1 : a < b.length) : cut b a 1 = [val (cut b a 1)] := by
  unfold cut
  have e : (b.drop a.toNat).take (1 : Int).toNat = [b[a.toNat]'(by omega)] := by
    rw [show (1 : Int).toNat = 0 + 1 from rfl, List.take_succ_eq_append_getElem (by rw [List.length_drop]; omega), List.getElem_drop]
    simp
  rw [e]
  have v : val [b[a.toNat]'(by omega)] = 256 * 0 + b[a.toNat]'(by omega) := rfl
  rw [v]
  simp
section
variable {b : List Int} {a : Int} {o : List Int} (h : RdOk b a o) (hb : byteL b)
include h hb
theorem part1 (e w n : Int) (hl : o.length + 1 ≤ 1000000) : ∃ a' o' e' ends got, F3.l1 ((w, n), a, (o.length : Int), w) ((b, a, (b.length : Int) :: o, e), (b.length : Int) :: o, []) = some ((ends, got), b, a', (b.length : Int) :: o', e') ∧ After b a o e w a' o' e' ends got := by
  have h0 := h.h0; have h1 := h.h1; have hm := h.hm; have hbl := h.hb
  show ∃ a' o' e' ends got, F3.r1P F8.f F9.f F10.f F11.f F12.f F13.f F14.f F15.f F16.f F17.f F18.f F19.f ((w, n), a, (o.length : Int), w) ((b, a, (b.length : Int) :: o, e), (b.length : Int) :: o, []) = _ ∧ _
  unfold F3.r1P
  dsimp only
  have tn : ([] : List Int).length ≤ 1000000 := by simp
  have still : ∀ {e'}, (e ≠ 0 → e' = e) → After b a o e w a o e' ((b.length : Int) :: o) [] := fun {e'} he =>
    ⟨h, by omega, by simp, fun g => by omega, fun _ => rfl, Int.le_refl _, fun g => ⟨rfl, rfl, he g⟩, fun _ g => by omega⟩
  have ends1 : ∀ (l : List Int), l.length ≤ 1000001 → decide (0 + l.length ≤ l.length) = true := fun l _ => le_all _
  cases k0 : w == 0 with
  | true =>
    have w0 : w = 0 := by simpa using k0
    simp only [cond_true, byteP h hb, Option.bind_some, le_all, Bool.and_true, List.take_length]
    unfold numSt numOf
    by_cases hz : er a (top b.length o) e (1 : Nat) = 0
    · obtain ⟨he, hn0, hn1⟩ := er_zero hz
      rw [if_pos hz, if_pos hz]
      refine ⟨_, _, _, _, _, rfl, ⟨PB.moved h (by omega) (by omega), by omega, by simp, fun g => by omega, fun _ => rfl, by omega, fun g => absurd he g, fun _ _ => ?_⟩⟩
      rw [show a + ((1 : Nat) : Int) - a = 1 by omega]
      exact (cut1 hb h0 (by omega)).symm
    · rw [if_neg hz, if_neg hz]
      refine ⟨_, _, _, _, _, rfl, ⟨h, by omega, by simp, fun g => by omega, fun _ => rfl, Int.le_refl _, fun g => ⟨rfl, rfl, if_neg g⟩, fun _ g => by omega⟩⟩
  | false =>
  simp only [cond_false]
  cases k3 : w == 3 with
  | true =>
    have w3 : w = 3 := by simpa using k3
    by_cases hz : er a (top b.length o) e n = 0
    · obtain ⟨he, hn0, hn1⟩ := er_zero hz
      simp only [cond_true, takeOk h hz, Option.bind_some, le_all, Bool.and_true, List.take_length, take_all]
      exact ⟨_, _, _, _, _, rfl, ⟨PB.moved h (by omega) (by omega), by omega, Nat.le_trans (cut_len b a n) hbl, fun g => by omega, fun _ => rfl, by omega, fun g => absurd he g, fun _ _ => by rw [show a + n - a = n by omega]⟩⟩
    · simp only [cond_true, takeNo h hz, Option.bind_some, le_all, Bool.and_true, List.take_length, take_all]
      exact ⟨_, _, _, _, _, rfl, ⟨h, by omega, by simp, fun g => by omega, fun _ => rfl, Int.le_refl _, fun g => ⟨rfl, rfl, if_neg g⟩, fun _ g => by omega⟩⟩
  | false =>
  simp only [cond_false]
  cases k4 : w == 4 with
  | true =>
    by_cases he : e = 0
    · simp only [cond_true, restOk h he, Option.bind_some, le_all, Bool.and_true, List.take_length, take_all]
      exact ⟨_, _, _, _, _, rfl, ⟨PB.moved h (by omega) (Int.le_refl _), by omega, Nat.le_trans (cut_len b a _) hbl, fun g => by omega, fun _ => rfl, h1, fun g => absurd he g, fun _ _ => rfl⟩⟩
    · simp only [cond_true, restNo h he, Option.bind_some, le_all, Bool.and_true, List.take_length, take_all]
      exact ⟨_, _, _, _, _, rfl, ⟨h, by omega, by simp, fun g => by omega, fun _ => rfl, Int.le_refl _, fun g => ⟨rfl, rfl, rfl⟩, fun _ g => by omega⟩⟩
  | false =>
  simp only [cond_false]
  cases k5 : w == 5 with
  | true =>
    have w5 : w = 5 := by simpa using k5
    by_cases hz : er a (top b.length o) e n = 0
    · obtain ⟨he, hn0, hn1⟩ := er_zero hz
      have ho := PB.opened h hn0 hn1 hl
      have d1 : (1 / OfNat.ofNat 1 : Nat) = 1 := rfl
      have w1 : IntKind.i64.wrap (a + n) = a + n := wrap64_id (by omega)
      have c1 : decide ((((o ++ [a + n]).length : Nat) : Int) > (o.length : Int)) = true := decide_eq_true (by rw [List.length_append, List.length_singleton]; omega)
      have c2 : decide (((b.length : Int) :: o).length + 1 ≤ 1073741824) = true := decide_eq_true (by rw [List.length_cons]; omega)
      have c3 : decide (0 + (((b.length : Int) :: o).length + 1) ≤ (((b.length : Int) :: o) ++ [a + n]).length) = true := decide_eq_true (by simp)
      have tk : List.take (((b.length : Int) :: o).length + 1) (List.drop 0 (((b.length : Int) :: o) ++ [a + n])) = (b.length : Int) :: (o ++ [a + n]) := by
        rw [List.drop_zero, List.take_of_length_le (by simp)]; rfl
      simp only [cond_true, openOk h hz hl, deepP ho, Option.bind_some, c1, d1, w1, c2, c3, le_all, Bool.and_true, List.take_length, tk]
      refine ⟨_, _, _, _, _, rfl, ⟨ho, by simp, by simp, fun g => by simp at g; omega, fun _ => rfl, Int.le_refl _, fun g => absurd he g, fun g => by omega⟩⟩
    · have c1 : decide ((o.length : Int) > (o.length : Int)) = false := decide_eq_false (by omega)
      simp only [cond_true, openNo h hz, deepP h, Option.bind_some, c1, cond_false, le_all, Bool.and_true, List.take_length]
      exact ⟨_, _, _, _, _, rfl, still fun g => if_neg g⟩
  | false =>
  simp only [cond_false]
  cases k6 : w == 6 with
  | true =>
    have w6 : w = 6 := by simpa using k6
    by_cases hz : er2 o e = 0
    · obtain ⟨hlen, he⟩ := er2_zero hz
      by_cases ha : a < top b.length o
      · simp only [cond_true, closeForm h hz ha, Option.bind_some, le_all, Bool.and_true, List.take_length]
        exact ⟨_, _, _, _, _, rfl, still fun g => absurd he g⟩
      · have ha' : a = top b.length o := by omega
        simp only [cond_true, closeOk h hz ha', Option.bind_some, le_all, Bool.and_true, List.take_length]
        exact ⟨_, _, _, _, _, rfl, ⟨(PB.popped h hlen (by omega) (Int.le_refl _)).1, by rw [popL_len]; omega, by simp, fun _ => ⟨rfl, rfl, rfl⟩, fun g => by rw [popL_len] at g; omega, by omega, fun g => absurd he g, fun g => by omega⟩⟩
    · simp only [cond_true, closeNo h hz, Option.bind_some, le_all, Bool.and_true, List.take_length]
      exact ⟨_, _, _, _, _, rfl, still fun g => by unfold er2 nt; rw [if_neg g, ite_self]⟩
  | false =>
  simp only [cond_false]
  cases k7 : w == 7 with
  | true =>
    have w7 : w = 7 := by simpa using k7
    by_cases hz : er2 o e = 0
    · obtain ⟨hlen, he⟩ := er2_zero hz
      simp only [cond_true, skipOk h hz, Option.bind_some, le_all, Bool.and_true, List.take_length]
      exact ⟨_, _, _, _, _, rfl, ⟨(PB.popped h hlen (by omega) (Int.le_refl _)).1, by rw [popL_len]; omega, by simp, fun _ => ⟨rfl, rfl, rfl⟩, fun g => by rw [popL_len] at g; omega, h1, fun g => absurd he g, fun g => by omega⟩⟩
    · simp only [cond_true, skipNo h hz, Option.bind_some, le_all, Bool.and_true, List.take_length]
      exact ⟨_, _, _, _, _, rfl, still fun g => by unfold er2 nt; rw [if_neg g, ite_self]⟩
  | false =>
  simp only [cond_false]
  cases k8 : w == 8 with
  | true =>
    simp only [cond_true, failP, Option.bind_some, le_all, Bool.and_true, List.take_length]
    exact ⟨_, _, _, _, _, rfl, still fun g => by unfold nt; rw [if_neg g]⟩
  | false =>
    simp only [cond_false, le_all, Bool.and_true, cond_true, List.take_length]
    exact ⟨_, _, _, _, _, rfl, still fun _ => rfl⟩
end
theorem atP (b : List Int) (a m : Int) (o : List Int) (e : Int) : F9.f (b, a, m :: o, e) = some (a, b, a, m :: o, e) := rfl
theorem lastOf {m : Int} {o : List Int} (ho : o.length ≤ 1000000) : IntKind.i64.wrap ((((m :: o).length : Nat) : Int) - 1) = o.length := by rw [List.length_cons, wrap64_id (by omega)]; omega
theorem idx2 {m : Int} {o : List Int} : decide (0 ≤ (o.length : Int) ∧ (o.length : Int) < (((m :: o).length : Nat) : Int) ∧ 0 < (m :: o).length) = true := decide_eq_true (by rw [List.length_cons]; omega)
theorem idx3 {m : Int} {o : List Int} : decide (0 + (o.length : Int).toNat < (m :: o).length) = true := decide_eq_true (by rw [List.length_cons]; omega)
theorem lastIs (m : Int) (o : List Int) : (m :: o).getD (0 + (o.length : Int).toNat) 0 = top m o := by rw [Nat.zero_add, Int.toNat_natCast]; rfl
theorem part3 {b : List Int} {a : Int} {o : List Int} {e w : Int} {a' : Int} {o' : List Int} {e' : Int} {ends got : List Int} (f : After b a o e w a' o' e' ends got) : F3.l3 ((b.length : Int) :: o', a, e, (o.length : Int)) (b, a', (b.length : Int) :: o', e') = some ((0, false), b, a', (b.length : Int) :: o', e') := by
  have h1 := f.ok.h1
  have ho := f.ok.ho
  have fw := f.fwd
  show F3.r3P F8.f F9.f F10.f F11.f F12.f F13.f F14.f F15.f F16.f F17.f F18.f F19.f ((b.length : Int) :: o', a, e, (o.length : Int)) (b, a', (b.length : Int) :: o', e') = _
  unfold F3.r3P
  dsimp only
  have c1 : decide (a' < a) = false := decide_eq_false (by omega)
  have c2 : decide (a' > top b.length o') = false := decide_eq_false (by omega)
  simp only [le_all, Bool.and_true, cond_true, List.take_length, atP, Option.bind_some, c1, cond_false, lastOf ho, idx2, idx3, lastIs, c2, deepP f.ok, bne_self_eq_false]
  by_cases he : e = 0
  · rw [he]; rfl
  · obtain ⟨e1, e2, e3⟩ := f.stop he
    have c3 : (e != 0) = true := by simpa using he
    have l : lf a' (top b.length o') e' = 0 := by unfold lf; rw [if_neg (by rw [e3]; exact he)]
    simp only [c3, cond_true, errP, leftP f.ok, l, Option.bind_some]
    rw [e1, e2, e3]
    simp only [bne_self_eq_false, cond_false]
section
variable {b : List Int} {a : Int} {o : List Int} (h : RdOk b a o) {e w : Int} {a' : Int} {o' : List Int} {e' : Int} {ends got : List Int} (f : After b a o e w a' o' e' ends got)
include h f
theorem part2 : F3.l2 (o.length : Int) ((b, a', (b.length : Int) :: o', e'), ends) = some ((0, false, (b.length : Int) :: o'), b, a', (b.length : Int) :: o', e') := by
  have ho := h.ho
  show F3.r2P F8.f F9.f F10.f F11.f F12.f F13.f F14.f F15.f F16.f F17.f F18.f F19.f (o.length : Int) ((b, a', (b.length : Int) :: o', e'), ends) = _
  unfold F3.r2P
  dsimp only
  simp only [deepP f.ok, Option.bind_some]
  by_cases hlt : o'.length < o.length
  · obtain ⟨e1, e2, e3⟩ := f.shut hlt
    rw [decide_eq_true (show (o'.length : Int) < (o.length : Int) by omega), e1]
    have c1 : (a' != top b.length o) = false := by rw [e3]; simp
    have c2 : decide (0 ≤ (o.length : Int) ∧ (o.length : Int) ≤ ((((b.length : Int) :: o).length : Nat) : Int) ∧ 0 + ((b.length : Int) :: o).length ≤ ((b.length : Int) :: o).length) = true := decide_eq_true (by rw [List.length_cons]; omega)
    have c3 : decide (0 + (o.length : Int).toNat ≤ ((b.length : Int) :: o).length) = true := decide_eq_true (by rw [List.length_cons]; omega)
    simp only [cond_true, le_all, Bool.and_true, take_all, atP, Option.bind_some, lastOf ho, idx2, idx3, lastIs, c1, cond_false, Option.getD_some, c2, c3]
    rw [Int.toNat_natCast, pop_cons _ (by omega), ← e2]
  · rw [decide_eq_false (show ¬ (o'.length : Int) < (o.length : Int) by omega), f.same hlt]
    simp only [cond_false, le_all, Bool.and_true, cond_true, List.take_length]
theorem part4 {n : Int} : F3.l4 (b, (w, n), a) ((b, a', (b.length : Int) :: o', e'), got) = some ((0, false), b, a', (b.length : Int) :: o', e') := by
  have h1 := f.ok.h1
  have h0 := h.h0
  have hm := f.ok.hm
  have hb := h.hb
  have fw := f.fwd
  show F3.r4P F8.f F9.f F10.f F11.f F12.f F13.f F14.f F15.f F16.f F17.f F18.f F19.f (b, (w, n), a) ((b, a', (b.length : Int) :: o', e'), got) = _
  unfold F3.r4P
  dsimp only
  simp only [atP, Option.bind_some]
  rw [wrap64_id (show -9223372036854775808 ≤ a' - a ∧ a' - a ≤ 9223372036854775807 by omega)]
  by_cases hw : w < 5
  · rw [decide_eq_true hw]
    by_cases hp : a' - a > 0
    · rw [decide_eq_true hp]
      have g := f.gotten hw hp
      have c1 : decide (0 ≤ a ∧ a ≤ a' ∧ a' ≤ (b.length : Int) ∧ 0 + b.length ≤ b.length) = true := decide_eq_true (by omega)
      have c2 : decide (0 + a.toNat + (a' - a).toNat ≤ b.length) = true := decide_eq_true (by omega)
      have c3 : decide (0 + (a' - a).toNat ≤ (List.take (a' - a).toNat (List.drop (0 + a.toNat) b)).length) = true := decide_eq_true (by rw [List.length_take, List.length_drop]; omega)
      have tk : List.take (a' - a).toNat (List.drop 0 (List.take (a' - a).toNat (List.drop (0 + a.toNat) b))) = got := by
        rw [List.drop_zero, List.take_take, Nat.min_self, Nat.zero_add, g]
        rfl
      simp only [cond_true, Option.getD_some, c1, c2, c3, le_all, tk, List.take_length, beq_self_eq_true, Bool.not_true, cond_false]
    · rw [decide_eq_false hp]; rfl
  · rw [decide_eq_false hw]; rfl
theorem part5 : F3.l5 ((b.length : Int) :: o') (b, a', (b.length : Int) :: o', e') = some ((0, false), b, a', (b.length : Int) :: o', e') := by
  have h1 := f.ok.h1
  have h0 := f.ok.h0
  have hm := f.ok.hm
  have hb := h.hb
  have ho := f.ok.ho
  show F3.r5P F8.f F9.f F10.f F11.f F12.f F13.f F14.f F15.f F16.f F17.f F18.f F19.f ((b.length : Int) :: o') (b, a', (b.length : Int) :: o', e') = _
  unfold F3.r5P
  dsimp only
  simp only [le_all, Bool.and_true, cond_true, List.take_length, errP, Option.bind_some]
  by_cases he : e' = 0
  · have l : lf a' (top b.length o') e' = top b.length o' - a' := if_pos he
    have c1 : (e' == 0) = true := by simpa using he
    have w1 : IntKind.i64.wrap (top b.length o' - a') = top b.length o' - a' := wrap64_id (by omega)
    simp only [c1, cond_true, leftP f.ok, l, Option.bind_some, lastOf ho, idx2, idx3, lastIs, atP, w1, bne_self_eq_false, cond_false]
  · have c1 : (e' == 0) = false := by simpa using he
    rw [c1]; rfl
end
theorem rounds {b : List Int} (hb : byteL b) (hlen : b.length ≤ 100) (l : List (Int × Int)) (hl : l.length ≤ maxLen) :
    ∃ r, F3.l6 (b, l, (l.length : Int)) ((b, 0, [(b.length : Int)], 0), [(b.length : Int)], 0) = some r ∧ r.1.1 = 0 := by
  have hmx : maxLen ≤ 9223372036854775807 := by decide
  refine iterO_inv (f := F3.r6 (b, l, (l.length : Int))) (fun z => ∃ a o e i, z = ((b, a, (b.length : Int) :: o, e), (b.length : Int) :: o, i) ∧ RdOk b a o ∧ 0 ≤ i ∧ i ≤ 60 ∧ i ≤ l.length ∧ (o.length : Int) ≤ i) (fun z => 60 - z.2.2.toNat) (fun r => r.1.1 = 0) ?_ _
    ⟨0, [], 0, 0, rfl, ⟨by omega, by simp, by omega, by rw [top_nil]; omega, by rw [top_nil]; omega, fun i hi => by simp at hi⟩, by omega, by omega, by omega, by simp⟩
  rintro z ⟨a, o, e, i, rfl, h, i0, i6, il, io⟩
  have hf : F3.r6 (b, l, (l.length : Int)) ((b, a, (b.length : Int) :: o, e), (b.length : Int) :: o, i) = F3.r6P F8.f F9.f F10.f F11.f F12.f F13.f F14.f F15.f F16.f F17.f F18.f F19.f F3.l1 F3.l2 F3.l3 F3.l4 F3.l5 (b, l, (l.length : Int)) ((b, a, (b.length : Int) :: o, e), (b.length : Int) :: o, i) := rfl
  rw [hf]
  unfold F3.r6P
  dsimp only
  by_cases c1 : i < ((l.length : Nat) : Int)
  case neg => exact .inr ⟨_, by rw [decide_eq_false c1]; rfl, rfl⟩
  have c2 : decide (0 ≤ i ∧ i < ((l.length : Nat) : Int) ∧ 0 < l.length) = true := decide_eq_true (by omega)
  have c3 : decide (0 + i.toNat < l.length) = true := decide_eq_true (by omega)
  rw [decide_eq_true c1, c2, c3]
  simp only [cond_true]
  by_cases c4 : i = 60
  · exact .inr ⟨_, by subst c4; rfl, rfl⟩
  rw [beq_eq_false_iff_ne.2 c4]
  simp only [cond_false, le_all, Bool.and_true, cond_true, List.take_length]
  generalize (l.getD (0 + i.toNat) (0, 0)).fst = w
  generalize (l.getD (0 + i.toNat) (0, 0)).snd = n
  obtain ⟨a', o', e', ends, got, p1, f⟩ := part1 h hb e w n (by omega)
  have hl' := f.len
  have w1 : IntKind.i64.wrap (i + 1) = i + 1 := wrap64_id (by omega)
  left
  refine ⟨((b, a', (b.length : Int) :: o', e'), (b.length : Int) :: o', i + 1), ?_, ⟨a', o', e', i + 1, rfl, f.ok, by omega, by omega, by omega, by omega⟩, by show 60 - (i + 1).toNat < 60 - i.toNat; omega⟩
  simp only [atP, errP, deepP h, p1, Option.bind_some, le_all, Bool.and_true, cond_true, take_all, part2 h f, part3 f, part4 h f, part5 h f, decide_true, w1]
theorem newP (s : List Int) (hs : s.length ≤ 1000000) : F8.f s = some ((s, 0, [(s.length : Int)], 0), ()) := by
  show F8.fP F51.f s = _
  unfold F8.fP
  simp only [le_all, Bool.and_true, cond_true, List.take_length, cloneF s hs, Option.bind_some, take_all]
theorem scrollWithin (d : Den F3.i) (hd : wfD F3.i d) : ∃ q, F3.f d = some (true, q) := by
  obtain ⟨b, l⟩ := d
  have hb : byteL b := fun c hc => (hd.1.2 c hc).1
  have hl : l.length ≤ maxLen := hd.2.1.1
  refine ⟨(), ?_⟩
  show F3.fP F8.f F9.f F10.f F11.f F12.f F13.f F14.f F15.f F16.f F17.f F18.f F19.f F3.l6 (b, l) = _
  unfold F3.fP
  dsimp only
  obtain ⟨m, hm, hm1, hm2⟩ : ∃ m : Nat, (if 100 < (b.length : Int) then (100 : Int) else (b.length : Int)) = (m : Int) ∧ m ≤ 100 ∧ m ≤ b.length := by
    split
    · exact ⟨100, rfl, by omega, by omega⟩
    · exact ⟨b.length, rfl, by omega, by omega⟩
  rw [hm]
  have c1 : decide (0 ≤ (m : Int) ∧ (m : Int) ≤ (b.length : Int) ∧ 0 + b.length ≤ b.length) = true := decide_eq_true (by omega)
  have c2 : decide (0 + m ≤ b.length) = true := decide_eq_true (by omega)
  have hle : (List.take m b).length = m := by rw [List.length_take]; omega
  obtain ⟨r, e1, e2⟩ := rounds (byteL_take hb m) (by omega) l hl
  have nw := newP (List.take m b) (by omega)
  rw [hle] at nw e1
  simp only [Option.getD_some, c1, Int.toNat_natCast, c2, Bool.and_true, cond_true, nw, Option.bind_some, le_all, List.take_length, e1, e2, decide_true]
end Go.Proofs.Ytkleakkhbfdipaa.PD
