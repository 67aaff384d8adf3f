/- Chapter 3: there and back: the law. -/
import Derived.Test.YtnmgbheaabdhlaaDoorX3
namespace Go.Proofs.YtnmgbheaabdhlaaDoor.PK
open Go Go.Proofs Go.Proofs.YtnmgbheaabdhlaaDoor.Sx Go.Proofs.YtnmgbheaabdhlaaDoor.PA Go.Proofs.YtnmgbheaabdhlaaDoor.PB Go.Proofs.YtnmgbheaabdhlaaDoor.PC Go.Proofs.YtnmgbheaabdhlaaDoor.PD Go.Proofs.YtnmgbheaabdhlaaDoor.PG Go.Proofs.YtnmgbheaabdhlaaDoor.PE Go.Proofs.YtnmgbheaabdhlaaDoor.PJ
set_option linter.unusedSimpArgs false
set_option linter.unusedVariables false
theorem clone18 {l : List Int} (h : l.length ≤ 1073741824) : F18.f l = some (l, ()) := by
  unfold F18.f
  by_cases h0 : 0 < l.length
  · rw [if_pos h0]
    unfold F18.fP
    have c1 : decide (0 < l.length) = true := decide_eq_true h0
    have c3 : decide (l.length ≤ 1073741824) = true := decide_eq_true h
    simp only [c1, c3, le_all, cond_true, List.take_length, Nat.zero_add, List.nil_append, decide_true, Bool.and_true, Nat.le_refl, List.drop_zero]
  · rw [if_neg h0]
    have : l = [] := List.length_eq_zero_iff.1 (by omega)
    subst this; rfl
theorem roundB (l : List Msg) (i : Nat) (h : i < l.length) (hl : l.length ≤ 1000000) : F12B.r1 (l, l, (l.length : Int)) (i : Int) = some (.inl ((i + 1 : Nat) : Int)) := by
  unfold F12B.r1 F12B.r1P
  have c1 : decide ((i : Int) < (l.length : Int)) = true := decide_eq_true (by omega)
  have c2 : decide (0 ≤ (i : Int) ∧ (i : Int) < (l.length : Int) ∧ 0 < l.length) = true := decide_eq_true (by omega)
  have c3 : decide (0 + (i : Int).toNat < l.length) = true := decide_eq_true (by omega)
  have c4 : ∀ x : Int, (x != x) = false := fun x => by simp
  simp only [c1, c2, c3, c4, getN h, le_all, take_all, equalP, Option.bind_some, cond_true, cond_false, Bool.and_true, Bool.not_true]
  rw [wrap64_id (by omega)]
  rfl
theorem alikeB (l : List Msg) (hl : l.length ≤ 1000000) : F12B.f (l, l) = some (true, ()) := by
  obtain ⟨r, e, hr⟩ := iterO_inv (f := F12B.r1 (l, l, (l.length : Int))) (fun z => 0 ≤ z ∧ z ≤ l.length) (fun z => l.length - z.toNat) (fun r => r = ((0, false), ())) (by
    rintro z ⟨z0, z1⟩
    obtain ⟨i, rfl⟩ := Int.eq_ofNat_of_zero_le z0
    by_cases h : i < l.length
    · exact .inl ⟨((i + 1 : Nat) : Int), roundB l i h hl, ⟨by omega, by omega⟩, by omega⟩
    · right
      refine ⟨((0, false), ()), ?_, rfl⟩
      unfold F12B.r1 F12B.r1P
      have c1 : decide ((i : Int) < (l.length : Int)) = false := decide_eq_false (by omega)
      simp only [c1, cond_false]) 0 ⟨by omega, by omega⟩
  subst hr
  have e : F12B.l1 (l, l, (l.length : Int)) 0 = some ((0, false), ()) := e
  unfold F12B.f F12B.fP
  simp only [bne_self_eq_false, cond_false, le_all, cond_true, Bool.and_true, List.take_length, e, Option.bind_some]
  rfl
theorem b2 (t : Int) (b : List Int) : F8.l2 () (t, b) = some ((), t, b.take 5000) := by
  unfold F8.l2 F8.r2 F8.r2P
  have e0 : ((some (if (5000 : Int) < (b.length : Int) then (5000 : Int) else (b.length : Int))).getD (b.length : Int)) = ((min b.length 5000 : Nat) : Int) := min_of b.length 5000
  have c1 : decide ((0 : Int) ≤ ((min b.length 5000 : Nat) : Int) ∧ ((min b.length 5000 : Nat) : Int) ≤ (b.length : Int) ∧ 0 + b.length ≤ b.length) = true := decide_eq_true (by omega)
  have e1 : ((min b.length 5000 : Nat) : Int).toNat = min b.length 5000 := by omega
  have c2 : decide (0 + min b.length 5000 ≤ b.length) = true := decide_eq_true (by omega)
  have e2 : b.take (min b.length 5000) = b.take 5000 := by rw [Nat.min_comm, ← List.take_take, List.take_length]
  simp only [e0, c1, e1, c2, cond_true, Bool.and_true, e2]
theorem b3 {t : Int} {m : List Int} (ht : 0 ≤ t ∧ t ≤ 255) (hm : m.length ≤ 5000) : F8.l3 (t, m) () = some (((lay t m).1, (lay t m).2), ()) := by
  unfold F8.l3 F8.r3 F8.r3P
  simp only [le_all, cond_true, Bool.and_true, List.take_length, bytesP ht hm, Option.bind_some, take_all]
theorem b5 {p : Msg} (h : Val p) : F8.l5 (p, enc p) () = some (false, ()) := by
  obtain ⟨t, m⟩ := p
  have hs := h.short
  simp only at hs
  unfold F8.l5 F8.r5 F8.r5P
  simp only [enc_length]
  rw [wrap64_id (by omega)]
  have : ((((19 + m.length : Nat) : Int)) != 19 + (m.length : Int)) = false := by simp
  rw [this]
theorem b6 {b a : List Int} (h : (a ++ b).length ≤ 500000) : F8.l6 b a = some (a ++ b, ()) := by
  unfold F8.l6 F8.r6 F8.r6P
  rw [List.length_append] at h
  have c4 : decide (a.length + b.length ≤ 1073741824) = true := decide_eq_true (by omega)
  have c5 : decide (0 + (a.length + b.length) ≤ (a ++ b).length) = true := decide_eq_true (by rw [List.length_append]; omega)
  have e2 : (a ++ b).take (a.length + b.length) = a ++ b := List.take_of_length_le (by rw [List.length_append]; omega)
  simp only [c4, c5, e2, le_all, cond_true, Bool.and_true, List.take_length, List.drop_zero]
def InvB (y : List Msg × List Int × Int) : Prop := (∀ p ∈ y.1, Val p) ∧ y.2.1 = encs y.1 ∧ ∃ k : Nat, y.2.2 = (k : Int) ∧ k ≤ 8 ∧ y.1.length ≤ k ∧ y.2.1.length ≤ 4096 * k
theorem loop {l : List Msg} (hl : ∀ p ∈ l, (0 ≤ p.1 ∧ p.1 ≤ 255) ∧ Bytes p.2) : ∃ own, F8.l7 (l, (l.length : Int)) ([], [], 0) = some ((0, false, own, encs own), ()) ∧ (∀ p ∈ own, Val p) ∧ own.length ≤ 8 ∧ (encs own).length ≤ 32768 := by
  obtain ⟨r, e, own, h1, h2, h3, h4⟩ := iterO_inv (f := F8.r7 (l, (l.length : Int))) InvB (fun y => 9 - y.2.2.toNat) (fun r => ∃ own, r = ((0, false, own, encs own), ()) ∧ (∀ p ∈ own, Val p) ∧ own.length ≤ 8 ∧ (encs own).length ≤ 32768) (by
    rintro ⟨own, al, kk⟩ ⟨g1, g2, k, g3, g4, g5, g6⟩
    simp only at g1 g2 g3 g5 g6
    subst g2 g3
    by_cases hk : k < l.length
    · have d1 : decide ((k : Int) < (l.length : Int)) = true := decide_eq_true (by omega)
      have d2 : decide ((0 : Int) ≤ (k : Int) ∧ (k : Int) < (l.length : Int) ∧ 0 < l.length) = true := decide_eq_true (by omega)
      have d3 : decide (0 + (k : Int).toNat < l.length) = true := decide_eq_true (by omega)
      by_cases h8 : k = 8
      · right
        refine ⟨_, ?_, own, rfl, g1, by omega, by omega⟩
        have q1 : F8.l1 (k : Int) () = some (true, ()) := by
          unfold F8.l1 F8.r1 F8.r1P
          rw [show ((k : Int) == 8) = true by rw [beq_iff_eq]; omega]
        unfold F8.r7 F8.r7P
        simp only [d1, d2, d3, q1, Option.bind_some, le_all, cond_true, Bool.and_true, List.take_length]
      · left
        have q1 : F8.l1 (k : Int) () = some (false, ()) := by
          unfold F8.l1 F8.r1 F8.r1P
          rw [show ((k : Int) == 8) = false by rw [beq_eq_false_iff_ne]; omega]
        have hgk : l.getD (0 + (k : Int).toNat) (0, []) = l[k] := getN hk
        have hp := hl _ (List.getElem_mem hk)
        generalize l[k] = p at *
        obtain ⟨t, m⟩ := p
        have hml : (m.take 5000).length ≤ 5000 := by rw [List.length_take]; omega
        have q2 := b2 t m
        have q3 := b3 (t := t) (m := m.take 5000) hp.1 hml
        have w : IntKind.i64.wrap ((k : Int) + 1) = ((k + 1 : Nat) : Int) := by rw [wrap64_id (by omega)]; omega
        have hm5 := Bytes.take hp.2 5000
        simp only at hm5
        generalize hmm : m.take 5000 = m5 at *
        rcases lay_not hp.1 hm5 with (hn | hn) | hv
        · refine ⟨(own, encs own, ((k + 1 : Nat) : Int)), ?_, ⟨g1, rfl, k + 1, rfl, by omega, by show own.length ≤ k + 1; omega, by show (encs own).length ≤ 4096 * (k + 1); omega⟩, by simp only [Int.toNat_natCast]; omega⟩
          rw [hn] at q3
          have q4 : F8.l4 ([], 1) () = some (false, ()) := rfl
          unfold F8.r7 F8.r7P
          simp only [d1, d2, d3, q1, hgk, q2, q3, q4, w, Option.bind_some, le_all, take_all, cond_true, cond_false, Bool.and_true, List.take_length, show ((1 : Int) != 0) = true from rfl]
        · refine ⟨(own, encs own, ((k + 1 : Nat) : Int)), ?_, ⟨g1, rfl, k + 1, rfl, by omega, by show own.length ≤ k + 1; omega, by show (encs own).length ≤ 4096 * (k + 1); omega⟩, by simp only [Int.toNat_natCast]; omega⟩
          rw [hn] at q3
          have q4 : F8.l4 ([], 3) () = some (false, ()) := rfl
          unfold F8.r7 F8.r7P
          simp only [d1, d2, d3, q1, hgk, q2, q3, q4, w, Option.bind_some, le_all, take_all, cond_true, cond_false, Bool.and_true, List.take_length, show ((3 : Int) != 0) = true from rfl]
        · have hlen := enc_length (t, m5)
          have hsh := hv.short
          simp only at hlen hsh
          have hee : encs (own ++ [(t, m5)]) = encs own ++ enc (t, m5) := by rw [encs_append, encs, encs, List.append_nil]
          refine ⟨(own ++ [(t, m5)], encs (own ++ [(t, m5)]), ((k + 1 : Nat) : Int)), ?_, ⟨?_, rfl, k + 1, rfl, by omega, by simp; omega, by show (encs (own ++ [(t, m5)])).length ≤ 4096 * (k + 1); rw [hee, List.length_append]; omega⟩, by simp only [Int.toNat_natCast]; omega⟩
          · have q3' : lay t m5 = (enc (t, m5), 0) := lay_val hv
            rw [q3'] at q3
            have q5 := b5 hv
            have q6 := b6 (a := encs own) (b := enc (t, m5)) (by rw [List.length_append]; omega)
            have c4 : decide (own.length + 2 / OfNat.ofNat 2 ≤ 1073741824) = true := decide_eq_true (by show own.length + 1 ≤ _; omega)
            have c5 : decide (0 + (own.length + 2 / OfNat.ofNat 2) ≤ (own ++ [(t, m5)]).length) = true := decide_eq_true (by simp)
            have e2 : (own ++ [(t, m5)]).take (own.length + 2 / OfNat.ofNat 2) = own ++ [(t, m5)] := List.take_of_length_le (by simp)
            unfold F8.r7 F8.r7P
            simp only [d1, d2, d3, q1, hgk, q2, q3, q5, q6, w, Option.bind_some, le_all, take_all, cond_true, cond_false, Bool.and_true, List.take_length, show ((0 : Int) != 0) = false from rfl, c4, c5, e2, hee, List.drop_zero]
          · intro p hp
            rcases List.mem_append.1 hp with hp | hp
            · exact g1 p hp
            · rw [List.mem_singleton.1 hp]; exact hv
    · right
      refine ⟨_, ?_, own, rfl, g1, by omega, by omega⟩
      have d1 : decide ((k : Int) < (l.length : Int)) = false := decide_eq_false (by omega)
      unfold F8.r7 F8.r7P
      simp only [d1, le_all, cond_true, cond_false, Bool.and_true, List.take_length]) ([], [], 0) ⟨(fun p hp => by cases hp), rfl, 0, rfl, by omega, by simp, by simp⟩
  subst h1
  exact ⟨own, e, h2, h3, h4⟩
theorem b17 {p : Msg} (h : Val p) : F8.l17 p () = some ((enc p, 0), ()) := by
  obtain ⟨t, m⟩ := p
  have hs := h.short
  simp only at hs
  have hlay : lay t m = (enc (t, m), 0) := lay_val h
  unfold F8.l17 F8.r17 F8.r17P
  simp only [le_all, cond_true, Bool.and_true, List.take_length, bytesP (t := t) (m := m) h.kind (by omega), hlay, Option.bind_some, take_all]
theorem b18 {b a : List Int} (h : (a ++ b).length ≤ 500000) : F8.l18 b a = some (a ++ b, ()) := by
  unfold F8.l18 F8.r18 F8.r18P
  rw [List.length_append] at h
  have c4 : decide (a.length + b.length ≤ 1073741824) = true := decide_eq_true (by omega)
  have c5 : decide (0 + (a.length + b.length) ≤ (a ++ b).length) = true := decide_eq_true (by rw [List.length_append]; omega)
  have e2 : (a ++ b).take (a.length + b.length) = a ++ b := List.take_of_length_le (by rw [List.length_append]; omega)
  simp only [c4, c5, e2, le_all, cond_true, Bool.and_true, List.take_length, List.drop_zero]
theorem encs_le (l : List Msg) (k : Nat) : (encs (l.take k)).length ≤ (encs l).length := by
  have : encs l = encs (l.take k) ++ encs (l.drop k) := by rw [← encs_append, List.take_append_drop]
  rw [this, List.length_append]; omega
theorem len_encs (l : List Msg) : l.length ≤ (encs l).length := by
  induction l with
  | nil => simp
  | cons p l ih => rw [encs, List.length_append, enc_length, List.length_cons]; omega
theorem loop2 {more : List Msg} (hv : ∀ p ∈ more, Val p) (hl : (encs more).length ≤ 100000) : F8.l19 (more, (more.length : Int)) ([], 0) = some ((0, false, encs more), ()) := by
  have hlen := len_encs more
  obtain ⟨r, e, hr⟩ := iterO_inv (f := F8.r19 (more, (more.length : Int))) (fun y => ∃ k : Nat, y.2 = (k : Int) ∧ k ≤ more.length ∧ y.1 = encs (more.take k)) (fun y => more.length - y.2.toNat) (fun r => r = ((0, false, encs more), ())) (by
    rintro ⟨made, kk⟩ ⟨k, g1, g2, g3⟩
    simp only at g1 g3
    subst g1 g3
    by_cases hk : k < more.length
    · left
      have d1 : decide ((k : Int) < (more.length : Int)) = true := decide_eq_true (by omega)
      have d2 : decide ((0 : Int) ≤ (k : Int) ∧ (k : Int) < (more.length : Int) ∧ 0 < more.length) = true := decide_eq_true (by omega)
      have d3 : decide (0 + (k : Int).toNat < more.length) = true := decide_eq_true (by omega)
      have hgk : more.getD (0 + (k : Int).toNat) (0, []) = more[k] := getN hk
      have hval := hv _ (List.getElem_mem hk)
      have htk : more.take (k + 1) = more.take k ++ [more[k]] := by rw [List.take_add_one, List.getElem?_eq_getElem hk]; rfl
      have hee : encs (more.take (k + 1)) = encs (more.take k) ++ enc more[k] := by rw [htk, encs_append, encs, encs, List.append_nil]
      have hle := encs_le more (k + 1)
      rw [hee] at hle
      have q17 := b17 hval
      have q18 := b18 (a := encs (more.take k)) (b := enc more[k]) (by omega)
      have w : IntKind.i64.wrap ((k : Int) + 1) = ((k + 1 : Nat) : Int) := by rw [wrap64_id (by omega)]; omega
      refine ⟨(encs (more.take (k + 1)), ((k + 1 : Nat) : Int)), ?_, ⟨k + 1, rfl, by omega, rfl⟩, by simp only [Int.toNat_natCast]; omega⟩
      have hpair : (more[k].1, more[k].2) = more[k] := rfl
      unfold F8.r19 F8.r19P
      simp only [d1, d2, d3, hgk, le_all, take_all, hpair, q17, q18, hee, w, Option.bind_some, cond_true, cond_false, Bool.and_true, List.take_length, show ((0 : Int) != 0) = false from rfl]
    · right
      have : k = more.length := by omega
      subst this
      refine ⟨_, ?_, rfl⟩
      have d1 : decide ((more.length : Int) < (more.length : Int)) = false := decide_eq_false (by omega)
      rw [List.take_length]
      unfold F8.r19 F8.r19P
      simp only [d1, le_all, cond_true, cond_false, Bool.and_true, List.take_length]) ([], 0) ⟨0, rfl, by omega, rfl⟩
  subst hr
  exact e
theorem prefixP {a b : List Int} : F25.f (a ++ b, a) = some (true, ()) := by
  unfold F25.f F25.fP
  have c1 : decide (((a ++ b).length : Int) ≥ (a.length : Int)) = true := decide_eq_true (by rw [List.length_append]; omega)
  have e0 : (some (a.length : Int)).getD ((a ++ b).length : Int) = a.length := rfl
  have c2 : decide ((0 : Int) ≤ (a.length : Int) ∧ (a.length : Int) ≤ ((a ++ b).length : Int) ∧ 0 + (a ++ b).length ≤ (a ++ b).length) = true := decide_eq_true (by rw [List.length_append]; omega)
  have e1 : (a.length : Int).toNat = a.length := by omega
  have c3 : decide (0 + a.length ≤ (a ++ b).length) = true := decide_eq_true (by rw [List.length_append]; omega)
  have e2 : (a ++ b).take a.length = a := List.take_left
  simp only [c1, e0, c2, e1, c3, e2, le_all, cond_true, Bool.and_true, List.take_length, equalP, Option.bind_some]
theorem feed0 {b : List Int} (hB : Bytes b) (hl : b.length ≤ 400000) : F10.f (W [], b) = some (parse b) := by
  obtain ⟨ms, st, h1, h2⟩ := chunk (a := []) (c := b) (by simpa using hB) (by simp; omega)
  rw [parse_nil] at h1 h2
  simp only [List.nil_append] at h2
  rw [h2]; exact h1
theorem law (l : List Msg) (behind : List Int) (hl : ∀ p ∈ l, (0 ≤ p.1 ∧ p.1 ≤ 255) ∧ Bytes p.2) (hb : Bytes behind) : ∃ q, F8.f (l, behind) = some (true, q) := by
  obtain ⟨own, n7, hv, ho8, hol⟩ := loop hl
  have hAll := encs_bytes hv
  have hp0 : parse (encs own) = (own, W []) := by
    have := parse_encs hv []
    rw [List.append_nil, parse_nil] at this
    rw [this]; simp
  have n8 : F8.l8 () () = some (W [], ()) := rfl
  have n9 : F8.l9 () (encs own, W []) = some ((encs own, own), W []) := by
    have f0 := feed0 hAll (by omega)
    rw [hp0] at f0
    unfold F8.l9 F8.r9 F8.r9P
    simp only [le_all, cond_true, Bool.and_true, List.take_length, f0, Option.bind_some, take_all]
  have n10 : F8.l10 () (W []) = some ((0, 0), W []) := by
    unfold F8.l10 F8.r10 F8.r10P
    simp only [faultP (b := []) (c := 0) (s := 0) (d := []) (by simp), Option.bind_some]
  have n11 : F8.l11 (own, (0, 0)) (W [], own) = some (false, W []) := by
    unfold F8.l11 F8.r11 F8.r11P
    simp only [le_all, cond_true, cond_false, Bool.and_true, List.take_length, alikeB own (by omega), Option.bind_some, Bool.not_true, bne_self_eq_false, waitsP]
    rfl
  have n12 : F8.l12 () behind = some (behind.take 5000, ()) := by
    unfold F8.l12 F8.r12 F8.r12P
    have e0 : ((some (if (5000 : Int) < (behind.length : Int) then (5000 : Int) else (behind.length : Int))).getD (behind.length : Int)) = ((min behind.length 5000 : Nat) : Int) := min_of behind.length 5000
    have c1 : decide ((0 : Int) ≤ ((min behind.length 5000 : Nat) : Int) ∧ ((min behind.length 5000 : Nat) : Int) ≤ (behind.length : Int) ∧ 0 + behind.length ≤ behind.length) = true := decide_eq_true (by omega)
    have e1 : ((min behind.length 5000 : Nat) : Int).toNat = min behind.length 5000 := by omega
    have c2 : decide (0 + min behind.length 5000 ≤ behind.length) = true := decide_eq_true (by omega)
    have e2 : behind.take (min behind.length 5000) = behind.take 5000 := by rw [Nat.min_comm, ← List.take_take, List.take_length]
    simp only [e0, c1, e1, c2, cond_true, Bool.and_true, e2]
  have hB := hb.take 5000
  have hbl : (behind.take 5000).length ≤ 5000 := by rw [List.length_take]; omega
  have n13 : F8.l13 () () = some (W [], ()) := rfl
  generalize behind.take 5000 = bh at *
  have hWB : Bytes (encs own ++ bh) := hAll.append hB
  have hWl : (encs own ++ bh).length ≤ 40000 := by rw [List.length_append]; omega
  have hpw := parse_encs hv bh
  obtain ⟨hmv, hst⟩ := parse_made _ (Nat.le_refl (encs own ++ bh).length) hWB
  have happ : (encs own).length + bh.length = (encs own ++ bh).length := List.length_append.symm
  have cl := clone18 (l := encs own) (by omega)
  have cA : decide ((encs own ++ bh).length ≤ 1073741824) = true := decide_eq_true (by omega)
  have n14 : F8.l14 bh (encs own, W []) = some ((encs own, (parse (encs own ++ bh)).1), (parse (encs own ++ bh)).2) := by
    have f0 := feed0 hWB (by omega)
    unfold F8.l14 F8.r14 F8.r14P
    simp only [le_all, cond_true, Bool.and_true, List.take_length, cl, Option.bind_some, take_all, happ, cA, f0]
  have n20 : F8.l20 bh (encs own) = some (encs own ++ bh, ()) := by
    unfold F8.l20 F8.r20 F8.r20P
    simp only [le_all, cond_true, Bool.and_true, List.take_length, cl, Option.bind_some, take_all, happ, cA]
  have hmore : (parse (encs own ++ bh)).1 = own ++ (parse bh).1 := by rw [hpw]
  have n15 : F8.l15 () (own, (parse (encs own ++ bh)).1) = some (((parse (encs own ++ bh)).1, false), ()) := by
    rw [hmore]
    unfold F8.l15 F8.r15 F8.r15P
    have c1 : decide (((own ++ (parse bh).1).length : Int) < (own.length : Int)) = false := decide_eq_false (by rw [List.length_append]; omega)
    have e0 : (some (own.length : Int)).getD ((own ++ (parse bh).1).length : Int) = own.length := rfl
    have c2 : decide ((0 : Int) ≤ (own.length : Int) ∧ (own.length : Int) ≤ ((own ++ (parse bh).1).length : Int) ∧ 0 + (own ++ (parse bh).1).length ≤ (own ++ (parse bh).1).length) = true := decide_eq_true (by rw [List.length_append]; omega)
    have e1 : (own.length : Int).toNat = own.length := by omega
    have c3 : decide (0 + own.length ≤ (own ++ (parse bh).1).length) = true := decide_eq_true (by rw [List.length_append]; omega)
    have e2 : (own ++ (parse bh).1).take own.length = own := List.take_left
    simp only [c1, e0, c2, e1, c3, e2, le_all, cond_true, cond_false, Bool.and_true, List.take_length, alikeB own (by omega), Option.bind_some, Bool.not_true]
  have n16 : F8.l16 () () = some ([], ()) := rfl
  generalize hm : (parse (encs own ++ bh)).1 = more at *
  generalize hs : (parse (encs own ++ bh)).2 = st at *
  have hmle : (encs more).length ≤ (encs own ++ bh).length := by
    rcases hst with ⟨r, _, h2⟩ | ⟨s, d, r, _, h2⟩ <;> rw [h2, List.length_append] <;> omega
  have n19 := loop2 hmv (by omega)
  have fin : ∃ c s, F8.l21 () ((0, 0), st) = some ((), (c, s), st) ∧ F8.l22 (c, s) (st, encs more, encs own ++ bh) = some (false, st) := by
    rcases hst with ⟨r, h1, h2⟩ | ⟨s, d, r, h1, h2⟩
    · subst h1
      refine ⟨0, 0, ?_, ?_⟩
      · unfold F8.l21 F8.r21 F8.r21P
        simp only [faultP (b := r) (c := 0) (s := 0) (d := []) (by simp), Option.bind_some]
      · unfold F8.l22 F8.r22 F8.r22P
        have hw : IntKind.i64.wrap (((encs more).length : Int) + (r.length : Int)) = ((encs own ++ bh).length : Int) := by
          have : (encs own ++ bh).length = (encs more).length + r.length := by rw [h2, List.length_append]
          rw [wrap64_id (by omega)]; omega
        have hpre : F25.f (encs own ++ bh, encs more) = some (true, ()) := by rw [h2]; exact prefixP
        simp only [le_all, cond_true, cond_false, Bool.and_true, List.take_length, hpre, Option.bind_some, Bool.not_true, beq_self_eq_true, waitsP, hw, bne_self_eq_false]
    · subst h1
      have hd2 : d.length ≤ 1000 := by
        rcases parse_st _ (Nat.le_refl (encs own ++ bh).length) with ⟨r', n, k1, _⟩ | ⟨s', d', k1, k2, _⟩
        · rw [hs] at k1; cases k1
        · rw [hs] at k1; cases k1; omega
      refine ⟨1, s, ?_, ?_⟩
      · unfold F8.l21 F8.r21 F8.r21P
        simp only [faultP (b := []) (c := 1) (s := s) (d := d) hd2, Option.bind_some]
      · unfold F8.l22 F8.r22 F8.r22P
        have hpre : F25.f (encs own ++ bh, encs more) = some (true, ()) := by rw [h2]; exact prefixP
        simp only [le_all, cond_true, cond_false, Bool.and_true, List.take_length, hpre, Option.bind_some, Bool.not_true, show ((1 : Int) == 0) = false from rfl, show ((1 : Int) != 0) = true from rfl, waitsP]
        rfl
  obtain ⟨c, s, n21, n22⟩ := fin
  refine ⟨(), ?_⟩
  unfold F8.f F8.fP
  simp only [le_all, cond_true, cond_false, Bool.and_true, List.take_length, n7, n8, n9, n10, n11, n12, n13, n14, n15, n16, n19, n20, n21, n22, Option.bind_some, take_all, decide_true]
theorem back (d : Den F8.i) (hd : wfD F8.i d) : ∃ q, F8.f d = some (true, q) := by
  obtain ⟨l, behind⟩ := d
  exact law l behind (fun p hp => ⟨(hd.1.2 p hp).1, fun x hx => (((hd.1.2 p hp).2.1).2 x hx).1⟩) (fun x hx => (hd.2.1.2 x hx).1)
end Go.Proofs.YtnmgbheaabdhlaaDoor.PK
