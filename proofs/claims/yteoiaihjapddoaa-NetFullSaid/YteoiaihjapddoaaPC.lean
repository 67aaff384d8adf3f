/- Chapter 29: a queue takes bytes as long as they fit. -/
import Derived.Test.YteoiaihjapddoaaPB
import Derived.Test.YteoiaihjapddoaaZP
import Derived.Test.YteoiaihjapddoaaZK
namespace Go.Proofs.Yteoiaihjapddoaa.PC
open Go Go.Proofs Go.Proofs.Yteoiaihjapddoaa.PA Go.Proofs.Yteoiaihjapddoaa.PB Go.Proofs.Yteoiaihjapddoaa.Sx
set_option linter.unusedSimpArgs false
set_option linter.unusedVariables false
abbrev NT := (List (Bool × Int × List Int × List Int)) × Bool
def net (q : List Int) : NT := ([(true, 0, q, [])], true)
def Inv (b : List Int) (s : NT × List Int × Int) : Prop := ∃ q : List Int, s = (net q, b, (q.length : Int)) ∧ q.length ≤ 16384
theorem fill (b : List Int) (h1 : 1 ≤ b.length) (h2 : b.length ≤ 5000) : ∃ q : List Int, F3.l1 0 (net [], b, 0) = some ((0, false, b, (q.length : Int)), net q) ∧ q.length ≤ 16384 ∧ q.length + b.length > 16384 := by
  have hs : ∀ s, Inv b s → (∃ s', F3.r1 0 s = some (.inl s') ∧ Inv b s' ∧ (16384 - s'.2.2.toNat) < (16384 - s.2.2.toNat)) ∨
      (∃ r, F3.r1 0 s = some (.inr r) ∧ ∃ q : List Int, r = ((0, false, b, (q.length : Int)), net q) ∧ q.length ≤ 16384 ∧ q.length + b.length > 16384) := by
    rintro s ⟨q, rfl, hq⟩
    have hf : F3.r1 0 (net q, b, (q.length : Int)) = F3.r1P F9.f F10.f F11.f F12.f F13.f 0 (net q, b, (q.length : Int)) := rfl
    rw [hf]
    unfold F3.r1P net
    have e := f11 0 q [] b (by omega) (by omega)
    by_cases h : q.length + b.length > 16384
    · right
      rw [if_pos h] at e
      refine ⟨_, ?_, q, rfl, hq, h⟩
      simp [e, net]
    · left
      rw [if_neg h] at e
      have hw : IntKind.i64.wrap ((q.length : Int) + (b.length : Int)) = (q.length : Int) + (b.length : Int) := wrap64_id (by omega)
      have hn : ¬ (16384 : Int) < (q.length : Int) + (b.length : Int) := by omega
      refine ⟨(net (q ++ b), b, ((q ++ b).length : Int)), ?_, ⟨q ++ b, rfl, by simp; omega⟩, ?_⟩
      · simp [e, hw, hn, f12a, net]
      · show 16384 - (((q ++ b).length : Int)).toNat < 16384 - ((q.length : Int)).toNat
        simp; omega
  obtain ⟨r, e, q, rfl, g1, g2⟩ := iterO_inv (f := F3.r1 0) (Inv b) (fun s => 16384 - s.2.2.toNat) _ hs (net [], b, 0) ⟨[], rfl, by simp⟩
  exact ⟨q, e, g1, g2⟩
theorem chk (x : Int) (h0 : 0 ≤ x) (h1 : x ≤ 20000) : decide (0 ≤ x ∧ x ≤ x ∧ x ≤ 1073741824 ∧ (OfNat.ofNat 1 : Int) * x ≤ 281474976710656) = true := by
  have : (OfNat.ofNat 1 : Int) * x = x := Int.one_mul x
  rw [this]; simp; omega
theorem full (d : Int × Int) (hw : wfD F3.i d) : ∃ q, F3.f d = some (true, q) := by
  obtain ⟨size, many⟩ := d
  have hs : 0 ≤ size := hw.1.1
  have hm : 0 ≤ many := hw.2.1.1
  have hm2 : many ≤ 65535 := hw.2.1.2
  have hf : F3.f (size, many) = F3.fP F9.f F10.f F11.f F12.f F13.f F3.l1 (size, many) := rfl
  rw [hf]
  unfold F3.fP
  have h1 : 0 ≤ size.tmod 5000 := Int.tmod_nonneg _ hs
  have h2 : size.tmod 5000 < 5000 := Int.tmod_lt_of_pos _ (by decide)
  have w1 : IntKind.i64.wrap (size.tmod 5000) = size.tmod 5000 := wrap64_id (by omega)
  have w2 : IntKind.i64.wrap (1 + size.tmod 5000) = 1 + size.tmod 5000 := wrap64_id (by omega)
  have wm : IntKind.i64.wrap many = many := wrap64_id (by omega)
  simp only [f9, f10, Option.bind_some, w1, w2, wm]
  generalize hB : (1 + size.tmod 5000) = B
  have b1 : 1 ≤ B := by omega
  have b2 : B ≤ 5000 := by omega
  obtain ⟨q, eL, q1, q2⟩ := fill (List.replicate B.toNat (0 : Int)) (by simp; omega) (by simp; omega)
  simp only [List.length_replicate] at q2
  have eF := f11 0 q [] (List.replicate B.toNat (0 : Int)) (by omega) (by simp; omega)
  rw [if_pos (by simpa using q2)] at eF
  have eD := f13 0 q [] many q1 hm
  have ll : (List.take many.toNat q).length = min many.toNat q.length := by simp
  have hbig : ¬ ((q.length : Int) + B ≤ 16384) := by omega
  have wB : IntKind.i64.wrap ((q.length : Int) + B) = (q.length : Int) + B := wrap64_id (by omega)
  refine ⟨(), ?_⟩
  have c1 : decide ((0 : Int) ≤ B ∧ B ≤ B ∧ B ≤ 1073741824 ∧ ((OfNat.ofNat (1 : Nat) : Nat) : Int) * B ≤ 281474976710656) = true := by
    have : ((OfNat.ofNat (1 : Nat) : Nat) : Int) * B = B := by show (1 : Int) * B = B; omega
    rw [this]; simp; omega
  have eL' : F3.l1 0 (([(true, 0, [], [])], true), List.replicate B.toNat (0 : Int), 0) = some ((0, false, List.replicate B.toNat (0 : Int), (q.length : Int)), ([(true, 0, q, [])], true)) := eL
  have tr : List.take B.toNat (List.replicate B.toNat (0 : Int)) = List.replicate B.toNat 0 := List.take_of_length_le (by simp)
  have BB : ((B.toNat : Nat) : Int) = B := by omega
  simp only [c1, cond_true, bne_self_eq_false, cond_false, List.length_replicate, Nat.zero_add, Nat.le_refl, decide_true, Bool.and_self, List.drop_zero, tr, eL', Option.bind_some, BB, wB, hbig, decide_false, eF, f12a, f12b, eD]
  have qd : (List.drop many.toNat q).length = q.length - many.toNat := List.length_drop
  have wL : IntKind.i64.wrap ((q.length : Int) - ((List.take many.toNat q).length : Int)) = ((List.drop many.toNat q).length : Int) := by
    rw [ll, qd, wrap64_id (by omega)]; omega
  have cmin : (((List.take many.toNat q).length : Int) == if (q.length : Int) < many then (q.length : Int) else many) = true := by
    rw [ll]; simp; split <;> omega
  have qle : (List.drop many.toNat q).length ≤ 16384 := by omega
  simp only [wL, cmin, cond_true]
  generalize List.drop many.toNat q = p at *
  have wR : IntKind.i64.wrap (16384 - (p.length : Int)) = 16384 - (p.length : Int) := wrap64_id (by omega)
  have wR1 : IntKind.i64.wrap (16384 - (p.length : Int) + 1) = 16384 - (p.length : Int) + 1 := wrap64_id (by omega)
  have t1 : List.take (16384 - (p.length : Int) + 1).toNat (List.replicate (16384 - (p.length : Int) + 1).toNat (0 : Int)) = List.replicate (16384 - (p.length : Int) + 1).toNat 0 := List.take_of_length_le (by simp)
  have t2 : List.take (16384 - (p.length : Int)).toNat (List.replicate (16384 - (p.length : Int)).toNat (0 : Int)) = List.replicate (16384 - (p.length : Int)).toNat 0 := List.take_of_length_le (by simp)
  have g1 := f11 0 p [] (List.replicate (16384 - (p.length : Int) + 1).toNat (0 : Int)) (by omega) (by simp; omega)
  rw [if_pos (by simp; omega)] at g1
  have g2 := f11 0 p [] (List.replicate (16384 - (p.length : Int)).toNat (0 : Int)) (by omega) (by simp; omega)
  rw [if_neg (by simp; omega)] at g2
  have g3 := f12a true 0 (p ++ List.replicate (16384 - (p.length : Int)).toNat (0 : Int)) []
  have g4 : (((p ++ List.replicate (16384 - (p.length : Int)).toNat (0 : Int)).length : Int) == 16384) = true := by simp; omega
  have z0 : (((([] : List Int).length : Nat) : Int) != 0) = false := rfl
  have z1 : ((0 : Int) == 0) = true := rfl
  have z7 : ((7 : Int) == 7) = true := rfl
  simp only [wR, wR1, t1, t2, chk B (by omega) (by omega), chk _ (show (0 : Int) ≤ 16384 - (p.length : Int) by omega) (by omega), chk _ (show (0 : Int) ≤ 16384 - (p.length : Int) + 1 by omega) (by omega), cond_true, cond_false, g1, g2, g3, g4, Option.bind_some, z0, z1, z7]
end Go.Proofs.Yteoiaihjapddoaa.PC
