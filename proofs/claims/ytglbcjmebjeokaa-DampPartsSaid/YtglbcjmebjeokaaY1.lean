/- Floats of 64 bits that are not below zero: their words as natural numbers. Plain theorems; no program in sight. -/
import Derived.Test.YtglbcjmebjeokaaZ2
import Derived.Test.YtglbcjmebjeokaaZK
import Derived.Test.YtglbcjmebjeokaaZP
import Derived.Test.YtglbcjmebjeokaaX1
import Derived.IntWalk
namespace Go.Proofs.Ytglbcjmebjeokaa.FL
open Go Go.Proofs.Ytglbcjmebjeokaa.Sx
set_option linter.unusedSimpArgs false
set_option linter.unusedVariables false
/-- Rungs to one binade; the rung of infinity. -/
abbrev B : Nat := 4503599627370496
abbrev infR : Nat := 9218868437227405312
def mag (r : Nat) : Nat := if r < B then r else B + r % B
def ex (r : Nat) : Nat := r / B - 1
def uval (r : Nat) : Nat := mag r * 2 ^ ex r
theorem read_fin {r : Nat} (h : r < infR) : Ieee.double.read r = .number false (mag r) (-1074 + (ex r : Int)) := by
  have hs : Ieee.double.signWeight = 9223372036854775808 := by decide
  have hb : Ieee.double.binade = B := by decide
  have hi : Ieee.double.infRung = infR := by decide
  have hl : Ieee.double.leastPlace = -1074 := by decide
  unfold Ieee.Format.read
  simp only [hs, hb, hi, hl]
  have h1 : r / 9223372036854775808 = 0 := Nat.div_eq_of_lt (by unfold infR at h; omega)
  have h2 : r % 9223372036854775808 = r := Nat.mod_eq_of_lt (by unfold infR at h; omega)
  rw [h1, h2]
  unfold mag ex
  by_cases hr : r < B
  · rw [if_pos hr, if_pos hr]
    have : r / B = 0 := Nat.div_eq_of_lt hr
    rw [this]; rfl
  · rw [if_neg hr, if_neg hr, if_pos h]; rfl
theorem mag_lt (r : Nat) : mag r < 2 * B := by
  unfold mag
  split
  · omega
  · have := Nat.mod_lt r (show 0 < B by decide); omega
theorem mag_ge {r : Nat} (h : B ≤ r) : B ≤ mag r := by
  unfold mag
  rw [if_neg (by omega)]; omega
theorem ex_pos {r : Nat} (h : 0 < ex r) : B ≤ r := by
  unfold ex at h
  by_cases hr : r < B
  · rw [Nat.div_eq_of_lt hr] at h; omega
  · omega
theorem ex_mono {x y : Nat} (h : x ≤ y) : ex x ≤ ex y := by
  have := Nat.div_le_div_right (c := B) h
  unfold ex; omega
theorem mag_mono {x y : Nat} (h : x < y) (he : ex x = ex y) : mag x < mag y := by
  unfold mag ex at *
  have hx := Nat.div_add_mod x B
  have hy := Nat.div_add_mod y B
  have hm := Nat.mod_lt x (show 0 < B by decide)
  have hn := Nat.mod_lt y (show 0 < B by decide)
  split <;> split <;> unfold B at * <;> omega
theorem uval_lt {x y : Nat} (h : x < y) : uval x < uval y := by
  unfold uval
  have he := ex_mono (Nat.le_of_lt h)
  rcases Nat.lt_or_ge (ex x) (ex y) with hl | hg
  · have h1 : mag x * 2 ^ ex x < 2 * B * 2 ^ ex x := Nat.mul_lt_mul_of_pos_right (mag_lt x) (Nat.two_pow_pos _)
    have h2 : 2 * B * 2 ^ ex x = B * 2 ^ (ex x + 1) := by rw [Nat.pow_succ]; simp only [Nat.mul_comm, Nat.mul_left_comm, Nat.mul_assoc]
    have h3 : B * 2 ^ (ex x + 1) ≤ B * 2 ^ ex y := Nat.mul_le_mul_left _ (Nat.pow_le_pow_right (by decide) hl)
    have h4 : B * 2 ^ ex y ≤ mag y * 2 ^ ex y := Nat.mul_le_mul_right _ (mag_ge (ex_pos (by omega)))
    omega
  · have e : ex x = ex y := by omega
    rw [e]
    exact Nat.mul_lt_mul_of_pos_right (mag_mono h e) (Nat.two_pow_pos _)
theorem uval_le {x y : Nat} (h : x ≤ y) : uval x ≤ uval y := by
  rcases Nat.lt_or_ge x y with hl | hg
  · exact Nat.le_of_lt (uval_lt hl)
  · rw [show x = y by omega]; exact Nat.le_refl _
/-! Order. -/
theorem signed_pos (m k : Nat) : Ieee.signed false m k = ((m * 2 ^ k : Nat) : Int) := by
  unfold Ieee.signed
  rw [if_neg (by decide), Nat.shiftLeft_eq]
theorem ord {x y : Nat} (hx : x < infR) (hy : y < infR) : Ieee.double.order x y = some (compare x y) := by
  unfold Ieee.Format.order
  rw [read_fin hx, read_fin hy]
  simp only [Ieee.Datum.order]
  rw [signed_pos, signed_pos]
  have ha : (-1074 + (ex x : Int) - min (-1074 + (ex x : Int)) (-1074 + (ex y : Int))).toNat = ex x - min (ex x) (ex y) := by omega
  have hb : (-1074 + (ex y : Int) - min (-1074 + (ex x : Int)) (-1074 + (ex y : Int))).toNat = ex y - min (ex x) (ex y) := by omega
  rw [ha, hb]
  have up : ∀ z m : Nat, m ≤ ex z → mag z * 2 ^ (ex z - m) * 2 ^ m = uval z := by
    intro z m hm
    unfold uval
    rw [Nat.mul_assoc, ← Nat.pow_add, Nat.sub_add_cancel hm]
  have ux := up x (min (ex x) (ex y)) (Nat.min_le_left _ _)
  have uy := up y (min (ex x) (ex y)) (Nat.min_le_right _ _)
  generalize hA : mag x * 2 ^ (ex x - min (ex x) (ex y)) = A at *
  generalize hC : mag y * 2 ^ (ex y - min (ex x) (ex y)) = C at *
  have hp := Nat.two_pow_pos (min (ex x) (ex y))
  congr 1
  rcases Nat.lt_trichotomy x y with h | h | h
  · have := uval_lt h
    rw [← ux, ← uy] at this
    have hAC : A < C := Nat.lt_of_mul_lt_mul_right this
    rw [Nat.compare_eq_lt.2 h]
    exact Int.compare_eq_lt.2 (by omega)
  · subst h
    have : A = C := by rw [← hA, ← hC]
    subst this
    rw [Nat.compare_eq_eq.2 rfl]
    exact Int.compare_eq_eq.2 rfl
  · have := uval_lt h
    rw [← ux, ← uy] at this
    have hAC : C < A := Nat.lt_of_mul_lt_mul_right this
    rw [Nat.compare_eq_gt.2 h]
    exact Int.compare_eq_gt.2 (by omega)
/-! Rounding. -/
/-- c is n / g, rounded to the nearest, ties to even. -/
structure Rd (n g c : Nat) : Prop where
  up : 2 * (c * g) ≤ 2 * n + g
  lo : 2 * n ≤ 2 * (c * g) + g
  tup : 2 * (c * g) = 2 * n + g → c % 2 = 0
  tlo : 2 * n = 2 * (c * g) + g → c % 2 = 0
theorem cut_rd (n d : Nat) : Rd n (2 ^ d) (Ieee.Toward.even.cut false n d) := by
  unfold Ieee.Toward.cut
  simp only
  rw [Nat.one_shiftLeft]
  by_cases hd : d ≤ n.log2 + 2
  · rw [Nat.min_eq_left hd]
    have hg := Nat.two_pow_pos d
    generalize 2 ^ d = g at *
    have h1 := Nat.div_add_mod n g
    have h2 := Nat.mod_lt n hg
    generalize n / g = low at *
    generalize n % g = rest at *
    have e1 : (low + 1) * g = g * low + g := by rw [Nat.add_mul, Nat.one_mul, Nat.mul_comm]
    have e0 : low * g = g * low := Nat.mul_comm _ _
    by_cases c1 : g < 2 * rest
    · rw [decide_eq_true c1, Bool.true_or]
      simp only [Bool.toNat_true]
      exact ⟨by rw [e1]; omega, by rw [e1]; omega, by rw [e1]; intro h; omega, by rw [e1]; intro h; omega⟩
    · rw [decide_eq_false c1, Bool.false_or]
      by_cases c2 : g = 2 * rest
      · have : (g == 2 * rest) = true := by simpa using c2
        rw [this, Bool.true_and]
        by_cases c3 : low % 2 = 1
        · have : (low % 2 == 1) = true := by simpa using c3
          rw [this]
          simp only [Bool.toNat_true]
          exact ⟨by rw [e1]; omega, by rw [e1]; omega, by rw [e1]; intro h; omega, by rw [e1]; intro h; omega⟩
        · have : (low % 2 == 1) = false := by simpa using c3
          rw [this]
          simp only [Bool.toNat_false, Nat.add_zero]
          exact ⟨by rw [e0]; omega, by rw [e0]; omega, by rw [e0]; intro h; omega, by rw [e0]; intro h; omega⟩
      · have : (g == 2 * rest) = false := by simpa using c2
        rw [this, Bool.false_and]
        simp only [Bool.toNat_false, Nat.add_zero]
        exact ⟨by rw [e0]; omega, by rw [e0]; omega, by rw [e0]; intro h; omega, by rw [e0]; intro h; omega⟩
  · rw [Nat.min_eq_right (by omega)]
    have hn : n < 2 ^ (n.log2 + 1) := Nat.lt_log2_self
    have hk : 2 ^ (n.log2 + 2) = 2 * 2 ^ (n.log2 + 1) := by rw [Nat.pow_succ (n := 2) (m := n.log2 + 1), Nat.mul_comm]
    have hle : 2 ^ (n.log2 + 2) ≤ 2 ^ d := Nat.pow_le_pow_right (by decide) (by omega)
    rw [Nat.div_eq_of_lt (show n < 2 ^ (n.log2 + 2) by omega), Nat.mod_eq_of_lt (show n < 2 ^ (n.log2 + 2) by omega)]
    rw [decide_eq_false (show ¬ 2 ^ (n.log2 + 2) < 2 * n by omega), Bool.false_or]
    have : (2 ^ (n.log2 + 2) == 2 * n) = false := by rw [beq_eq_false_iff_ne]; omega
    rw [this, Bool.false_and]
    simp only [Bool.toNat_false, Nat.add_zero]
    exact ⟨by omega, by omega, by omega, by omega⟩
theorem Rd.mono {n1 g1 c1 n2 g2 c2 : Nat} (h1 : Rd n1 g1 c1) (h2 : Rd n2 g2 c2) (p1 : 0 < g1) (p2 : 0 < g2) (h : n1 * g2 ≤ n2 * g1) : c1 ≤ c2 := by
  refine Nat.le_of_not_lt fun hc => ?_
  obtain ⟨u1, _, t1, _⟩ := h1
  obtain ⟨_, l2, _, t2⟩ := h2
  have a1 : 2 * (c1 * (g1 * g2)) ≤ 2 * (n1 * g2) + g1 * g2 := by
    have := Nat.mul_le_mul_right g2 u1
    rw [Nat.add_mul, Nat.mul_assoc, Nat.mul_assoc, Nat.mul_assoc] at this
    exact this
  have a2 : 2 * (n2 * g1) ≤ 2 * (c2 * (g1 * g2)) + g1 * g2 := by
    have := Nat.mul_le_mul_right g1 l2
    rw [Nat.add_mul, Nat.mul_assoc, Nat.mul_assoc, Nat.mul_assoc, Nat.mul_comm g2 g1] at this
    exact this
  have gp : 0 < g1 * g2 := Nat.mul_pos p1 p2
  obtain ⟨k, rfl⟩ : ∃ k, c1 = c2 + 1 + k := ⟨c1 - (c2 + 1), by omega⟩
  have ek : (c2 + 1 + k) * (g1 * g2) = c2 * (g1 * g2) + g1 * g2 + k * (g1 * g2) := by rw [Nat.add_mul, Nat.add_mul, Nat.one_mul]
  rw [ek] at a1
  have k0 : k = 0 := by
    rcases Nat.eq_zero_or_pos k with h | h
    · exact h
    · have := Nat.mul_le_mul_right (g1 * g2) h
      rw [Nat.one_mul] at this
      omega
  subst k0
  rw [Nat.zero_mul] at a1
  have q1 : 2 * ((c2 + 1 + 0) * g1) = 2 * n1 + g1 := by
    refine Nat.eq_of_mul_eq_mul_right p2 ?_
    have e1 : 2 * ((c2 + 1 + 0) * g1) * g2 = 2 * ((c2 + 1 + 0) * (g1 * g2)) := by rw [Nat.mul_assoc, Nat.mul_assoc]
    have e2 : (2 * n1 + g1) * g2 = 2 * (n1 * g2) + g1 * g2 := by rw [Nat.add_mul, Nat.mul_assoc]
    rw [e1, e2, ek, Nat.zero_mul]
    omega
  have q2 : 2 * n2 = 2 * (c2 * g2) + g2 := by
    refine Nat.eq_of_mul_eq_mul_right p1 ?_
    have e1 : 2 * n2 * g1 = 2 * (n2 * g1) := by rw [Nat.mul_assoc]
    have e2 : (2 * (c2 * g2) + g2) * g1 = 2 * (c2 * (g1 * g2)) + g1 * g2 := by rw [Nat.add_mul, Nat.mul_assoc, Nat.mul_assoc, Nat.mul_comm g2 g1]
    rw [e1, e2]
    omega
  have := t1 q1
  have := t2 q2
  omega
/-- The word nearest to 'm * 2 ^ t', in units of the least place. -/
def rn (m : Nat) (t : Int) : Nat :=
  min ((t + m.log2 - 52).toNat * B + Ieee.Toward.even.cut false (m <<< (t - ((t + m.log2 - 52).toNat : Int)).toNat) (((t + m.log2 - 52).toNat : Int) - t).toNat) infR
def nr (m : Nat) (t : Int) : Nat := if m = 0 then 0 else rn m t
theorem nearest_eq (m : Nat) (t : Int) : Ieee.double.nearest false m (-1074 + t) = nr m t := by
  have hb : Ieee.double.binade = B := by decide
  have hi : Ieee.double.infRung = infR := by decide
  have hl : Ieee.double.leastPlace = -1074 := by decide
  have hf : (Ieee.double.fractionBits : Int) = 52 := rfl
  unfold Ieee.Format.nearest nr
  by_cases h : m = 0
  · rw [if_pos h, if_pos h]; rfl
  · rw [if_neg h, if_neg h]
    simp only [hb, hi, hl, hf]
    unfold rn
    have e0 : (max (-1074 + t + (m.log2 : Int) - 52) (-1074) - -1074).toNat = (t + m.log2 - 52).toNat := by omega
    have e1 : (-1074 + t - max (-1074 + t + (m.log2 : Int) - 52) (-1074)).toNat = (t - ((t + m.log2 - 52).toNat : Int)).toNat := by omega
    have e2 : (max (-1074 + t + (m.log2 : Int) - 52) (-1074) - (-1074 + t)).toNat = (((t + m.log2 - 52).toNat : Int) - t).toNat := by omega
    rw [e0, e1, e2]
    unfold Ieee.Format.word
    rw [if_neg (by decide)]
theorem log2_mul_pow {m : Nat} (h : m ≠ 0) (k : Nat) : (m * 2 ^ k).log2 = m.log2 + k := by
  have hp := Nat.two_pow_pos k
  have h0 : m * 2 ^ k ≠ 0 := by
    intro e
    rcases Nat.mul_eq_zero.1 e with e | e
    · exact h e
    · omega
  have l1 := Nat.log2_self_le h
  have l2 : m < 2 ^ (m.log2 + 1) := Nat.lt_log2_self
  refine Nat.le_antisymm ?_ ?_
  · refine Nat.le_of_lt_succ ((Nat.log2_lt h0).2 ?_)
    rw [show (m.log2 + k).succ = m.log2 + 1 + k by omega, Nat.pow_add]
    exact Nat.mul_lt_mul_of_pos_right l2 hp
  · refine (Nat.le_log2 h0).2 ?_
    rw [Nat.pow_add]
    exact Nat.mul_le_mul_right _ l1
/-- What is rounded, in units of the last digit that is kept. -/
theorem scaled (m : Nat) (t : Int) (s : Int) (e : Nat) (h1 : s ≤ t) (h2 : s ≤ e) :
    (m <<< (t - (e : Int)).toNat) * 2 ^ ((e : Int) - s).toNat = m * 2 ^ (t - s).toNat * 2 ^ ((e : Int) - t).toNat := by
  rw [Nat.shiftLeft_eq, Nat.mul_assoc, Nat.mul_assoc, ← Nat.pow_add, ← Nat.pow_add]
  congr 2
  omega
theorem lower {m1 m2 : Nat} {t1 t2 s s' : Int} (h1 : s ≤ t1) (h2 : s ≤ t2) (hs : s' ≤ s) (h : m1 * 2 ^ (t1 - s).toNat ≤ m2 * 2 ^ (t2 - s).toNat) : m1 * 2 ^ (t1 - s').toNat ≤ m2 * 2 ^ (t2 - s').toNat := by
  have e1 : (t1 - s').toNat = (t1 - s).toNat + (s - s').toNat := by omega
  have e2 : (t2 - s').toNat = (t2 - s).toNat + (s - s').toNat := by omega
  rw [e1, e2, Nat.pow_add, Nat.pow_add, ← Nat.mul_assoc, ← Nat.mul_assoc]
  exact Nat.mul_le_mul_right _ h
theorem kept_lt {m : Nat} {t : Int} : m <<< (t - ((t + m.log2 - 52).toNat : Int)).toNat < 2 * B * 2 ^ (((t + m.log2 - 52).toNat : Int) - t).toNat := by
  have l2 : m < 2 ^ (m.log2 + 1) := Nat.lt_log2_self
  rw [Nat.shiftLeft_eq]
  have : m * 2 ^ (t - ((t + m.log2 - 52).toNat : Int)).toNat < 2 ^ (m.log2 + 1) * 2 ^ (t - ((t + m.log2 - 52).toNat : Int)).toNat := Nat.mul_lt_mul_of_pos_right l2 (Nat.two_pow_pos _)
  refine Nat.lt_of_lt_of_le this ?_
  rw [show 2 * B = 2 ^ 53 by decide, ← Nat.pow_add, ← Nat.pow_add]
  exact Nat.pow_le_pow_right (by decide) (by omega)
theorem kept_ge {m : Nat} {t : Int} (h0 : m ≠ 0) (h : 0 < (t + m.log2 - 52).toNat) : B * 2 ^ (((t + m.log2 - 52).toNat : Int) - t).toNat ≤ m <<< (t - ((t + m.log2 - 52).toNat : Int)).toNat := by
  have l1 := Nat.log2_self_le h0
  rw [Nat.shiftLeft_eq]
  have : 2 ^ m.log2 * 2 ^ (t - ((t + m.log2 - 52).toNat : Int)).toNat ≤ m * 2 ^ (t - ((t + m.log2 - 52).toNat : Int)).toNat := Nat.mul_le_mul_right _ l1
  refine Nat.le_trans ?_ this
  rw [show B = 2 ^ 52 by decide, ← Nat.pow_add, ← Nat.pow_add]
  exact Nat.pow_le_pow_right (by decide) (by omega)
theorem rn_core {n1 n2 c1 c2 e1 e2 d1 d2 M1 M2 : Nat} {K : Nat} (r1 : Rd n1 (2 ^ d1) c1) (r2 : Rd n2 (2 ^ d2) c2) (k1 : n1 < 2 * B * 2 ^ d1) (k2 : 0 < e2 → B * 2 ^ d2 ≤ n2) (he : e1 ≤ e2)
    (hh : e1 = e2 → n1 * 2 ^ K = M1 * 2 ^ d1 ∧ n2 * 2 ^ K = M2 * 2 ^ d2) (hM : M1 ≤ M2) : e1 * B + c1 ≤ e2 * B + c2 := by
  have g1 := Nat.two_pow_pos d1
  have g2 := Nat.two_pow_pos d2
  rcases Nat.lt_or_ge e1 e2 with hlt | hge
  · have b1 : c1 ≤ 2 * B := by
      refine Rd.mono r1 (⟨by omega, by omega, by omega, by omega⟩ : Rd (2 * B) 1 (2 * B)) g1 (by decide) ?_
      rw [Nat.mul_one]
      exact Nat.le_of_lt k1
    have b2 : B ≤ c2 := by
      refine Rd.mono (⟨by omega, by omega, by omega, by omega⟩ : Rd B 1 B) r2 (by decide) g2 ?_
      rw [Nat.mul_one]
      exact k2 (by omega)
    have := Nat.mul_le_mul_right B (show e1 + 1 ≤ e2 from hlt)
    rw [Nat.add_mul, Nat.one_mul] at this
    omega
  · have e : e1 = e2 := by omega
    obtain ⟨q1, q2⟩ := hh e
    rw [e]
    refine Nat.add_le_add_left (Rd.mono r1 r2 g1 g2 ?_) _
    refine Nat.le_of_mul_le_mul_right (c := 2 ^ K) ?_ (Nat.two_pow_pos _)
    rw [Nat.mul_right_comm, q1, Nat.mul_right_comm n2, q2, Nat.mul_right_comm M1]
    exact Nat.mul_le_mul_right _ (Nat.mul_le_mul_right _ hM)
theorem rn_mono {m1 m2 : Nat} {t1 t2 s : Int} (z1 : m1 ≠ 0) (z2 : m2 ≠ 0) (h1 : s ≤ t1) (h2 : s ≤ t2) (h : m1 * 2 ^ (t1 - s).toNat ≤ m2 * 2 ^ (t2 - s).toNat) : rn m1 t1 ≤ rn m2 t2 := by
  have hl : t1 + m1.log2 ≤ t2 + m2.log2 := by
    have hp1 := Nat.two_pow_pos (t1 - s).toNat
    have n1 : m1 * 2 ^ (t1 - s).toNat ≠ 0 := fun e => by
      rcases Nat.mul_eq_zero.1 e with e | e
      · exact z1 e
      · omega
    have n2 : m2 * 2 ^ (t2 - s).toNat ≠ 0 := by omega
    have := (Nat.le_log2 n2).2 (Nat.le_trans (Nat.log2_self_le n1) h)
    rw [log2_mul_pow z1, log2_mul_pow z2] at this
    omega
  have h' := lower h1 h2 (show min s 0 ≤ s by omega) h
  have sc1 := scaled m1 t1 (min s 0) (t1 + m1.log2 - 52).toNat (by omega) (by omega)
  have sc2 := scaled m2 t2 (min s 0) (t2 + m2.log2 - 52).toNat (by omega) (by omega)
  have main := rn_core (K := (((t1 + m1.log2 - 52).toNat : Int) - min s 0).toNat) (cut_rd _ _) (cut_rd _ _) (kept_lt (m := m1) (t := t1)) (kept_ge (m := m2) (t := t2) z2) (show (t1 + m1.log2 - 52).toNat ≤ (t2 + m2.log2 - 52).toNat by omega)
    (fun e => ⟨sc1, by rw [e]; exact sc2⟩) h'
  exact Nat.le_min.2 ⟨Nat.le_trans (Nat.min_le_left _ _) main, Nat.min_le_right _ _⟩
theorem nr_mono {m1 m2 : Nat} {t1 t2 : Int} (s : Int) (h1 : s ≤ t1) (h2 : s ≤ t2) (h : m1 * 2 ^ (t1 - s).toNat ≤ m2 * 2 ^ (t2 - s).toNat) : nr m1 t1 ≤ nr m2 t2 := by
  unfold nr
  by_cases z1 : m1 = 0
  · rw [if_pos z1]; omega
  · have z2 : m2 ≠ 0 := by
      rintro rfl
      rw [Nat.zero_mul] at h
      rcases Nat.mul_eq_zero.1 (Nat.le_zero.1 h) with e | e
      · exact z1 e
      · have := Nat.two_pow_pos (t1 - s).toNat; omega
    rw [if_neg z1, if_neg z2]
    exact rn_mono z1 z2 h1 h2 h
theorem nr_le (m : Nat) (t : Int) : nr m t ≤ infR := by
  unfold nr
  split
  · unfold infR; omega
  · exact Nat.min_le_right _ _
theorem nr_self {r : Nat} (h : r < infR) : nr (mag r) (ex r) = r := by
  unfold nr
  by_cases hr : r < B
  · have hm : mag r = r := if_pos hr
    have hx : ex r = 0 := by unfold ex; rw [Nat.div_eq_of_lt hr]
    rw [hm, hx]
    by_cases h0 : r = 0
    · rw [if_pos h0]; exact h0.symm
    · rw [if_neg h0]
      have hl : r.log2 ≤ 51 := Nat.le_of_lt_succ ((Nat.log2_lt h0).2 (by show r < 2 ^ 52; exact hr))
      unfold rn
      have e : ((0 : Nat) : Int) + (r.log2 : Int) - 52 ≤ 0 := by omega
      have e' : (((0 : Nat) : Int) + (r.log2 : Int) - 52).toNat = 0 := by omega
      rw [e']
      have rd := cut_rd (r <<< (((0 : Nat) : Int) - ((0 : Nat) : Int)).toNat) (((0 : Nat) : Int) - ((0 : Nat) : Int)).toNat
      generalize Ieee.Toward.even.cut false (r <<< (((0 : Nat) : Int) - ((0 : Nat) : Int)).toNat) (((0 : Nat) : Int) - ((0 : Nat) : Int)).toNat = c at *
      obtain ⟨a, b, _, _⟩ := rd
      simp only [Int.sub_self, Int.toNat_zero, Nat.pow_zero, Nat.mul_one, Nat.shiftLeft_zero] at a b
      have : c = r := by omega
      subst this
      rw [Nat.zero_mul, Nat.zero_add]
      exact Nat.min_eq_left (Nat.le_of_lt h)
  · have hm : mag r = B + r % B := if_neg hr
    have hlt := Nat.mod_lt r (show 0 < B by decide)
    have h0 : mag r ≠ 0 := by rw [hm]; unfold B; omega
    rw [if_neg h0]
    have hl : (mag r).log2 = 52 := by
      refine Nat.le_antisymm (Nat.le_of_lt_succ ((Nat.log2_lt h0).2 ?_)) ((Nat.le_log2 h0).2 ?_)
      · exact mag_lt r
      · exact mag_ge (by omega)
    unfold rn
    have e' : (((ex r : Nat) : Int) + ((mag r).log2 : Int) - 52).toNat = ex r := by rw [hl]; omega
    rw [e']
    have rd := cut_rd (mag r <<< (((ex r : Nat) : Int) - ((ex r : Nat) : Int)).toNat) (((ex r : Nat) : Int) - ((ex r : Nat) : Int)).toNat
    generalize Ieee.Toward.even.cut false (mag r <<< (((ex r : Nat) : Int) - ((ex r : Nat) : Int)).toNat) (((ex r : Nat) : Int) - ((ex r : Nat) : Int)).toNat = c at *
    obtain ⟨a, b, _, _⟩ := rd
    simp only [Int.sub_self, Int.toNat_zero, Nat.pow_zero, Nat.mul_one, Nat.shiftLeft_zero] at a b
    have hc : c = mag r := by omega
    rw [hc, hm]
    have hd : 1 ≤ r / B := by
      refine (Nat.le_div_iff_mul_le (by decide)).2 ?_
      omega
    have hdm := Nat.div_add_mod r B
    have : ex r * B + (B + r % B) = r := by
      have e1 : ex r + 1 = r / B := by unfold ex; omega
      have e2 : ex r * B + B = r / B * B := by rw [← e1, Nat.add_mul, Nat.one_mul]
      rw [← Nat.add_assoc, e2, Nat.mul_comm]
      exact hdm
    rw [this]
    exact Nat.min_eq_left (Nat.le_of_lt h)
/-! Sums and products. -/
theorem add_fin {x y : Nat} (hx : x < infR) (hy : y < infR) : ∃ S : Nat, floatBits .add .f64 x y = some (nr S (min (ex x) (ex y) : Nat)) ∧ S * 2 ^ min (ex x) (ex y) = uval x + uval y := by
  refine ⟨mag x * 2 ^ (ex x - min (ex x) (ex y)) + mag y * 2 ^ (ex y - min (ex x) (ex y)), ?_, ?_⟩
  · show Ieee.double.add x y = _
    unfold Ieee.Format.add
    rw [read_fin hx, read_fin hy]
    simp only [Ieee.Datum.sum]
    rw [signed_pos, signed_pos]
    have ha : (-1074 + (ex x : Int) - min (-1074 + (ex x : Int)) (-1074 + (ex y : Int))).toNat = ex x - min (ex x) (ex y) := by omega
    have hb : (-1074 + (ex y : Int) - min (-1074 + (ex x : Int)) (-1074 + (ex y : Int))).toNat = ex y - min (ex x) (ex y) := by omega
    have hmn : min (-1074 + (ex x : Int)) (-1074 + (ex y : Int)) = -1074 + ((min (ex x) (ex y) : Nat) : Int) := by omega
    rw [ha, hb, hmn]
    generalize mag x * 2 ^ (ex x - min (ex x) (ex y)) = a
    generalize mag y * 2 ^ (ex y - min (ex x) (ex y)) = b
    simp only [Option.map_some, Option.some.injEq, Ieee.Format.write]
    have hneg : (if ((a : Int) + (b : Int)) = 0 then (false && false) else decide (((a : Int) + (b : Int)) < 0)) = false := by
      split
      · rfl
      · exact decide_eq_false (by omega)
    rw [hneg, show ((a : Int) + (b : Int)).natAbs = a + b by omega]
    exact nearest_eq _ _
  · rw [Nat.add_mul, Nat.mul_assoc, Nat.mul_assoc, ← Nat.pow_add, ← Nat.pow_add, Nat.sub_add_cancel (Nat.min_le_left _ _), Nat.sub_add_cancel (Nat.min_le_right _ _)]
    rfl
def fadd (x y : Nat) : Nat := fVal .add .f64 x y
def fmul (x y : Nat) : Nat := fVal .mul .f64 x y
def fhalf (x : Nat) : Nat := fVal .quo .f64 x 4611686018427387904
theorem add_ok {x y : Nat} (hx : x < infR) (hy : y < infR) : fOk .add .f64 x y = true := by
  obtain ⟨S, h, _⟩ := add_fin hx hy
  unfold fOk; rw [h]; rfl
theorem add_mono {x y x' y' : Nat} (hx : x ≤ x') (hy : y ≤ y') (hx' : x' < infR) (hy' : y' < infR) : fadd x y ≤ fadd x' y' := by
  obtain ⟨S, h, e⟩ := add_fin (Nat.lt_of_le_of_lt hx hx') (Nat.lt_of_le_of_lt hy hy')
  obtain ⟨S', h', e'⟩ := add_fin hx' hy'
  unfold fadd fVal
  rw [h, h']
  refine nr_mono 0 (by omega) (by omega) ?_
  simp only [Int.sub_zero, Int.toNat_natCast]
  rw [e, e']
  exact Nat.add_le_add (uval_le hx) (uval_le hy)
theorem add_zero {x : Nat} (hx : x < infR) : fadd x 0 = x := by
  obtain ⟨S, h, e⟩ := add_fin hx (show 0 < infR by decide)
  unfold fadd fVal
  rw [h]
  have u0 : uval 0 = 0 := by decide
  rw [u0, Nat.add_zero] at e
  have k := nr_self hx
  show nr S _ = x
  refine Nat.le_antisymm ?_ ?_
  · conv => rhs; rw [← k]
    refine nr_mono 0 (by omega) (by omega) ?_
    simp only [Int.sub_zero, Int.toNat_natCast]
    rw [e]; exact Nat.le_refl _
  · conv => lhs; rw [← k]
    refine nr_mono 0 (by omega) (by omega) ?_
    simp only [Int.sub_zero, Int.toNat_natCast]
    rw [e]; exact Nat.le_refl _
theorem add_comm (x y : Nat) (hx : x < infR) (hy : y < infR) : fadd x y = fadd y x := by
  obtain ⟨S, h, e⟩ := add_fin hx hy
  obtain ⟨S', h', e'⟩ := add_fin hy hx
  unfold fadd fVal
  rw [h, h']
  show nr S _ = nr S' _
  rw [Nat.min_comm] at e'
  have : S = S' := Nat.eq_of_mul_eq_mul_right (Nat.two_pow_pos _) (e.trans ((Nat.add_comm _ _).trans e'.symm))
  rw [this, Nat.min_comm]
theorem mul_fin {x y : Nat} (hx : x < infR) (hy : y < infR) : floatBits .mul .f64 x y = some (nr (mag x * mag y) (ex x + ex y - 1074 : Int)) := by
  show Ieee.double.mul x y = _
  unfold Ieee.Format.mul
  rw [read_fin hx, read_fin hy]
  simp only [Ieee.Datum.product, Option.map_some, Option.some.injEq, Ieee.Format.write]
  rw [show -1074 + (ex x : Int) + (-1074 + (ex y : Int)) = -1074 + ((ex x : Int) + ex y - 1074) by omega]
  exact nearest_eq _ _
theorem mul_ok {x y : Nat} (hx : x < infR) (hy : y < infR) : fOk .mul .f64 x y = true := by
  unfold fOk; rw [mul_fin hx hy]; rfl
theorem mul_mono {x y x' y' : Nat} (hx : x ≤ x') (hy : y ≤ y') (hx' : x' < infR) (hy' : y' < infR) : fmul x y ≤ fmul x' y' := by
  unfold fmul fVal
  rw [mul_fin (Nat.lt_of_le_of_lt hx hx') (Nat.lt_of_le_of_lt hy hy'), mul_fin hx' hy']
  refine nr_mono (-1074) (by omega) (by omega) ?_
  have e1 : ((ex x : Int) + (ex y : Int) - 1074 - -1074).toNat = ex x + ex y := by omega
  have e2 : ((ex x' : Int) + (ex y' : Int) - 1074 - -1074).toNat = ex x' + ex y' := by omega
  rw [e1, e2]
  have sp : ∀ a b : Nat, mag a * mag b * 2 ^ (ex a + ex b) = uval a * uval b := by
    intro a b
    unfold uval
    rw [Nat.pow_add]
    simp only [Nat.mul_comm, Nat.mul_left_comm, Nat.mul_assoc]
  rw [sp, sp]
  exact Nat.mul_le_mul (uval_le hx) (uval_le hy)
theorem fadd_le (x y : Nat) (hx : x < infR) (hy : y < infR) : fadd x y ≤ infR := by
  obtain ⟨S, h, e⟩ := add_fin hx hy
  unfold fadd fVal
  rw [h]; exact nr_le _ _
theorem add_le_left {x y : Nat} (hx : x < infR) (hy : y < infR) : x ≤ fadd x y := by
  have := add_mono (Nat.le_refl x) (Nat.zero_le y) hx hy
  rwa [add_zero hx] at this
theorem add_le_right {x y : Nat} (hx : x < infR) (hy : y < infR) : y ≤ fadd x y := by
  rw [add_comm x y hx hy]; exact add_le_left hy hx
/-! Half. -/
theorem toN1 (a : Nat) : ((a : Int) - 4 - -4).toNat = a := by omega
theorem toN2 (a : Nat) : ((a : Int) - -4).toNat = a + 4 := by omega
theorem toL1 (a : Nat) : (-4 : Int) ≤ (a : Int) - 4 := by omega
theorem toL2 (a : Nat) : (-4 : Int) ≤ (a : Int) := by omega
theorem halfpow (m E : Nat) : 2 * (4 * m) * 2 ^ (E + 1) = m * 2 ^ (E + 4) := by
  rw [Nat.pow_succ, Nat.pow_add, show (2 : Nat) ^ 4 = 16 from rfl]
  generalize 2 ^ E = q
  rw [← Nat.mul_assoc 2 4 m, Nat.mul_comm (2 * 4) m, Nat.mul_assoc, Nat.mul_comm q 2, ← Nat.mul_assoc (2 * 4), Nat.mul_comm (2 * 4 * 2) q]
theorem half_fin {x : Nat} (h2 : 2 * B ≤ x) (hx : x < infR) : floatBits .quo .f64 x 4611686018427387904 = some (x - B) := by
  show Ieee.double.div x 4611686018427387904 = _
  unfold Ieee.Format.div
  have r2 : Ieee.double.read 4611686018427387904 = .number false B (-51) := by decide
  rw [read_fin hx, r2]
  have hm : mag x = B + x % B := if_neg (by unfold B at *; omega)
  have hlt := Nat.mod_lt x (show 0 < B by decide)
  have hB : B ≠ 0 := by decide
  have h0 : mag x ≠ 0 := by rw [hm]; unfold B; omega
  have hl : (mag x).log2 = 52 := by
    refine Nat.le_antisymm (Nat.le_of_lt_succ ((Nat.log2_lt h0).2 (mag_lt x))) ((Nat.le_log2 h0).2 (mag_ge (by unfold B at *; omega)))
  have hBl : B.log2 = 52 := by decide
  simp only [Ieee.Datum.quotient]
  rw [if_neg hB, hl, hBl]
  have hf : Ieee.double.fractionBits + 2 + 52 - 52 = 54 := by decide
  rw [hf, Nat.shiftLeft_eq]
  have hdv : mag x * 2 ^ 54 = B * (4 * mag x) := by
    rw [show (2 : Nat) ^ 54 = B * 4 by decide, Nat.mul_comm, Nat.mul_assoc]
  rw [hdv, Nat.mul_div_cancel_left _ (by decide), Nat.mul_mod_right]
  simp only [Option.map_some, Option.some.injEq, Ieee.Format.write, Bool.xor_false, bne_self_eq_false, Bool.toNat_false, Nat.add_zero]
  have hxx : x - B < infR := by omega
  have hd : 2 ≤ x / B := (Nat.le_div_iff_mul_le (by decide)).2 h2
  have hexm : ex (x - B) + 1 = ex x := by
    unfold ex
    have : (x - B) / B = x / B - 1 := by
      have := Nat.sub_mul_div x B 1
      rw [Nat.mul_one] at this
      exact this
    omega
  have hmm : mag (x - B) = mag x := by
    unfold mag
    rw [if_neg (by unfold B at *; omega), if_neg (by unfold B at *; omega)]
    have := Nat.sub_mul_mod (x := x) (n := B) (k := 1) (by unfold B at *; omega)
    rw [Nat.mul_one] at this
    rw [this]
  have k := nr_self hxx
  rw [hmm] at k
  have hq : 2 * (4 * mag x) = mag x * 8 := by omega
  have e : -1074 + (ex x : Int) - -51 - ((54 : Nat) : Int) - 1 = -1074 + ((ex x : Int) - 4) := by omega
  rw [e, nearest_eq]
  conv => rhs; rw [← k]
  refine Nat.le_antisymm ?_ ?_
  · refine nr_mono (-4) (toL1 _) (toL2 _) ?_
    rw [toN1, toN2, ← hexm]
    exact Nat.le_of_eq (halfpow _ _)
  · refine nr_mono (-4) (toL2 _) (toL1 _) ?_
    rw [toN1, toN2, ← hexm]
    exact Nat.le_of_eq (halfpow _ _).symm
theorem half_ok {x : Nat} (h2 : 2 * B ≤ x) (hx : x < infR) : fOk .quo .f64 x 4611686018427387904 = true ∧ fhalf x = x - B := by
  unfold fOk fhalf fVal
  rw [half_fin h2 hx]; exact ⟨Option.isSome_some, Option.getD_some⟩
theorem half_zero_fin : floatBits .quo .f64 0 4611686018427387904 = some 0 := by
  show Ieee.double.div 0 4611686018427387904 = _
  unfold Ieee.Format.div
  have r2 : Ieee.double.read 4611686018427387904 = .number false B (-51) := by decide
  rw [read_fin (show 0 < infR by decide), r2]
  have hB : B ≠ 0 := by decide
  have hm : mag 0 = 0 := by decide
  simp only [Ieee.Datum.quotient]
  rw [if_neg hB, hm]
  simp only [Nat.zero_shiftLeft, Nat.zero_div, Nat.zero_mod, Option.map_some, Ieee.Format.write, Bool.xor_false, bne_self_eq_false, Bool.toNat_false, Nat.add_zero, Nat.mul_zero]
  rfl
theorem half_zero : fOk .quo .f64 0 4611686018427387904 = true ∧ fhalf 0 = 0 := by
  unfold fOk fhalf fVal
  rw [half_zero_fin]; exact ⟨rfl, rfl⟩
/-! Comparing. -/
theorem cmp_lss {x y : Nat} (hx : x < infR) (hy : y < infR) : fCmp .lss .f64 x y = decide (x < y) := by
  unfold fCmp
  simp only
  rw [show FloatKind.f64.format = Ieee.double from rfl, ord hx hy]
  rcases Nat.lt_trichotomy x y with h | h | h
  · rw [Nat.compare_eq_lt.2 h, decide_eq_true h]; rfl
  · rw [Nat.compare_eq_eq.2 h, decide_eq_false (by omega)]; rfl
  · rw [Nat.compare_eq_gt.2 h, decide_eq_false (by omega)]; rfl
theorem cmp_leq {x y : Nat} (hx : x < infR) (hy : y < infR) : fCmp .leq .f64 x y = decide (x ≤ y) := by
  unfold fCmp
  simp only
  rw [show FloatKind.f64.format = Ieee.double from rfl, ord hx hy]
  rcases Nat.lt_trichotomy x y with h | h | h
  · rw [Nat.compare_eq_lt.2 h, decide_eq_true (by omega)]; rfl
  · rw [Nat.compare_eq_eq.2 h, decide_eq_true (by omega)]; rfl
  · rw [Nat.compare_eq_gt.2 h, decide_eq_false (by omega)]; rfl
theorem cmp_gtr {x y : Nat} (hx : x < infR) (hy : y < infR) : fCmp .gtr .f64 x y = decide (y < x) := by
  unfold fCmp
  simp only
  rw [show FloatKind.f64.format = Ieee.double from rfl, ord hx hy]
  rcases Nat.lt_trichotomy x y with h | h | h
  · rw [Nat.compare_eq_lt.2 h, decide_eq_false (by omega)]; rfl
  · rw [Nat.compare_eq_eq.2 h, decide_eq_false (by omega)]; rfl
  · rw [Nat.compare_eq_gt.2 h, decide_eq_true (by omega)]; rfl
theorem cmp_geq {x y : Nat} (hx : x < infR) (hy : y < infR) : fCmp .geq .f64 x y = decide (y ≤ x) := by
  unfold fCmp
  simp only
  rw [show FloatKind.f64.format = Ieee.double from rfl, ord hx hy]
  rcases Nat.lt_trichotomy x y with h | h | h
  · rw [Nat.compare_eq_lt.2 h, decide_eq_false (by omega)]; rfl
  · rw [Nat.compare_eq_eq.2 h, decide_eq_true (by omega)]; rfl
  · rw [Nat.compare_eq_gt.2 h, decide_eq_true (by omega)]; rfl
theorem cmp_eql {x y : Nat} (hx : x < infR) (hy : y < infR) : fCmp .eql .f64 x y = decide (x = y) := by
  unfold fCmp
  simp only
  rw [show FloatKind.f64.format = Ieee.double from rfl, ord hx hy]
  rcases Nat.lt_trichotomy x y with h | h | h
  · rw [Nat.compare_eq_lt.2 h, decide_eq_false (by omega)]; rfl
  · rw [Nat.compare_eq_eq.2 h, decide_eq_true (by omega)]; rfl
  · rw [Nat.compare_eq_gt.2 h, decide_eq_false (by omega)]; rfl
theorem cmp_neq {x y : Nat} (hx : x < infR) (hy : y < infR) : fCmp .neq .f64 x y = !decide (x = y) := by
  rw [← cmp_eql hx hy]
  rfl
theorem feq {x y : Nat} (hx : x < infR) (hy : y < infR) : Op.floatEq .f64 x y = decide (x = y) := cmp_eql hx hy
theorem neg_fin {x : Nat} (hx : x < infR) : (FloatKind.f64.decode x).neg = false := by
  show (Ieee.double.read x).neg = false
  rw [read_fin hx]; rfl
theorem min_fin {x y : Nat} (hx : x < infR) (hy : y < infR) : fMinOk .f64 x y = true ∧ fMin .f64 x y = min x y := by
  unfold fMinOk fMin
  rw [show FloatKind.f64.format = Ieee.double from rfl, ord hx hy]
  refine ⟨rfl, ?_⟩
  rcases Nat.lt_trichotomy x y with h | h | h
  · rw [Nat.compare_eq_lt.2 h]; simp only; omega
  · rw [Nat.compare_eq_eq.2 h, neg_fin hx]; simp only [Bool.false_eq_true, if_false]; omega
  · rw [Nat.compare_eq_gt.2 h]; simp only; omega
end Go.Proofs.Ytglbcjmebjeokaa.FL

/- Chapter 20: what each function comes to, in plain numbers. -/
namespace Go.Proofs.Ytglbcjmebjeokaa.PB
open Go Go.Proofs Go.Proofs.Ytglbcjmebjeokaa.Sx Go.Proofs.Ytglbcjmebjeokaa.FL
set_option linter.unusedSimpArgs false
set_option linter.unusedVariables false
def okp (x : Nat) : Prop := x = 0 ∨ (4607182418800017408 ≤ x ∧ x ≤ 4791830003522207744)
def okw (x : Nat) : Prop := x = 0 ∨ (4607182418800017408 ≤ x ∧ x ≤ 4787326403894837248)
theorem okw.p {x : Nat} (h : okw x) : okp x := by
  rcases h with h | h
  · exact .inl h
  · exact .inr ⟨h.1, by omega⟩
theorem okp.le {x : Nat} (h : okp x) : x ≤ 4791830003522207744 := by rcases h with h | h <;> omega
theorem okw.le {x : Nat} (h : okw x) : x ≤ 4787326403894837248 := by rcases h with h | h <;> omega
theorem fin_of {x : Nat} (h : x ≤ 4791830003522207744) : x < infR := by unfold infR; omega
/-! A binade less; half, cut at 1; n times: by what they are, not by how they are told (so that nobody counts down from a great number). -/
theorem ex_mns : ∃ f : Nat → Nat, ∀ x, f x = x - 4503599627370496 := ⟨fun x => x - 4503599627370496, fun _ => rfl⟩
noncomputable def mns : Nat → Nat := Classical.choose ex_mns
theorem mns_eq (x : Nat) : mns x = x - 4503599627370496 := Classical.choose_spec ex_mns x
theorem ex_ge1 : ∃ f : Nat → Bool, ∀ x, f x = decide (4607182418800017408 ≤ x) := ⟨fun x => decide (4607182418800017408 ≤ x), fun _ => rfl⟩
noncomputable def ge1 : Nat → Bool := Classical.choose ex_ge1
theorem ge1_eq (x : Nat) : ge1 x = decide (4607182418800017408 ≤ x) := Classical.choose_spec ex_ge1 x
theorem ge1_t {x : Nat} (h : ge1 x = true) : 4607182418800017408 ≤ x := by rw [ge1_eq] at h; exact of_decide_eq_true h
theorem ge1_f {x : Nat} (h : ge1 x = false) : ¬ 4607182418800017408 ≤ x := by rw [ge1_eq] at h; exact of_decide_eq_false h
theorem ex_hfn : ∃ f : Nat → Nat → Nat, ∀ n x, (4607182418800017408 + n * 4503599627370496 ≤ x ∧ f n x + n * 4503599627370496 = x) ∨ (¬ 4607182418800017408 + n * 4503599627370496 ≤ x ∧ f n x = 0) := by
  have h : ∀ n x : Nat, ∃ y : Nat, (4607182418800017408 + n * 4503599627370496 ≤ x ∧ y + n * 4503599627370496 = x) ∨ (¬ 4607182418800017408 + n * 4503599627370496 ≤ x ∧ y = 0) := by
    intro n x
    generalize hk : n * 4503599627370496 = k
    by_cases h : 4607182418800017408 + k ≤ x
    · exact ⟨x - k, .inl ⟨h, by omega⟩⟩
    · exact ⟨0, .inr ⟨h, rfl⟩⟩
  exact ⟨fun n x => Classical.choose (h n x), fun n x => Classical.choose_spec (h n x)⟩
noncomputable def hfn : Nat → Nat → Nat := Classical.choose ex_hfn
theorem hfn_eq (n x : Nat) : (4607182418800017408 + n * 4503599627370496 ≤ x ∧ hfn n x + n * 4503599627370496 = x) ∨ (¬ 4607182418800017408 + n * 4503599627370496 ≤ x ∧ hfn n x = 0) := Classical.choose_spec ex_hfn n x
noncomputable def hf (x : Nat) : Nat := hfn 1 x
theorem hf_eq (x : Nat) : (4607182418800017408 + 4503599627370496 ≤ x ∧ hf x + 4503599627370496 = x) ∨ (¬ 4607182418800017408 + 4503599627370496 ≤ x ∧ hf x = 0) := by
  have := hfn_eq 1 x
  rw [Nat.one_mul] at this
  exact this
theorem hf_ge (x : Nat) : (ge1 (mns x) = true ∧ hf x = mns x) ∨ (ge1 (mns x) = false ∧ hf x = 0) := by
  cases h : ge1 (mns x) with
  | true =>
    have := ge1_t h
    rw [mns_eq] at this
    rw [mns_eq]
    rcases hf_eq x with ⟨h1, h2⟩ | ⟨h1, h2⟩
    · exact .inl ⟨rfl, by omega⟩
    · omega
  | false =>
    have := ge1_f h
    rw [mns_eq] at this
    rcases hf_eq x with ⟨h1, h2⟩ | ⟨h1, h2⟩
    · omega
    · exact .inr ⟨rfl, h2⟩
theorem hf_hfn (n x : Nat) : hf (hfn n x) = hfn (n + 1) x := by
  rcases hfn_eq n x with ⟨h1, h2⟩ | ⟨h1, h2⟩ <;> rcases hfn_eq (n + 1) x with ⟨h3, h4⟩ | ⟨h3, h4⟩ <;> rcases hf_eq (hfn n x) with ⟨h5, h6⟩ | ⟨h5, h6⟩ <;> omega
theorem hfn_hf (n x : Nat) : hfn n (hf x) = hfn (n + 1) x := by
  rcases hf_eq x with ⟨h1, h2⟩ | ⟨h1, h2⟩ <;> rcases hfn_eq (n + 1) x with ⟨h3, h4⟩ | ⟨h3, h4⟩ <;> rcases hfn_eq n (hf x) with ⟨h5, h6⟩ | ⟨h5, h6⟩ <;> omega
theorem hfn_zero {x : Nat} (h : okp x) : hfn 0 x = x := by
  rcases hfn_eq 0 x with ⟨h1, h2⟩ | ⟨h1, h2⟩ <;> rcases h with h | h <;> omega
theorem hfn_add (n m x : Nat) : hfn n (hfn m x) = hfn (n + m) x := by
  rcases hfn_eq m x with ⟨h1, h2⟩ | ⟨h1, h2⟩ <;> rcases hfn_eq (n + m) x with ⟨h3, h4⟩ | ⟨h3, h4⟩ <;> rcases hfn_eq n (hfn m x) with ⟨h5, h6⟩ | ⟨h5, h6⟩ <;> omega
theorem hfn_le (n x : Nat) : hfn n x ≤ x := by rcases hfn_eq n x with ⟨h1, h2⟩ | ⟨h1, h2⟩ <;> omega
theorem hfn_okw {n x : Nat} (h : okw x) : okw (hfn n x) := by
  rcases hfn_eq n x with ⟨h1, h2⟩ | ⟨h1, h2⟩ <;> unfold okw at * <;> omega
theorem hfn_okp {n x : Nat} (h : okp x) : okp (hfn n x) := by
  rcases hfn_eq n x with ⟨h1, h2⟩ | ⟨h1, h2⟩ <;> unfold okp at * <;> omega
theorem hfn_cap {n x : Nat} (h : x ≤ 4791830003522207744) (hn : 42 ≤ n) : hfn n x = 0 := by
  rcases hfn_eq n x with ⟨h1, h2⟩ | ⟨h1, h2⟩ <;> omega
theorem hfn_mono {n x y : Nat} (h : x ≤ y) : hfn n x ≤ hfn n y := by
  rcases hfn_eq n x with ⟨h1, h2⟩ | ⟨h1, h2⟩ <;> rcases hfn_eq n y with ⟨h3, h4⟩ | ⟨h3, h4⟩ <;> omega
theorem hfn_anti {n m x : Nat} (h : n ≤ m) : hfn m x ≤ hfn n x := by
  rcases hfn_eq n x with ⟨h1, h2⟩ | ⟨h1, h2⟩ <;> rcases hfn_eq m x with ⟨h3, h4⟩ | ⟨h3, h4⟩ <;> omega
theorem hf_is (x : Nat) : hf x = hfn 1 x := rfl
theorem hstep {x : Nat} (h : okp x) : fOk .quo .f64 x 4611686018427387904 = true ∧ fVal .quo .f64 x 4611686018427387904 = mns x ∧ fCmp .geq .f64 (mns x) 4607182418800017408 = ge1 (mns x) := by
  have hx := fin_of h.le
  have hc : fCmp .geq .f64 (mns x) 4607182418800017408 = ge1 (mns x) := by
    rw [ge1_eq]
    exact cmp_geq (by rw [mns_eq]; omega) (by unfold infR; omega)
  rcases h with h | h
  · subst h
    refine ⟨half_zero.1, ?_, hc⟩
    rw [mns_eq, Nat.zero_sub]
    exact half_zero.2
  · obtain ⟨h1, h2⟩ := half_ok (x := x) (by unfold B; omega) hx
    refine ⟨h1, ?_, hc⟩
    rw [mns_eq]; exact h2
theorem halved {a b : Nat} (ha : okp a) (hb : okp b) : F33.f (a, b) = some ((hf a, hf b), ()) := by
  obtain ⟨a1, a2, a3⟩ := hstep ha
  obtain ⟨b1, b2, b3⟩ := hstep hb
  show F33.fP (a, b) = _
  unfold F33.fP
  simp only [a1, b1, a2, b2, a3, b3, cond_true]
  rcases hf_ge a with ⟨h1, h2⟩ | ⟨h1, h2⟩ <;> rcases hf_ge b with ⟨h3, h4⟩ | ⟨h3, h4⟩ <;> rw [h1, h2, h3, h4] <;> rfl
/-- A part that may be. -/
theorem ex_pt : ∃ f : Nat → Nat, ∀ x, (¬ 4607182418800017408 ≤ x ∧ f x = 0) ∨ (4607182418800017408 ≤ x ∧ ¬ 4787326403894837248 < x ∧ f x = x) ∨ (4787326403894837248 < x ∧ f x = 4787326403894837248) := by
  have h : ∀ x : Nat, ∃ y : Nat, (¬ 4607182418800017408 ≤ x ∧ y = 0) ∨ (4607182418800017408 ≤ x ∧ ¬ 4787326403894837248 < x ∧ y = x) ∨ (4787326403894837248 < x ∧ y = 4787326403894837248) := by
    intro x
    by_cases h : 4607182418800017408 ≤ x
    · by_cases h2 : 4787326403894837248 < x
      · exact ⟨4787326403894837248, .inr (.inr ⟨h2, rfl⟩)⟩
      · exact ⟨x, .inr (.inl ⟨h, h2, rfl⟩)⟩
    · exact ⟨0, .inl ⟨h, rfl⟩⟩
  exact ⟨fun x => Classical.choose (h x), fun x => Classical.choose_spec (h x)⟩
noncomputable def pt : Nat → Nat := Classical.choose ex_pt
theorem pt_eq (x : Nat) : (¬ 4607182418800017408 ≤ x ∧ pt x = 0) ∨ (4607182418800017408 ≤ x ∧ ¬ 4787326403894837248 < x ∧ pt x = x) ∨ (4787326403894837248 < x ∧ pt x = 4787326403894837248) := Classical.choose_spec ex_pt x
theorem pt_okw {x : Nat} (h : okw x) : pt x = x := by
  rcases pt_eq x with ⟨h1, h2⟩ | ⟨h1, h2, h3⟩ | ⟨h1, h2⟩ <;> rcases h with h | h <;> omega
theorem part {x : Nat} (hx : x < infR) : F35.f x = some (pt x, ()) := by
  show F35.fP x = _
  unfold F35.fP
  simp only [cmp_geq hx (show 4607182418800017408 < infR by unfold infR; omega), cmp_gtr hx (show 4787326403894837248 < infR by unfold infR; omega)]
  rcases pt_eq x with ⟨h1, h2⟩ | ⟨h1, h2, h3⟩ | ⟨h1, h2⟩
  · rw [decide_eq_false h1, h2]; rfl
  · rw [decide_eq_true h1, decide_eq_false h2, h3]; rfl
  · rw [decide_eq_true (show 4607182418800017408 ≤ x by omega), decide_eq_true h1, h2]; rfl
theorem pt_hf {x : Nat} (h : okp x) : pt (mns x) = hf x := by
  have := h.le
  have e := mns_eq x
  rcases pt_eq (mns x) with ⟨h1, h2⟩ | ⟨h1, h2, h3⟩ | ⟨h1, h2⟩ <;> rcases hf_eq x with ⟨h4, h5⟩ | ⟨h4, h5⟩ <;> omega
theorem halfR {a b : Nat} {t : Int} {h : Bool} (ha : okp a) (hb : okp b) : F25.f (a, b, t, h) = some ((hf a, hf b, t, h), ()) := by
  obtain ⟨a1, a2, a3⟩ := hstep ha
  obtain ⟨b1, b2, b3⟩ := hstep hb
  show F25.fP F35.f (a, b, t, h) = _
  unfold F25.fP
  have pa : F35.f (mns a) = some (hf a, ()) := by
    rw [part (by rw [mns_eq]; have := fin_of ha.le; omega), pt_hf ha]
  have pb : F35.f (mns b) = some (hf b, ()) := by
    rw [part (by rw [mns_eq]; have := fin_of hb.le; omega), pt_hf hb]
  simp only [a1, b1, a2, b2, pa, pb, cond_true, Option.bind_some]
/-- A tick that may be. -/
def cl (t : Int) : Int := if t < 0 then 0 else if t > 1099511627776 then 1099511627776 else t
theorem cl_id {t : Int} (h0 : 0 ≤ t) (h1 : t ≤ 1099511627776) : cl t = t := by
  unfold cl
  rw [if_neg (by omega), if_neg (by omega)]
theorem clean {a b : Nat} {t : Int} {h : Bool} (ha : a < infR) (hb : b < infR) : F32.f ((a, b), t, h) = some (((pt a, pt b), cl t, h), ()) := by
  show F32.fP ((a, b), t, h) = _
  unfold F32.fP
  have e : (if (if 1099511627776 < t then 1099511627776 else t) > 0 then if 1099511627776 < t then 1099511627776 else t else 0) = cl t := by
    unfold cl
    repeat' split
    all_goals omega
  have m : ∀ {x : Nat}, x < infR → 4607182418800017408 ≤ x → fMin .f64 x 4787326403894837248 = pt x := by
    intro x hx h1
    rw [(min_fin hx (show 4787326403894837248 < infR by unfold infR; omega)).2]
    rcases pt_eq x with ⟨h1, h2⟩ | ⟨h1, h2, h3⟩ | ⟨h1, h2⟩ <;> omega
  have z : ∀ {x : Nat}, ¬ 4607182418800017408 ≤ x → pt x = 0 := by
    intro x h1
    rcases pt_eq x with ⟨h1, h2⟩ | ⟨h1, h2, h3⟩ | ⟨h1, h2⟩ <;> omega
  have one : 4607182418800017408 < infR := by unfold infR; omega
  have wid : 4787326403894837248 < infR := by unfold infR; omega
  simp only [cmp_geq ha one, cmp_geq hb one, (min_fin ha wid).1, (min_fin hb wid).1, cond_true, e]
  by_cases h1 : 4607182418800017408 ≤ a
  · by_cases h2 : 4607182418800017408 ≤ b
    · rw [decide_eq_true h1, decide_eq_true h2, m ha h1, m hb h2]; rfl
    · rw [decide_eq_true h1, decide_eq_false h2, m ha h1, z h2]; rfl
  · by_cases h2 : 4607182418800017408 ≤ b
    · rw [decide_eq_false h1, decide_eq_true h2, z h1, m hb h2]; rfl
    · rw [decide_eq_false h1, decide_eq_false h2, z h1, z h2]; rfl
theorem cleanR {a b : Nat} {t : Int} {h : Bool} (ha : a < infR) (hb : b < infR) : F34.f (a, b, t, h) = some ((pt a, pt b, cl t, h), ()) := by
  show F34.fP F35.f (a, b, t, h) = _
  unfold F34.fP cl
  simp only [part ha, part hb, Option.bind_some]
  by_cases h1 : t < 0
  · rw [decide_eq_true h1, if_pos h1]; rfl
  · by_cases h2 : t > 1099511627776
    · rw [decide_eq_false h1, decide_eq_true h2, if_neg h1, if_pos h2]; rfl
    · rw [decide_eq_false h1, decide_eq_false h2, if_neg h1, if_neg h2]; rfl
/-! Squares. -/
def sq (a b : Nat) : Nat := fadd (fmul a a) (fmul b b)
theorem mul_top : fmul 4791830003522207744 4791830003522207744 = 4976477588244398080 := by decide
theorem add_top : fadd 4976477588244398080 4976477588244398080 = 4980981187871768576 := by decide
theorem mul_wid : fmul 4787326403894837248 4787326403894837248 = 4967470388989657088 := by decide
theorem mul_c20 : fmul 4697254411347427328 4697254411347427328 = 4787326403894837248 := by decide
theorem mul_one : fmul 4607182418800017408 4607182418800017408 = 4607182418800017408 := by decide
theorem mulBig {a b : Nat} (ha : a ≤ 4791830003522207744) (hb : b ≤ 4791830003522207744) : fmul a b ≤ 4976477588244398080 := by
  have := mul_mono ha hb (fin_of (Nat.le_refl _)) (fin_of (Nat.le_refl _))
  rwa [mul_top] at this
theorem mulFin {a b : Nat} (ha : a ≤ 4791830003522207744) (hb : b ≤ 4791830003522207744) : fmul a b < infR := Nat.lt_of_le_of_lt (mulBig ha hb) (by unfold infR; omega)
theorem sqBig {a b : Nat} (ha : a ≤ 4791830003522207744) (hb : b ≤ 4791830003522207744) : sq a b ≤ 4980981187871768576 := by
  have := add_mono (mulBig ha ha) (mulBig hb hb) (show 4976477588244398080 < infR by unfold infR; omega) (show 4976477588244398080 < infR by unfold infR; omega)
  rwa [add_top] at this
theorem sqFin {a b : Nat} (ha : a ≤ 4791830003522207744) (hb : b ≤ 4791830003522207744) : sq a b < infR := Nat.lt_of_le_of_lt (sqBig ha hb) (by unfold infR; omega)
theorem sq_mono {a b c d : Nat} (h1 : a ≤ c) (h2 : b ≤ d) (hc : c ≤ 4791830003522207744) (hd : d ≤ 4791830003522207744) : sq a b ≤ sq c d :=
  add_mono (mul_mono h1 h1 (fin_of hc) (fin_of hc)) (mul_mono h2 h2 (fin_of hd) (fin_of hd)) (mulFin hc hc) (mulFin hd hd)
theorem square {a b : Nat} (ha : a ≤ 4791830003522207744) (hb : b ≤ 4791830003522207744) : F31.f (a, b) = some (sq a b, ()) := by
  show F31.fP (a, b) = _
  unfold F31.fP
  have h3 : fOk .add .f64 (fVal .mul .f64 a a) (fVal .mul .f64 b b) = true := add_ok (mulFin ha ha) (mulFin hb hb)
  simp only [mul_ok (fin_of ha) (fin_of ha), mul_ok (fin_of hb) (fin_of hb), h3, cond_true]
  rfl
theorem pt_top (x : Nat) : pt x ≤ 4791830003522207744 := by rcases pt_eq x with ⟨h1, h2⟩ | ⟨h1, h2, h3⟩ | ⟨h1, h2⟩ <;> omega
theorem squareR {a b : Nat} {t : Int} {h : Bool} (ha : a < infR) (hb : b < infR) : F24.f (a, b, t, h) = some (sq (pt a) (pt b), ()) := by
  show F24.fP F34.f (a, b, t, h) = _
  unfold F24.fP
  simp only [cleanR ha hb, Option.bind_some]
  have ha := pt_top a
  have hb := pt_top b
  have h3 : fOk .add .f64 (fVal .mul .f64 (pt a) (pt a)) (fVal .mul .f64 (pt b) (pt b)) = true := add_ok (mulFin ha ha) (mulFin hb hb)
  simp only [mul_ok (fin_of ha) (fin_of ha), mul_ok (fin_of hb) (fin_of hb), h3, cond_true]
  rfl
/-! Settings. -/
abbrev Se := Int × Nat × Nat × Nat
/-- Half-life, cut, reuse, ceiling. -/
structure SOk (s : Se) : Prop where
  h1 : 1 ≤ s.1
  h2 : s.1 ≤ 1099511627776
  r1 : 4607182418800017408 ≤ s.2.2.1
  rc : s.2.2.1 < s.2.1
  cc : s.2.1 ≤ s.2.2.2
  c2 : s.2.2.2 ≤ 4697254411347427328
theorem SOk.fin {s : Se} (h : SOk s) : s.2.1 ≤ 4791830003522207744 ∧ s.2.2.1 ≤ 4791830003522207744 ∧ s.2.2.2 ≤ 4791830003522207744 := by
  have := h.c2; have := h.cc; have := h.rc
  omega
/-- Whether it is held. -/
def askH (s : Se) (n : Nat) (h : Bool) : Bool := bif decide (fmul s.2.1 s.2.1 ≤ n) then true else bif decide (n < fmul s.2.2.1 s.2.2.1) then false else h
theorem asked {s : Se} (hs : SOk s) {a b : Nat} {t : Int} {h : Bool} (ha : a ≤ 4791830003522207744) (hb : b ≤ 4791830003522207744) : F28.f (s, (a, b), t, h) = some (((a, b), t, askH s (sq a b) h), ()) := by
  obtain ⟨s0, s1, s2, s3⟩ := s
  obtain ⟨k1, k2, k3⟩ := hs.fin
  show F28.fP F31.f ((s0, s1, s2, s3), (a, b), t, h) = _
  unfold F28.fP askH
  simp only [square ha hb, Option.bind_some, mul_ok (fin_of k1) (fin_of k1), mul_ok (fin_of k2) (fin_of k2), cond_true]
  have e1 : fCmp .geq .f64 (sq a b) (fVal .mul .f64 s1 s1) = decide (fmul s1 s1 ≤ sq a b) := cmp_geq (sqFin ha hb) (mulFin k1 k1)
  have e2 : fCmp .lss .f64 (sq a b) (fVal .mul .f64 s2 s2) = decide (sq a b < fmul s2 s2) := cmp_lss (sqFin ha hb) (mulFin k2 k2)
  rw [e1, e2]
  generalize decide (fmul s1 s1 ≤ sq a b) = p
  generalize decide (sq a b < fmul s2 s2) = q
  cases p <;> cases q <;> rfl
theorem askedR {s : Se} (hs : SOk s) {a b : Nat} {t : Int} {h : Bool} (ha : okw a) (hb : okw b) : F26.f (s, a, b, t, h) = some ((a, b, t, askH s (sq a b) h), ()) := by
  obtain ⟨s0, s1, s2, s3⟩ := s
  obtain ⟨k1, k2, k3⟩ := hs.fin
  show F26.fP F24.f ((s0, s1, s2, s3), a, b, t, h) = _
  unfold F26.fP askH
  have la := ha.p.le
  have lb := hb.p.le
  simp only [squareR (fin_of la) (fin_of lb), pt_okw ha, pt_okw hb, Option.bind_some, mul_ok (fin_of k1) (fin_of k1), mul_ok (fin_of k2) (fin_of k2), cond_true]
  have e1 : fCmp .geq .f64 (sq a b) (fVal .mul .f64 s1 s1) = decide (fmul s1 s1 ≤ sq a b) := cmp_geq (sqFin la lb) (mulFin k1 k1)
  have e2 : fCmp .lss .f64 (sq a b) (fVal .mul .f64 s2 s2) = decide (sq a b < fmul s2 s2) := cmp_lss (sqFin la lb) (mulFin k2 k2)
  rw [e1, e2]
  generalize decide (fmul s1 s1 ≤ sq a b) = p
  generalize decide (sq a b < fmul s2 s2) = q
  cases p <;> cases q <;> rfl
/-! Brought to a tick. -/
theorem halvings {a b : Nat} {t : Int} {h : Bool} (ha : okp a) (hb : okp b) (K : Nat) (hK : K ≤ 100) : F29.l1 (K : Int) (((a, b), t, h), 0) = some ((), (hfn K a, hfn K b), t, h) := by
  show iterO (F29.r1 (K : Int)) _ = _
  obtain ⟨r, e1, e2⟩ := iterO_inv (f := F29.r1 (K : Int)) (fun s => ∃ i : Nat, i ≤ K ∧ s = (((hfn i a, hfn i b), t, h), (i : Int))) (fun s => K - s.2.toNat) (fun r => r = ((), (hfn K a, hfn K b), t, h)) (by
    rintro s ⟨i, hi, rfl⟩
    have hf : F29.r1 (K : Int) (((hfn i a, hfn i b), t, h), (i : Int)) = F29.r1P F32.f F33.f (K : Int) (((hfn i a, hfn i b), t, h), (i : Int)) := rfl
    rw [hf]
    unfold F29.r1P
    by_cases h1 : i < K
    · left
      refine ⟨(((hfn (i + 1) a, hfn (i + 1) b), t, h), ((i + 1 : Nat) : Int)), ?_, ⟨i + 1, h1, rfl⟩, ?_⟩
      · have c1 : decide ((i : Int) < (K : Int)) = true := decide_eq_true (by omega)
        simp only [c1, cond_true, halved (hfn_okp ha) (hfn_okp hb), Option.bind_some, hf_hfn]
        rw [wrap64_id (by omega)]
        rfl
      · simp only [Int.toNat_natCast]; omega
    · right
      have c1 : decide ((i : Int) < (K : Int)) = false := decide_eq_false (by omega)
      refine ⟨_, by simp only [c1, cond_false]; rfl, ?_⟩
      rw [show i = K by omega]) (((a, b), t, h), 0) ⟨0, Nat.zero_le _, by rw [hfn_zero ha, hfn_zero hb]; rfl⟩
  rw [e1, e2]
/-- How many half-lives. -/
def many (s : Se) (t now : Int) : Nat := ((now - t) / s.1).toNat
theorem many_le {s : Se} (hs : SOk s) {t now : Int} (h : t ≤ now) : (many s t now : Int) * s.1 ≤ now - t ∧ (now - t) - (many s t now : Int) * s.1 < s.1 ∧ (many s t now : Int) = (now - t) / s.1 := by
  have hp : 0 < s.1 := by have := hs.h1; omega
  have h0 : 0 ≤ (now - t) / s.1 := Int.ediv_nonneg (by omega) (by omega)
  have e : (many s t now : Int) = (now - t) / s.1 := by unfold many; omega
  have hm := Int.emod_add_mul_ediv (now - t) s.1
  have h1 := Int.emod_nonneg (now - t) (show s.1 ≠ 0 by omega)
  have h2 := Int.emod_lt_of_pos (now - t) hp
  have e2 : (many s t now : Int) * s.1 = s.1 * ((now - t) / s.1) := by rw [e, Int.mul_comm]
  rw [e2]
  refine ⟨by omega, by omega, e⟩
theorem brought {s : Se} (hs : SOk s) {a b : Nat} {t now : Int} {h : Bool} (ha : okw a) (hb : okw b) (h0 : 0 ≤ t) (h1 : t ≤ now) (h2 : now ≤ 1099511627776) :
    F29.f (s, ((a, b), t, h), now) = some (((hfn (many s t now) a, hfn (many s t now) b), t + (many s t now : Int) * s.1, h), ()) := by
  obtain ⟨m1, m2, m3⟩ := many_le hs h1
  have g1 := hs.h1
  have g2 := hs.h2
  obtain ⟨s0, s1, s2, s3⟩ := s
  simp only at m1 m2 m3 g1 g2
  show F29.fP F32.f F33.f F29.l1 ((s0, s1, s2, s3), ((a, b), t, h), now) = _
  unfold F29.fP
  simp only [clean (fin_of ha.p.le) (fin_of hb.p.le), pt_okw ha, pt_okw hb, cl_id h0 (show t ≤ 1099511627776 by omega), Option.bind_some]
  rw [wrap64_id (show -9223372036854775808 ≤ now - t ∧ now - t ≤ 9223372036854775807 by omega)]
  generalize hk : many (s0, s1, s2, s3) t now = k at *
  by_cases hl : now - t < s0
  · have k0 : k = 0 := by
      rcases Nat.eq_zero_or_pos k with h | h
      · exact h
      · have : (1 : Int) * s0 ≤ (k : Int) * s0 := Int.mul_le_mul_of_nonneg_right (by omega) (by omega)
        omega
    subst k0
    rw [decide_eq_true hl]
    simp only [cond_true, hfn_zero ha.p, hfn_zero hb.p]
    rw [show ((0 : Nat) : Int) * s0 = 0 by simp, Int.add_zero]
  · rw [decide_eq_false hl, decide_eq_true (show s0 ≠ 0 by omega)]
    simp only [cond_true, cond_false]
    have ht : (now - t).tdiv s0 = (k : Int) := by rw [Int.tdiv_eq_ediv_of_nonneg (by omega)]; omega
    have kb : (k : Int) ≤ 1099511627776 := by
      have : (k : Int) * 1 ≤ (k : Int) * s0 := Int.mul_le_mul_of_nonneg_left (by omega) (by omega)
      omega
    rw [ht, wrap64_id (show -9223372036854775808 ≤ (k : Int) ∧ (k : Int) ≤ 9223372036854775807 by omega)]
    have hcap : (if (42 : Int) < (k : Int) then (42 : Int) else (k : Int)) = ((min k 42 : Nat) : Int) := by split <;> omega
    rw [hcap, halvings ha.p hb.p (min k 42) (by omega)]
    simp only [Option.bind_some]
    have hm : ∀ {x : Nat}, okw x → hfn (min k 42) x = hfn k x := by
      intro x hx
      rcases Nat.lt_or_ge k 42 with h | h
      · rw [Nat.min_eq_left (by omega)]
      · rw [hfn_cap hx.p.le h, hfn_cap hx.p.le (by omega)]
    rw [hm ha, hm hb, wrap64_id (show -9223372036854775808 ≤ (k : Int) * s0 ∧ (k : Int) * s0 ≤ 9223372036854775807 by have := Int.mul_nonneg (show (0 : Int) ≤ k by omega) (show (0 : Int) ≤ s0 by omega); omega)]
    have := Int.mul_nonneg (show (0 : Int) ≤ k by omega) (show (0 : Int) ≤ s0 by omega)
    rw [wrap64_id (show -9223372036854775808 ≤ t + (k : Int) * s0 ∧ t + (k : Int) * s0 ≤ 9223372036854775807 by omega)]
end Go.Proofs.Ytglbcjmebjeokaa.PB

/- Chapter 20: settings that may be; brought, added to, asked: the program and the document alike. -/
namespace Go.Proofs.Ytglbcjmebjeokaa.PC
open Go Go.Proofs Go.Proofs.Ytglbcjmebjeokaa.Sx Go.Proofs.Ytglbcjmebjeokaa.FL Go.Proofs.Ytglbcjmebjeokaa.PB
set_option linter.unusedSimpArgs false
set_option linter.unusedVariables false
/-! Any words compared. -/
theorem cmp_swap (a b : Int) : compare a b = (compare b a).swap := by
  rcases Int.lt_trichotomy a b with h | h | h
  · rw [Int.compare_eq_lt.2 h, Int.compare_eq_gt.2 h]; rfl
  · subst h; rw [Int.compare_eq_eq.2 rfl]; rfl
  · rw [Int.compare_eq_gt.2 h, Int.compare_eq_lt.2 h]; rfl
theorem ord_swap (d e : Ieee.Datum) : d.order e = (e.order d).map Ordering.swap := by
  cases d with
  | nan s f => cases e <;> rfl
  | infinity s => cases e with
    | nan t f => rfl
    | infinity t => cases s <;> cases t <;> rfl
    | number t n j => cases s <;> rfl
  | number s m i => cases e with
    | nan t f => rfl
    | infinity t => cases t <;> rfl
    | number t n j =>
      simp only [Ieee.Datum.order, Option.map_some]
      rw [Int.min_comm j i, cmp_swap]
theorem gtr_lss (x y : Nat) : fCmp .gtr .f64 x y = fCmp .lss .f64 y x := by
  unfold fCmp
  simp only
  show (Ieee.Datum.order _ _ == some Ordering.gt) = (Ieee.Datum.order _ _ == some Ordering.lt)
  rw [ord_swap]
  cases Ieee.Datum.order (Ieee.Format.read (FloatKind.format FloatKind.f64) y) (Ieee.Format.read (FloatKind.format FloatKind.f64) x) with
  | none => rfl
  | some o => cases o <;> rfl
theorem geq_leq (x y : Nat) : fCmp .geq .f64 x y = fCmp .leq .f64 y x := by
  unfold fCmp
  simp only
  show (Ieee.Datum.order _ _ == some Ordering.gt || Ieee.Datum.order _ _ == some Ordering.eq) = (Ieee.Datum.order _ _ == some Ordering.lt || Ieee.Datum.order _ _ == some Ordering.eq)
  rw [ord_swap]
  cases Ieee.Datum.order (Ieee.Format.read (FloatKind.format FloatKind.f64) y) (Ieee.Format.read (FloatKind.format FloatKind.f64) x) with
  | none => rfl
  | some o => cases o <;> rfl
theorem read_neg {c : Nat} (h1 : 9223372036854775808 ≤ c) (h2 : c < 18446744073709551616) : (∃ m p, Ieee.double.read c = .number true m p) ∨ Ieee.double.read c = .infinity true ∨ ∃ f, Ieee.double.read c = .nan true f := by
  have hs : Ieee.double.signWeight = 9223372036854775808 := by decide
  unfold Ieee.Format.read
  simp only [hs]
  have e : c / 9223372036854775808 = 1 := by omega
  rw [e]
  split
  · exact .inl ⟨_, _, rfl⟩
  · split
    · exact .inl ⟨_, _, rfl⟩
    · split
      · exact .inr (.inl rfl)
      · exact .inr (.inr ⟨_, rfl⟩)
theorem read_nan {c : Nat} (h1 : infR < c) (h2 : c < 9223372036854775808) : ∃ f, Ieee.double.read c = .nan false f := by
  have hs : Ieee.double.signWeight = 9223372036854775808 := by decide
  have hb : Ieee.double.binade = B := by decide
  have hi : Ieee.double.infRung = infR := by decide
  unfold Ieee.Format.read
  simp only [hs, hb, hi]
  have e : c / 9223372036854775808 = 0 := by omega
  have e2 : c % 9223372036854775808 = c := by omega
  rw [e, e2, if_neg (by unfold infR at h1; unfold B; omega), if_neg (by omega), if_neg (by omega)]
  exact ⟨_, rfl⟩
theorem read_inf : Ieee.double.read infR = .infinity false := by decide
theorem read_pos {x : Nat} (h1 : 4607182418800017408 ≤ x) (h2 : x ≤ infR) : (∃ m p, 0 < m ∧ Ieee.double.read x = .number false m p) ∨ Ieee.double.read x = .infinity false := by
  rcases Nat.lt_or_ge x infR with h | h
  · refine .inl ⟨_, _, ?_, read_fin h⟩
    have := mag_ge (r := x) (by unfold B; omega)
    unfold B at this
    omega
  · rw [show x = infR by omega]; exact .inr read_inf
/-- What is not below a number from 1 on. -/
theorem above {x c : Nat} (h1 : 4607182418800017408 ≤ x) (h2 : x ≤ infR) (hc : c < 18446744073709551616) (h : fCmp .leq .f64 x c = true) : c ≤ infR ∧ x ≤ c ∧ (fCmp .lss .f64 x c = true → x < c) := by
  unfold fCmp at h
  simp only at h
  change (Ieee.Datum.order (Ieee.double.read x) (Ieee.double.read c) == some Ordering.lt || Ieee.Datum.order (Ieee.double.read x) (Ieee.double.read c) == some Ordering.eq) = true at h
  rcases Nat.lt_or_ge c 9223372036854775808 with hl | hg
  · rcases Nat.lt_or_ge infR c with hn | hn
    · obtain ⟨f, e⟩ := read_nan hn hl
      rw [e] at h
      rcases read_pos h1 h2 with ⟨m, p, _, e⟩ | e <;> rw [e] at h <;> cases h
    · rcases Nat.lt_or_ge x infR with hx | hx
      · rcases Nat.lt_or_ge c infR with hc' | hc'
        · have l1 := cmp_leq hx hc'
          have l2 := cmp_lss hx hc'
          unfold fCmp at l1
          simp only at l1
          have h' := h
          change (Ieee.Datum.order (Ieee.double.read x) (Ieee.double.read c) == some Ordering.lt || Ieee.Datum.order (Ieee.double.read x) (Ieee.double.read c) == some Ordering.eq) = decide (x ≤ c) at l1
          rw [l1] at h'
          exact ⟨hn, of_decide_eq_true h', fun g => by rw [l2] at g; exact of_decide_eq_true g⟩
        · exact ⟨hn, by omega, fun _ => by omega⟩
      · have ex : x = infR := by omega
        rcases Nat.lt_or_ge c infR with hc' | hc'
        · rw [ex, read_inf, read_fin hc'] at h
          cases h
        · have ec : c = infR := by omega
          refine ⟨hn, by omega, fun g => ?_⟩
          rw [ex, ec] at g
          exact absurd g (by decide)
  · exfalso
    rcases read_pos h1 h2 with ⟨m, p, hm, e⟩ | e
    · rcases read_neg hg hc with ⟨n, q, e'⟩ | e' | ⟨f, e'⟩
      · rw [e, e'] at h
        simp only [Ieee.Datum.order] at h
        have k1 : 0 < Ieee.signed false m (p - min p q).toNat := by
          rw [signed_pos]
          have := Nat.mul_pos hm (Nat.two_pow_pos (p - min p q).toNat)
          omega
        have k2 : Ieee.signed true n (q - min p q).toNat ≤ 0 := by
          unfold Ieee.signed
          rw [if_pos rfl]
          exact Int.neg_nonpos_of_nonneg (Int.natCast_nonneg _)
        rw [Int.compare_eq_gt.2 (show Ieee.signed true n (q - min p q).toNat < Ieee.signed false m (p - min p q).toNat by omega)] at h
        cases h
      · rw [e, e'] at h; cases h
      · rw [e, e'] at h; cases h
    · rcases read_neg hg hc with ⟨n, q, e'⟩ | e' | ⟨f, e'⟩ <;> rw [e, e'] at h <;> cases h
theorem from1 {x : Nat} (hc : x < 18446744073709551616) (h : fCmp .geq .f64 x 4607182418800017408 = true) : 4607182418800017408 ≤ x ∧ x ≤ infR := by
  rw [geq_leq] at h
  obtain ⟨h1, h2, _⟩ := above (Nat.le_refl 4607182418800017408) (by unfold infR; omega) hc h
  exact ⟨h2, h1⟩
theorem lss_leq {x y : Nat} (h : fCmp .lss .f64 x y = true) : fCmp .leq .f64 x y = true := by
  unfold fCmp at h ⊢
  simp only at h ⊢
  rw [h]; rfl
/-! Settings that may be. -/
def wfS (s : Se) : Prop := s.2.1 < 18446744073709551616 ∧ s.2.2.1 < 18446744073709551616 ∧ s.2.2.2 < 18446744073709551616
theorem mayGood {s : Se} (hs : SOk s) : F17.f s = some (true, ()) := by
  obtain ⟨k1, k2, k3⟩ := hs.fin
  obtain ⟨g1, g2, g3, g4, g5, g6⟩ := hs
  obtain ⟨s0, s1, s2, s3⟩ := s
  simp only at g1 g2 g3 g4 g5 g6 k1 k2 k3
  show F17.fP (s0, s1, s2, s3) = _
  unfold F17.fP
  simp only [cmp_geq (fin_of k2) (show 4607182418800017408 < infR by unfold infR; omega), cmp_lss (fin_of k2) (fin_of k1), cmp_leq (fin_of k1) (fin_of k3), cmp_leq (fin_of k3) (show 4697254411347427328 < infR by unfold infR; omega)]
  rw [decide_eq_true (show s0 ≥ 1 from g1), decide_eq_true g2, decide_eq_true g3, decide_eq_true g4, decide_eq_true g5, decide_eq_true g6]
  rfl
theorem may {s : Se} (hw : wfS s) : ∃ m : Bool, F17.f s = some (m, ()) ∧ F22.f s = some (m, ()) ∧ (m = true → SOk s) := by
  obtain ⟨s0, s1, s2, s3⟩ := s
  obtain ⟨w1, w2, w3⟩ := hw
  simp only at w1 w2 w3
  show ∃ m : Bool, F17.fP (s0, s1, s2, s3) = some (m, ()) ∧ F22.fP (s0, s1, s2, s3) = some (m, ()) ∧ (m = true → SOk (s0, s1, s2, s3))
  unfold F17.fP F22.fP
  simp only [gtr_lss s1 s2, geq_leq s3 s1]
  by_cases h1 : s0 ≥ 1
  case neg => exact ⟨false, by rw [decide_eq_false h1]; rfl, by rw [decide_eq_true (show s0 < 1 by omega)]; rfl, fun h => by cases h⟩
  by_cases h2 : s0 ≤ 1099511627776
  case neg => exact ⟨false, by rw [decide_eq_true h1, decide_eq_false h2]; rfl, by rw [decide_eq_false (show ¬ s0 < 1 by omega), decide_eq_true (show s0 > 1099511627776 by omega)]; rfl, fun h => by cases h⟩
  rw [decide_eq_true h1, decide_eq_true h2, decide_eq_false (show ¬ s0 < 1 by omega), decide_eq_false (show ¬ s0 > 1099511627776 by omega)]
  simp only [cond_true, cond_false]
  cases e1 : fCmp .geq .f64 s2 4607182418800017408 with
  | false => exact ⟨false, rfl, rfl, fun h => by cases h⟩
  | true =>
    cases e2 : fCmp .lss .f64 s2 s1 with
    | false => exact ⟨false, rfl, rfl, fun h => by cases h⟩
    | true =>
      cases e3 : fCmp .leq .f64 s1 s3 with
      | false => exact ⟨false, rfl, rfl, fun h => by cases h⟩
      | true =>
        refine ⟨_, rfl, rfl, fun e4 => ?_⟩
        obtain ⟨a1, a2⟩ := from1 w2 e1
        obtain ⟨b1, b2, b3⟩ := above a1 a2 w1 (lss_leq e2)
        obtain ⟨c1, c2, _⟩ := above (show 4607182418800017408 ≤ s1 by omega) b1 w3 e3
        obtain ⟨_, d2, _⟩ := above (show 4607182418800017408 ≤ s3 by omega) c1 (show 4697254411347427328 < 18446744073709551616 by omega) e4
        exact ⟨h1, h2, a1, b3 e2, c2, d2⟩
/-! Brought, by the document. -/
theorem gtr0 {x : Nat} (h : x < infR) : fCmp .gtr .f64 x 0 = decide (0 < x) := cmp_gtr h (by unfold infR; omega)
theorem bringLoop {s : Se} (hs : SOk s) {a b : Nat} {t now : Int} {h : Bool} (ha : okw a) (hb : okw b) (h0 : 0 ≤ t) (h1 : t ≤ now) (h2 : now ≤ 1099511627776) :
    ∃ j : Nat, j ≤ many s t now ∧ F23.l1 (now, s) (a, b, t, h) = some ((), hfn j a, hfn j b, t + (j : Int) * s.1, h) ∧ (j = many s t now ∨ (hfn j a = 0 ∧ hfn j b = 0)) := by
  obtain ⟨m1, m2, m3⟩ := many_le hs h1
  have g1 := hs.h1
  have g2 := hs.h2
  obtain ⟨s0, s1, s2, s3⟩ := s
  simp only at m1 m2 m3 g1 g2
  generalize hk : many (s0, s1, s2, s3) t now = k at *
  obtain ⟨r, e1, j, hj, e2, e3⟩ := iterO_inv (f := F23.r1 (now, s0, s1, s2, s3)) (fun z => ∃ j : Nat, j ≤ k ∧ z = (hfn j a, hfn j b, t + (j : Int) * s0, h)) (fun z => (now - z.2.2.1).toNat)
    (fun r => ∃ j : Nat, j ≤ k ∧ r = ((), hfn j a, hfn j b, t + (j : Int) * s0, h) ∧ (j = k ∨ (hfn j a = 0 ∧ hfn j b = 0))) (by
    rintro z ⟨j, hj, rfl⟩
    have hf : F23.r1 (now, s0, s1, s2, s3) (hfn j a, hfn j b, t + (j : Int) * s0, h) = F23.r1P F34.f F25.f (now, s0, s1, s2, s3) (hfn j a, hfn j b, t + (j : Int) * s0, h) := rfl
    rw [hf]
    unfold F23.r1P
    dsimp only
    have hjs : (j : Int) * s0 ≤ (k : Int) * s0 := Int.mul_le_mul_of_nonneg_right (by omega) (by omega)
    have hj0 : 0 ≤ (j : Int) * s0 := Int.mul_nonneg (by omega) (by omega)
    rw [decide_eq_true (show now ≥ t + (j : Int) * s0 by omega), wrap64_id (show -9223372036854775808 ≤ now - (t + (j : Int) * s0) ∧ now - (t + (j : Int) * s0) ≤ 9223372036854775807 by omega)]
    simp only [cond_true, gtr0 (fin_of (hfn_okw ha).p.le), gtr0 (fin_of (hfn_okw hb).p.le), halfR (hfn_okp ha.p) (hfn_okp hb.p), hf_hfn, Option.bind_some]
    by_cases hlt : j < k
    · have e : ((j + 1 : Nat) : Int) * s0 = (j : Int) * s0 + s0 := by rw [Int.natCast_add, Int.add_mul]; simp
      have hjs' : ((j + 1 : Nat) : Int) * s0 ≤ (k : Int) * s0 := Int.mul_le_mul_of_nonneg_right (by omega) (by omega)
      rw [decide_eq_true (show now - (t + (j : Int) * s0) ≥ s0 by omega), wrap64_id (show -9223372036854775808 ≤ t + (j : Int) * s0 + s0 ∧ t + (j : Int) * s0 + s0 ≤ 9223372036854775807 by omega)]
      have st : t + (j : Int) * s0 + s0 = t + ((j + 1 : Nat) : Int) * s0 := by omega
      rw [st]
      by_cases za : 0 < hfn j a
      · left
        refine ⟨_, by rw [decide_eq_true za]; rfl, ⟨j + 1, hlt, rfl⟩, ?_⟩
        simp only; omega
      · by_cases zb : 0 < hfn j b
        · left
          refine ⟨_, by rw [decide_eq_false za, decide_eq_true zb]; rfl, ⟨j + 1, hlt, rfl⟩, ?_⟩
          simp only; omega
        · right
          exact ⟨_, by rw [decide_eq_false za, decide_eq_false zb]; rfl, j, hj, rfl, .inr ⟨by omega, by omega⟩⟩
    · right
      have : j = k := by omega
      subst this
      exact ⟨_, by rw [decide_eq_false (show ¬ now - (t + (j : Int) * s0) ≥ s0 by omega)]; rfl, j, hj, rfl, .inl rfl⟩) (a, b, t, h) ⟨0, Nat.zero_le _, by rw [hfn_zero ha.p, hfn_zero hb.p]; simp⟩
  exact ⟨j, hj, by show iterO (F23.r1 (now, s0, s1, s2, s3)) (a, b, t, h) = _; rw [e1, e2], e3⟩
theorem bring {s : Se} (hs : SOk s) {a b : Nat} {t now : Int} {h : Bool} (ha : okw a) (hb : okw b) (h0 : 0 ≤ t) (h1 : t ≤ now) (h2 : now ≤ 1099511627776) :
    F23.f (s, (a, b, t, h), now) = some ((hfn (many s t now) a, hfn (many s t now) b, t + (many s t now : Int) * s.1, h), ()) := by
  obtain ⟨j, hj, e, hz⟩ := bringLoop hs ha hb h0 h1 h2 (h := h)
  obtain ⟨m1, m2, m3⟩ := many_le hs h1
  have g1 := hs.h1
  have g2 := hs.h2
  obtain ⟨s0, s1, s2, s3⟩ := s
  simp only at m1 m2 m3 g1 g2
  show F23.fP F34.f F25.f F23.l1 ((s0, s1, s2, s3), (a, b, t, h), now) = _
  unfold F23.fP
  simp only [cleanR (fin_of ha.p.le) (fin_of hb.p.le), pt_okw ha, pt_okw hb, cl_id h0 (show t ≤ 1099511627776 by omega), Option.bind_some, e]
  generalize hk : many (s0, s1, s2, s3) t now = k at *
  have hjs : (j : Int) * s0 ≤ (k : Int) * s0 := Int.mul_le_mul_of_nonneg_right (by omega) (by omega)
  have hj0 : 0 ≤ (j : Int) * s0 := Int.mul_nonneg (by omega) (by omega)
  rw [decide_eq_true (show now ≥ t + (j : Int) * s0 by omega), decide_eq_true (show s0 ≠ 0 by omega)]
  simp only [cond_true]
  rw [wrap64_id (show -9223372036854775808 ≤ now - (t + (j : Int) * s0) ∧ now - (t + (j : Int) * s0) ≤ 9223372036854775807 by omega), Int.tmod_eq_emod_of_nonneg (by omega)]
  have em : (now - (t + (j : Int) * s0)) % s0 = now - t - (k : Int) * s0 := by
    have e1 : now - (t + (j : Int) * s0) = (now - t - (k : Int) * s0) + ((k : Int) - j) * s0 := by rw [Int.sub_mul]; omega
    rw [e1, Int.add_mul_emod_self_right, Int.emod_eq_of_lt (by omega) (by omega)]
  rw [em, wrap64_id (by omega)]
  have hx : ∀ {x : Nat}, (j = k ∨ hfn j x = 0) → hfn j x = hfn k x := by
    intro x hx
    rcases hx with hx | hx
    · rw [hx]
    · have := hfn_anti (n := j) (m := k) (x := x) hj
      omega
  rw [hx (hz.imp id And.left), hx (hz.imp id And.right), show now - (now - t - (k : Int) * s0) = t + (k : Int) * s0 by omega]
/-! To a tick. -/
theorem mayNow {s : Se} (hs : SOk s) {now : Int} (h0 : 0 ≤ now) (h2 : now ≤ 1099511627776) : F27.f (s, now) = some (true, ()) := by
  have m := mayGood hs
  obtain ⟨s0, s1, s2, s3⟩ := s
  show F27.fP F17.f ((s0, s1, s2, s3), now) = _
  unfold F27.fP
  simp only [m, Option.bind_some, cond_true]
  rw [decide_eq_true (show now ≥ 0 from h0), decide_eq_true h2]
  rfl
/-- What is asked of a figure at a tick. -/
noncomputable def toN (s : Se) (a b : Nat) (t : Int) (h : Bool) (now : Int) : Bool := askH s (sq (hfn (many s t now) a) (hfn (many s t now) b)) h
theorem toP {s : Se} (hs : SOk s) {a b : Nat} {t now : Int} {h : Bool} (ha : okw a) (hb : okw b) (h0 : 0 ≤ t) (h1 : t ≤ now) (h2 : now ≤ 1099511627776) :
    F11.f (s, ((a, b), t, h), now) = some ((((hfn (many s t now) a, hfn (many s t now) b), t + (many s t now : Int) * s.1, toN s a b t h now), 0), ()) := by
  have m := mayNow hs (show 0 ≤ now by omega) h2
  have br := brought hs (h := h) ha hb h0 h1 h2
  have asx := fun t' => asked hs (a := hfn (many s t now) a) (b := hfn (many s t now) b) (t := t') (h := h) (hfn_okw ha).p.le (hfn_okw hb).p.le
  obtain ⟨s0, s1, s2, s3⟩ := s
  show F11.fP F27.f F29.f F28.f ((s0, s1, s2, s3), ((a, b), t, h), now) = _
  unfold F11.fP
  simp only [m, br, asx, Option.bind_some, Bool.not_true, cond_false]
  rfl
theorem toR {s : Se} (hs : SOk s) (hm : F22.f s = some (true, ())) {a b : Nat} {t now : Int} {h : Bool} (ha : okw a) (hb : okw b) (h0 : 0 ≤ t) (h1 : t ≤ now) (h2 : now ≤ 1099511627776) :
    F12.f (s, (a, b, t, h), now) = some (((hfn (many s t now) a, hfn (many s t now) b, t + (many s t now : Int) * s.1, toN s a b t h now), 0), ()) := by
  have br := bring hs (h := h) ha hb h0 h1 h2
  have asx := fun t' => askedR hs (a := hfn (many s t now) a) (b := hfn (many s t now) b) (t := t') (h := h) (hfn_okw ha) (hfn_okw hb)
  obtain ⟨s0, s1, s2, s3⟩ := s
  show F12.fP F22.f F23.f F26.f ((s0, s1, s2, s3), (a, b, t, h), now) = _
  unfold F12.fP
  simp only [hm, br, asx, Option.bind_some, Bool.not_true, cond_false]
  rw [decide_eq_false (show ¬ now < 0 by omega), decide_eq_false (show ¬ now > 1099511627776 by omega)]
  rfl
/-! As long as the ceiling is passed. -/
theorem c2_le {s : Se} (hs : SOk s) : fmul s.2.2.2 s.2.2.2 ≤ 4787326403894837248 := by
  have := mul_mono hs.c2 hs.c2 (show 4697254411347427328 < infR by unfold infR; omega) (show 4697254411347427328 < infR by unfold infR; omega)
  rwa [mul_c20] at this
theorem wide {a b : Nat} (ha : a ≤ 4791830003522207744) (hb : b ≤ 4791830003522207744) (h : 4787326403894837248 < a ∨ 4787326403894837248 < b) : 4967470388989657088 ≤ sq a b := by
  rcases h with h | h
  · have h1 := mul_mono (Nat.le_of_lt h) (Nat.le_of_lt h) (fin_of ha) (fin_of ha)
    rw [mul_wid] at h1
    exact Nat.le_trans h1 (add_le_left (mulFin ha ha) (mulFin hb hb))
  · have h1 := mul_mono (Nat.le_of_lt h) (Nat.le_of_lt h) (fin_of hb) (fin_of hb)
    rw [mul_wid] at h1
    exact Nat.le_trans h1 (add_le_right (mulFin ha ha) (mulFin hb hb))
theorem sq00 : sq 0 0 = 0 := by decide
theorem okp_w {x : Nat} (h : okp x) (hx : ¬ 4787326403894837248 < x) : okw x := by
  rcases h with h | h
  · exact .inl h
  · exact .inr ⟨h.1, by omega⟩
theorem hf_lt {x : Nat} (h : okp x) : hf x ≤ x ∧ (0 < x → hf x < x) := by
  rcases hf_eq x with ⟨h1, h2⟩ | ⟨h1, h2⟩ <;> rcases h with h | h <;> omega
theorem settle {s : Se} (hs : SOk s) : ∀ (n a b : Nat), a + b < n → okp a → okp b → ∃ k : Nat, okw (hfn k a) ∧ okw (hfn k b) ∧ sq (hfn k a) (hfn k b) ≤ fmul s.2.2.2 s.2.2.2 ∧ (0 < k → fmul s.2.2.2 s.2.2.2 < sq a b) ∧
    ∀ t h, F21.l1 s ((a, b), t, h) = some ((), (hfn k a, hfn k b), t, h) ∧ F9.l1 s (a, b, t, h) = some ((), hfn k a, hfn k b, t, h)
  | 0, a, b, hn, _, _ => by omega
  | n + 1, a, b, hn, ha, hb => by
    have hc := c2_le hs
    obtain ⟨_, _, k3⟩ := hs.fin
    have fc : fmul s.2.2.2 s.2.2.2 < infR := mulFin k3 k3
    have oc : fOk .mul .f64 s.2.2.2 s.2.2.2 = true := mul_ok (fin_of k3) (fin_of k3)
    have pa : pt a ≤ 4791830003522207744 := pt_top a
    have pb : pt b ≤ 4791830003522207744 := pt_top b
    have g1 : fCmp .gtr .f64 (sq a b) (fmul s.2.2.2 s.2.2.2) = decide (fmul s.2.2.2 s.2.2.2 < sq a b) := cmp_gtr (sqFin ha.le hb.le) fc
    have g2 : fCmp .gtr .f64 (sq (pt a) (pt b)) (fmul s.2.2.2 s.2.2.2) = decide (fmul s.2.2.2 s.2.2.2 < sq (pt a) (pt b)) := cmp_gtr (sqFin pa pb) fc
    have same : (fmul s.2.2.2 s.2.2.2 < sq (pt a) (pt b)) ↔ (fmul s.2.2.2 s.2.2.2 < sq a b) := by
      by_cases hw : 4787326403894837248 < a ∨ 4787326403894837248 < b
      · have w1 := wide ha.le hb.le hw
        have w2 : 4967470388989657088 ≤ sq (pt a) (pt b) := by
          rcases hw with hw | hw
          · have e : pt a = 4787326403894837248 := by rcases pt_eq a with ⟨h1, h2⟩ | ⟨h1, h2, h3⟩ | ⟨h1, h2⟩ <;> omega
            have := add_le_left (mulFin pa pa) (mulFin pb pb)
            have e2 : fmul (pt a) (pt a) = 4967470388989657088 := by rw [e]; exact mul_wid
            rw [e2] at this
            unfold sq
            rw [e2]
            exact this
          · have e : pt b = 4787326403894837248 := by rcases pt_eq b with ⟨h1, h2⟩ | ⟨h1, h2, h3⟩ | ⟨h1, h2⟩ <;> omega
            have := add_le_right (mulFin pa pa) (mulFin pb pb)
            have e2 : fmul (pt b) (pt b) = 4967470388989657088 := by rw [e]; exact mul_wid
            rw [e2] at this
            unfold sq
            rw [e2]
            exact this
        constructor <;> intro _ <;> omega
      · rw [pt_okw (okp_w ha (fun h => hw (.inl h))), pt_okw (okp_w hb (fun h => hw (.inr h)))]
    have sp := square ha.le hb.le
    have sr := fun t h => squareR (t := t) (h := h) (fin_of ha.le) (fin_of hb.le)
    have hp := halved ha hb
    have hr := fun t h => halfR (t := t) (h := h) ha hb
    obtain ⟨s0, s1, s2, s3⟩ := s
    simp only at hc k3 fc oc g1 g2 same
    by_cases hgt : fmul s3 s3 < sq a b
    · have hpos : 0 < a ∨ 0 < b := by
        rcases Nat.eq_zero_or_pos a with h1 | h1
        · rcases Nat.eq_zero_or_pos b with h2 | h2
          · subst h1 h2
            rw [sq00] at hgt; omega
          · exact .inr h2
        · exact .inl h1
      have la := hf_lt ha
      have lb := hf_lt hb
      obtain ⟨k, q1, q2, q3, q4, q5⟩ := settle hs n (hf a) (hf b) (by omega) (hfn_okp ha) (hfn_okp hb)
      simp only [hfn_hf] at q1 q2 q3 q5
      refine ⟨k + 1, q1, q2, q3, fun _ => hgt, fun t h => ?_⟩
      obtain ⟨q6, q7⟩ := q5 t h
      constructor
      · show iterO (F21.r1 (s0, s1, s2, s3)) ((a, b), t, h) = _
        rw [iterO_step (a' := ((hf a, hf b), t, h))]
        · exact q6
        · show F21.r1P F27.f F29.f F31.f F33.f F28.f (s0, s1, s2, s3) ((a, b), t, h) = _
          unfold F21.r1P
          simp only [sp, hp, oc, Option.bind_some, cond_true]
          rw [show fVal .mul .f64 s3 s3 = fmul s3 s3 from rfl, g1, decide_eq_true hgt]
          rfl
      · show iterO (F9.r1 (s0, s1, s2, s3)) (a, b, t, h) = _
        rw [iterO_step (a' := (hf a, hf b, t, h))]
        · exact q7
        · show F9.r1P F22.f F23.f F24.f F25.f F26.f (s0, s1, s2, s3) (a, b, t, h) = _
          unfold F9.r1P
          simp only [sr, hr, oc, Option.bind_some, cond_true]
          rw [show fVal .mul .f64 s3 s3 = fmul s3 s3 from rfl, g2, decide_eq_true (same.2 hgt)]
          rfl
    · have hw : ¬ (4787326403894837248 < a ∨ 4787326403894837248 < b) := fun hw => by
        have := wide ha.le hb.le hw
        omega
      refine ⟨0, ?_, ?_, ?_, fun h => by omega, fun t h => ?_⟩
      · rw [hfn_zero ha]; exact okp_w ha (fun h => hw (.inl h))
      · rw [hfn_zero hb]; exact okp_w hb (fun h => hw (.inr h))
      · rw [hfn_zero ha, hfn_zero hb]; exact Nat.le_of_not_lt hgt
      · rw [hfn_zero ha, hfn_zero hb]
        constructor
        · show iterO (F21.r1 (s0, s1, s2, s3)) ((a, b), t, h) = _
          refine iterO_done ?_
          show F21.r1P F27.f F29.f F31.f F33.f F28.f (s0, s1, s2, s3) ((a, b), t, h) = _
          unfold F21.r1P
          simp only [sp, oc, Option.bind_some, cond_true]
          rw [show fVal .mul .f64 s3 s3 = fmul s3 s3 from rfl, g1, decide_eq_false hgt]
          rfl
        · show iterO (F9.r1 (s0, s1, s2, s3)) (a, b, t, h) = _
          refine iterO_done ?_
          show F9.r1P F22.f F23.f F24.f F25.f F26.f (s0, s1, s2, s3) (a, b, t, h) = _
          unfold F9.r1P
          simp only [sr, oc, Option.bind_some, cond_true]
          rw [show fVal .mul .f64 s3 s3 = fmul s3 s3 from rfl, g2, decide_eq_false (fun g => hgt (same.1 g))]
          rfl
end Go.Proofs.Ytglbcjmebjeokaa.PC

/- Chapter 20: added to; rows of flaps. -/
namespace Go.Proofs.Ytglbcjmebjeokaa.PD
open Go Go.Proofs Go.Proofs.Ytglbcjmebjeokaa.Sx Go.Proofs.Ytglbcjmebjeokaa.FL Go.Proofs.Ytglbcjmebjeokaa.PB Go.Proofs.Ytglbcjmebjeokaa.PC
set_option linter.unusedSimpArgs false
set_option linter.unusedVariables false
theorem add_wid : fadd 4787326403894837248 4787326403894837248 = 4791830003522207744 := by decide
theorem okp_add {x c : Nat} (h : okw x) (h1 : 4607182418800017408 ≤ c) (h2 : c ≤ 4787326403894837248) : okp (fadd x c) ∧ c ≤ fadd x c ∧ x ≤ fadd x c := by
  have hx := fin_of h.p.le
  have hc : c < infR := by unfold infR; omega
  have l1 := add_le_right hx hc
  have l2 := add_mono h.le h2 (show 4787326403894837248 < infR by unfold infR; omega) (show 4787326403894837248 < infR by unfold infR; omega)
  rw [add_wid] at l2
  exact ⟨.inr ⟨by omega, l2⟩, l1, add_le_left hx hc⟩
/-- When it counts from. -/
def since (A C : Nat) (now T : Int) : Int := bif decide (A = 0) && decide (C = 0) then now else T
theorem since_ge {A C : Nat} {now T : Int} (h0 : 0 ≤ T) (h : T ≤ now) : 0 ≤ since A C now T ∧ since A C now T ≤ now := by
  unfold since
  cases decide (A = 0) && decide (C = 0)
  · exact ⟨h0, h⟩
  · exact ⟨Int.le_trans h0 h, Int.le_refl _⟩
section
variable {s : Se} (hs : SOk s) {a b : Nat} {t now : Int} {h : Bool} (ha : okw a) (hb : okw b) (h0 : 0 ≤ t) (h1 : t ≤ now) (h2 : now ≤ 1099511627776)
include hs ha hb h0 h1 h2
theorem addedP {x y p q k : Nat} (ex : fOk .add .f64 (hfn (many s t now) a) x = true ∧ fVal .add .f64 (hfn (many s t now) a) x = p) (ey : fOk .add .f64 (hfn (many s t now) b) y = true ∧ fVal .add .f64 (hfn (many s t now) b) y = q)
    (k1 : okw (hfn k p)) (k2 : okw (hfn k q)) (kl : ∀ t h, F21.l1 s ((p, q), t, h) = some ((), (hfn k p, hfn k q), t, h)) :
    F21.f (s, ((a, b), t, h), (x, y), now) = some ((((hfn k p, hfn k q), since (hfn (many s t now) a) (hfn (many s t now) b) now (t + (many s t now : Int) * s.1), askH s (sq (hfn k p) (hfn k q)) h), 0), ()) := by
  have m := mayNow hs (show 0 ≤ now by omega) h2
  have br := brought hs (h := h) ha hb h0 h1 h2
  have asx := fun t' => asked hs (t := t') (h := h) k1.p.le k2.p.le
  have z1 : fCmp .eql .f64 (hfn (many s t now) a) 0 = decide (hfn (many s t now) a = 0) := cmp_eql (fin_of (hfn_okw ha).p.le) (by unfold infR; omega)
  have z2 : fCmp .eql .f64 (hfn (many s t now) b) 0 = decide (hfn (many s t now) b = 0) := cmp_eql (fin_of (hfn_okw hb).p.le) (by unfold infR; omega)
  obtain ⟨s0, s1, s2, s3⟩ := s
  show F21.fP F27.f F29.f F31.f F33.f F28.f F21.l1 ((s0, s1, s2, s3), ((a, b), t, h), (x, y), now) = _
  unfold F21.fP since
  simp only [m, br, asx, z1, z2, ex, ey, kl, Option.bind_some, Bool.not_true, cond_false, Bool.and_true, cond_true]
  cases decide (hfn (many (s0, s1, s2, s3) t now) a = 0) && decide (hfn (many (s0, s1, s2, s3) t now) b = 0) <;> rfl
theorem addedR (hm : F22.f s = some (true, ())) (wd : Bool) {p q k : Nat}
    (e : (wd = true ∧ fOk .add .f64 (hfn (many s t now) a) 4652007308841189376 = true ∧ fVal .add .f64 (hfn (many s t now) a) 4652007308841189376 = p ∧ q = hfn (many s t now) b) ∨
      (wd = false ∧ p = hfn (many s t now) a ∧ fOk .add .f64 (hfn (many s t now) b) 4647503709213818880 = true ∧ fVal .add .f64 (hfn (many s t now) b) 4647503709213818880 = q))
    (k1 : okw (hfn k p)) (k2 : okw (hfn k q)) (kl : ∀ t h, F9.l1 s (p, q, t, h) = some ((), hfn k p, hfn k q, t, h)) :
    F9.f (s, (a, b, t, h), wd, now) = some (((hfn k p, hfn k q, since (hfn (many s t now) a) (hfn (many s t now) b) now (t + (many s t now : Int) * s.1), askH s (sq (hfn k p) (hfn k q)) h), 0), ()) := by
  have br := bring hs (h := h) ha hb h0 h1 h2
  have asx := fun t' => askedR hs (t := t') (h := h) k1 k2
  have z1 : fCmp .eql .f64 (hfn (many s t now) a) 0 = decide (hfn (many s t now) a = 0) := cmp_eql (fin_of (hfn_okw ha).p.le) (by unfold infR; omega)
  have z2 : fCmp .eql .f64 (hfn (many s t now) b) 0 = decide (hfn (many s t now) b = 0) := cmp_eql (fin_of (hfn_okw hb).p.le) (by unfold infR; omega)
  obtain ⟨s0, s1, s2, s3⟩ := s
  show F9.fP F22.f F23.f F24.f F25.f F26.f F9.l1 ((s0, s1, s2, s3), (a, b, t, h), wd, now) = _
  unfold F9.fP since
  simp only [hm, br, z1, z2, Option.bind_some, Bool.not_true, cond_false]
  rw [decide_eq_false (show ¬ now < 0 by omega), decide_eq_false (show ¬ now > 1099511627776 by omega)]
  rcases e with ⟨rfl, e1, e2, rfl⟩ | ⟨rfl, rfl, e1, e2⟩
  · simp only [e1, e2, kl, asx, Option.bind_some, cond_true, cond_false]
    cases decide (hfn (many (s0, s1, s2, s3) t now) a = 0) <;> cases decide (hfn (many (s0, s1, s2, s3) t now) b = 0) <;> rfl
  · simp only [e1, e2, kl, asx, Option.bind_some, cond_true, cond_false]
    cases decide (hfn (many (s0, s1, s2, s3) t now) a = 0) <;> cases decide (hfn (many (s0, s1, s2, s3) t now) b = 0) <;> rfl
/-- Withdrawn: what comes of it. -/
theorem withdrawn : ∃ k : Nat, okw (hfn k (fadd (hfn (many s t now) a) 4652007308841189376)) ∧ okw (hfn k (hfn (many s t now) b)) ∧
    sq (hfn k (fadd (hfn (many s t now) a) 4652007308841189376)) (hfn k (hfn (many s t now) b)) ≤ fmul s.2.2.2 s.2.2.2 ∧ (0 < k → fmul s.2.2.2 s.2.2.2 < sq (fadd (hfn (many s t now) a) 4652007308841189376) (hfn (many s t now) b)) ∧
    F8.f (s, ((a, b), t, h), now) = some ((((hfn k (fadd (hfn (many s t now) a) 4652007308841189376), hfn k (hfn (many s t now) b)), since (hfn (many s t now) a) (hfn (many s t now) b) now (t + (many s t now : Int) * s.1),
      askH s (sq (hfn k (fadd (hfn (many s t now) a) 4652007308841189376)) (hfn k (hfn (many s t now) b))) h), 0), ()) ∧
    (F22.f s = some (true, ()) → F9.f (s, (a, b, t, h), true, now) = some (((hfn k (fadd (hfn (many s t now) a) 4652007308841189376), hfn k (hfn (many s t now) b), since (hfn (many s t now) a) (hfn (many s t now) b) now (t + (many s t now : Int) * s.1),
      askH s (sq (hfn k (fadd (hfn (many s t now) a) 4652007308841189376)) (hfn k (hfn (many s t now) b))) h), 0), ())) := by
  have fa := fin_of (hfn_okw (n := many s t now) ha).p.le
  have fb := fin_of (hfn_okw (n := many s t now) hb).p.le
  have ea : fOk .add .f64 (hfn (many s t now) a) 4652007308841189376 = true := add_ok fa (by unfold infR; omega)
  obtain ⟨o1, _, _⟩ := okp_add (c := 4652007308841189376) (hfn_okw (n := many s t now) ha) (by omega) (by omega)
  obtain ⟨k, q1, q2, q3, q4, q5⟩ := PC.settle hs _ _ _ (Nat.lt_succ_self _) o1 (hfn_okp (n := many s t now) hb.p)
  refine ⟨k, q1, q2, q3, q4, ?_, fun hm => addedR hs ha hb h0 h1 h2 hm true (.inl ⟨rfl, ea, rfl, rfl⟩) q1 q2 (fun t h => (q5 t h).2)⟩
  have := addedP hs (h := h) ha hb h0 h1 h2 (x := 4652007308841189376) (y := 0) ⟨ea, rfl⟩ ⟨add_ok fb (by unfold infR; omega), add_zero fb⟩ q1 q2 (fun t h => (q5 t h).1)
  obtain ⟨s0, s1, s2, s3⟩ := s
  show F8.fP F21.f ((s0, s1, s2, s3), ((a, b), t, h), now) = _
  unfold F8.fP
  simp only [this, Option.bind_some]
  rfl
/-- Changed: what comes of it. -/
theorem changed : ∃ k : Nat, okw (hfn k (hfn (many s t now) a)) ∧ okw (hfn k (fadd (hfn (many s t now) b) 4647503709213818880)) ∧
    sq (hfn k (hfn (many s t now) a)) (hfn k (fadd (hfn (many s t now) b) 4647503709213818880)) ≤ fmul s.2.2.2 s.2.2.2 ∧ (0 < k → fmul s.2.2.2 s.2.2.2 < sq (hfn (many s t now) a) (fadd (hfn (many s t now) b) 4647503709213818880)) ∧
    F10.f (s, ((a, b), t, h), now) = some ((((hfn k (hfn (many s t now) a), hfn k (fadd (hfn (many s t now) b) 4647503709213818880)), since (hfn (many s t now) a) (hfn (many s t now) b) now (t + (many s t now : Int) * s.1),
      askH s (sq (hfn k (hfn (many s t now) a)) (hfn k (fadd (hfn (many s t now) b) 4647503709213818880))) h), 0), ()) ∧
    (F22.f s = some (true, ()) → F9.f (s, (a, b, t, h), false, now) = some (((hfn k (hfn (many s t now) a), hfn k (fadd (hfn (many s t now) b) 4647503709213818880), since (hfn (many s t now) a) (hfn (many s t now) b) now (t + (many s t now : Int) * s.1),
      askH s (sq (hfn k (hfn (many s t now) a)) (hfn k (fadd (hfn (many s t now) b) 4647503709213818880))) h), 0), ())) := by
  have fa := fin_of (hfn_okw (n := many s t now) ha).p.le
  have fb := fin_of (hfn_okw (n := many s t now) hb).p.le
  have eb : fOk .add .f64 (hfn (many s t now) b) 4647503709213818880 = true := add_ok fb (by unfold infR; omega)
  obtain ⟨o1, _, _⟩ := okp_add (c := 4647503709213818880) (hfn_okw (n := many s t now) hb) (by omega) (by omega)
  obtain ⟨k, q1, q2, q3, q4, q5⟩ := PC.settle hs _ _ _ (Nat.lt_succ_self _) (hfn_okp (n := many s t now) ha.p) o1
  refine ⟨k, q1, q2, q3, q4, ?_, fun hm => addedR hs ha hb h0 h1 h2 hm false (.inr ⟨rfl, rfl, eb, rfl⟩) q1 q2 (fun t h => (q5 t h).2)⟩
  have := addedP hs (h := h) ha hb h0 h1 h2 (x := 0) (y := 4647503709213818880) ⟨add_ok fa (by unfold infR; omega), add_zero fa⟩ ⟨eb, rfl⟩ q1 q2 (fun t h => (q5 t h).1)
  obtain ⟨s0, s1, s2, s3⟩ := s
  show F10.fP F21.f ((s0, s1, s2, s3), ((a, b), t, h), now) = _
  unfold F10.fP
  simp only [this, Option.bind_some]
  rfl
end
/-! Where settings may not be. -/
section
variable {s : Se} (hm : F17.f s = some (false, ())) (a b : Nat) (t now : Int) (h : Bool)
include hm
theorem badNow : F27.f (s, now) = some (false, ()) := by
  obtain ⟨s0, s1, s2, s3⟩ := s
  show F27.fP F17.f ((s0, s1, s2, s3), now) = _
  unfold F27.fP
  simp only [hm, Option.bind_some, cond_false]
theorem bad21 (x y : Nat) : F21.f (s, ((a, b), t, h), (x, y), now) = some ((((0, 0), 0, false), 1), ()) := by
  have := badNow hm now
  obtain ⟨s0, s1, s2, s3⟩ := s
  show F21.fP F27.f F29.f F31.f F33.f F28.f F21.l1 ((s0, s1, s2, s3), ((a, b), t, h), (x, y), now) = _
  unfold F21.fP
  simp only [this, Option.bind_some, Bool.not_false, cond_true]
theorem bad8 : F8.f (s, ((a, b), t, h), now) = some ((((0, 0), 0, false), 1), ()) := by
  have := bad21 hm a b t now h 4652007308841189376 0
  obtain ⟨s0, s1, s2, s3⟩ := s
  show F8.fP F21.f ((s0, s1, s2, s3), ((a, b), t, h), now) = _
  unfold F8.fP
  simp only [this, Option.bind_some]
theorem bad10 : F10.f (s, ((a, b), t, h), now) = some ((((0, 0), 0, false), 1), ()) := by
  have := bad21 hm a b t now h 0 4647503709213818880
  obtain ⟨s0, s1, s2, s3⟩ := s
  show F10.fP F21.f ((s0, s1, s2, s3), ((a, b), t, h), now) = _
  unfold F10.fP
  simp only [this, Option.bind_some]
theorem bad11 : F11.f (s, ((a, b), t, h), now) = some ((((0, 0), 0, false), 1), ()) := by
  have := badNow hm now
  obtain ⟨s0, s1, s2, s3⟩ := s
  show F11.fP F27.f F29.f F28.f ((s0, s1, s2, s3), ((a, b), t, h), now) = _
  unfold F11.fP
  simp only [this, Option.bind_some, Bool.not_false, cond_true]
end
theorem bad9 {s : Se} (hm : F22.f s = some (false, ())) (a b : Nat) (t now : Int) (h wd : Bool) : F9.f (s, (a, b, t, h), wd, now) = some (((0, 0, 0, false), 1), ()) := by
  obtain ⟨s0, s1, s2, s3⟩ := s
  show F9.fP F22.f F23.f F24.f F25.f F26.f F9.l1 ((s0, s1, s2, s3), (a, b, t, h), wd, now) = _
  unfold F9.fP
  simp only [hm, Option.bind_some, Bool.not_false, cond_true]
theorem bad12 {s : Se} (hm : F22.f s = some (false, ())) (a b : Nat) (t now : Int) (h : Bool) : F12.f (s, (a, b, t, h), now) = some (((0, 0, 0, false), 1), ()) := by
  obtain ⟨s0, s1, s2, s3⟩ := s
  show F12.fP F22.f F23.f F26.f ((s0, s1, s2, s3), (a, b, t, h), now) = _
  unfold F12.fP
  simp only [hm, Option.bind_some, Bool.not_false, cond_true]
/-! One flap, both ways. -/
def Both (f : Option ((((Nat × Nat) × Int × Bool) × Int) × Unit)) (g : Option (((Nat × Nat × Int × Bool) × Int) × Unit)) (now : Int) : Prop :=
  ∃ a b t h e, okw a ∧ okw b ∧ 0 ≤ t ∧ t ≤ now ∧ f = some ((((a, b), t, h), e), ()) ∧ g = some (((a, b, t, h), e), ())
theorem zeroes {f : Option ((((Nat × Nat) × Int × Bool) × Int) × Unit)} {g : Option (((Nat × Nat × Int × Bool) × Int) × Unit)} {now : Int} (h : 0 ≤ now) (h1 : f = some ((((0, 0), 0, false), 1), ())) (h2 : g = some (((0, 0, 0, false), 1), ())) : Both f g now :=
  ⟨0, 0, 0, false, 1, .inl rfl, .inl rfl, Int.le_refl _, h, h1, h2⟩
section
variable {s : Se} (hw : wfS s) {a b : Nat} {t now : Int} {h : Bool} (ha : okw a) (hb : okw b) (h0 : 0 ≤ t) (h1 : t ≤ now) (h2 : now ≤ 1099511627776)
include hw ha hb h0 h1 h2
theorem both0 : Both (F8.f (s, ((a, b), t, h), now)) (F9.f (s, (a, b, t, h), true, now)) now := by
  obtain ⟨m, m1, m2, m3⟩ := may hw
  cases m with
  | false => exact zeroes (by omega) (bad8 m1 a b t now h) (bad9 m2 a b t now h true)
  | true =>
    have hs := m3 rfl
    obtain ⟨l1, l2, _⟩ := many_le hs h1
    have l3 := hs.h1
    obtain ⟨k, q1, q2, _, _, q5, q6⟩ := withdrawn hs (h := h) ha hb h0 h1 h2
    obtain ⟨g1, g2⟩ := since_ge (A := hfn (many s t now) a) (C := hfn (many s t now) b) (now := now) (T := t + (many s t now : Int) * s.1) (by have := Int.mul_nonneg (show (0 : Int) ≤ many s t now by omega) (show 0 ≤ s.1 by omega); omega) (by omega)
    exact ⟨_, _, _, _, _, q1, q2, g1, g2, q5, q6 m2⟩
theorem both1 : Both (F10.f (s, ((a, b), t, h), now)) (F9.f (s, (a, b, t, h), false, now)) now := by
  obtain ⟨m, m1, m2, m3⟩ := may hw
  cases m with
  | false => exact zeroes (by omega) (bad10 m1 a b t now h) (bad9 m2 a b t now h false)
  | true =>
    have hs := m3 rfl
    obtain ⟨l1, l2, _⟩ := many_le hs h1
    have l3 := hs.h1
    obtain ⟨k, q1, q2, _, _, q5, q6⟩ := changed hs (h := h) ha hb h0 h1 h2
    obtain ⟨g1, g2⟩ := since_ge (A := hfn (many s t now) a) (C := hfn (many s t now) b) (now := now) (T := t + (many s t now : Int) * s.1) (by have := Int.mul_nonneg (show (0 : Int) ≤ many s t now by omega) (show 0 ≤ s.1 by omega); omega) (by omega)
    exact ⟨_, _, _, _, _, q1, q2, g1, g2, q5, q6 m2⟩
theorem both2 : Both (F11.f (s, ((a, b), t, h), now)) (F12.f (s, (a, b, t, h), now)) now := by
  obtain ⟨m, m1, m2, m3⟩ := may hw
  cases m with
  | false => exact zeroes (by omega) (bad11 m1 a b t now h) (bad12 m2 a b t now h)
  | true =>
    have hs := m3 rfl
    obtain ⟨l1, l2, _⟩ := many_le hs h1
    have l3 := hs.h1
    exact ⟨_, _, _, _, _, hfn_okw ha, hfn_okw hb, by have := Int.mul_nonneg (show (0 : Int) ≤ many s t now by omega) (show 0 ≤ s.1 by omega); omega, by omega, toP hs ha hb h0 h1 h2, toR hs m2 ha hb h0 h1 h2⟩
end
theorem ofF (a b : Nat) (t : Int) (h : Bool) : F13.f ((a, b), t, h) = some ((a, b, t, h), ()) := rfl
theorem eqs {a b : Nat} {t : Int} {h : Bool} (ha : okw a) (hb : okw b) : (Op.floatEq .f64 a a && (Op.floatEq .f64 b b && (t == t && (h == h && true)))) = true := by
  rw [feq (fin_of ha.p.le) (fin_of ha.p.le), feq (fin_of hb.p.le) (fin_of hb.p.le), decide_eq_true rfl, decide_eq_true rfl]
  simp
theorem getD_at {α : Type} (l : List α) (d : α) {i : Nat} (h : i < l.length) : l.getD i d = l[i] := by rw [List.getD, List.getElem?_eq_getElem h]; rfl
def Inv3 (n : Nat) (z : ((Nat × Nat) × Int × Bool) × (Nat × Nat × Int × Bool) × Int × Int) : Prop :=
  ∃ a b t h now i, z = (((a, b), t, h), (a, b, t, h), now, i) ∧ okw a ∧ okw b ∧ 0 ≤ t ∧ t ≤ now ∧ now ≤ 255 * i ∧ 0 ≤ i ∧ i ≤ 60
theorem rounds {s : Se} (hw : wfS s) (l : List (Int × Int)) (hl : ∀ x ∈ l, 0 ≤ x.2 ∧ x.2 ≤ 255) (hn : l.length ≤ maxLen) : ∃ r, F3.l1 (l, s) (((0, 0), 0, false), (0, 0, 0, false), 0, 0) = some r ∧ r.1.1 = 0 := by
  refine iterO_inv (f := F3.r1 (l, s)) (Inv3 l.length) (fun z => 60 - z.2.2.2.toNat) (fun r => r.1.1 = 0) ?_ _ ⟨0, 0, 0, false, 0, 0, rfl, .inl rfl, .inl rfl, Int.le_refl _, Int.le_refl _, Int.le_refl _, Int.le_refl _, by decide⟩
  rintro z ⟨a, b, t, h, now, i, rfl, ha, hb, h0, h1, h2, i0, i6⟩
  obtain ⟨s0, s1, s2, s3⟩ := s
  have hf : F3.r1 (l, (s0, s1, s2, s3)) (((a, b), t, h), (a, b, t, h), now, i) = F3.r1P F8.f F9.f F10.f F11.f F12.f F13.f (l, (s0, s1, s2, s3)) (((a, b), t, h), (a, b, t, h), now, i) := rfl
  rw [hf]
  unfold F3.r1P
  dsimp only
  by_cases c1 : i < ((l.length : Nat) : Int)
  case neg => exact .inr ⟨_, by rw [decide_eq_false c1]; rfl, rfl⟩
  by_cases c2 : i < 60
  case neg => exact .inr ⟨_, by rw [decide_eq_true c1, decide_eq_false c2]; rfl, rfl⟩
  have hn : i.toNat < l.length := by omega
  have c3 : decide (0 ≤ i ∧ i < ((l.length : Nat) : Int) ∧ 0 < l.length) = true := by simp; omega
  have c4 : decide (0 + i.toNat < l.length) = true := by simp; omega
  rw [decide_eq_true c1, decide_eq_true c2]
  simp only [c3, c4, cond_true]
  have e1 : l.getD (0 + i.toNat) (0, 0) = l[i.toNat] := by rw [Nat.zero_add]; exact getD_at l _ hn
  rw [e1]
  have hx := hl l[i.toNat] (List.getElem_mem hn)
  generalize l[i.toNat] = x at *
  obtain ⟨w, d⟩ := x
  simp only at hx ⊢
  rw [wrap64_id (show -9223372036854775808 ≤ d ∧ d ≤ 9223372036854775807 by omega), wrap64_id (show -9223372036854775808 ≤ now + d ∧ now + d ≤ 9223372036854775807 by omega), wrap64_id (show -9223372036854775808 ≤ i + 1 ∧ i + 1 ≤ 9223372036854775807 by omega)]
  have fin : ∀ {a' b' : Nat} {t' : Int} {h' : Bool}, okw a' → okw b' → 0 ≤ t' → t' ≤ now + d →
      Inv3 l.length (((a', b'), t', h'), (a', b', t', h'), now + d, i + 1) ∧ 60 - (i + 1).toNat < 60 - i.toNat := fun x1 x2 x3 x4 =>
    ⟨⟨_, _, _, _, _, _, rfl, x1, x2, x3, x4, by omega, by omega, by omega⟩, by omega⟩
  left
  cases hw0 : w == 0 with
  | true =>
    obtain ⟨a', b', t', h', e, o1, o2, o3, o4, p1, p2⟩ := both0 hw (h := h) (now := now + d) ha hb h0 (by omega) (by omega)
    obtain ⟨f1, f2⟩ := fin o1 o2 o3 o4 (h' := h')
    refine ⟨_, ?_, f1, f2⟩
    simp only [cond_true, p1, p2, ofF, Option.bind_some, eqs o1 o2, Bool.not_true, cond_false, bne_self_eq_false]
  | false =>
    cases hw1 : w == 1 with
    | true =>
      obtain ⟨a', b', t', h', e, o1, o2, o3, o4, p1, p2⟩ := both1 hw (h := h) (now := now + d) ha hb h0 (by omega) (by omega)
      obtain ⟨f1, f2⟩ := fin o1 o2 o3 o4 (h' := h')
      refine ⟨_, ?_, f1, f2⟩
      simp only [cond_true, p1, p2, ofF, Option.bind_some, eqs o1 o2, Bool.not_true, cond_false, bne_self_eq_false]
    | false =>
      obtain ⟨a', b', t', h', e, o1, o2, o3, o4, p1, p2⟩ := both2 hw (h := h) (now := now + d) ha hb h0 (by omega) (by omega)
      obtain ⟨f1, f2⟩ := fin o1 o2 o3 o4 (h' := h')
      refine ⟨_, ?_, f1, f2⟩
      simp only [cond_true, p1, p2, ofF, Option.bind_some, eqs o1 o2, Bool.not_true, cond_false, bne_self_eq_false]
theorem wf_flt {n : Nat} (h : (Lit.float .f64 n).wf = true) : n < 18446744073709551616 := by
  simp [Lit.wf] at h
  exact h
theorem dampRuns (d : Den F3.i) (hd : wfD F3.i d) : ∃ q, F3.f d = some (true, q) := by
  obtain ⟨⟨s0, s1, s2, s3⟩, l⟩ := d
  have hw : wfS (s0, s1, s2, s3) := ⟨wf_flt hd.1.2.1, wf_flt hd.1.2.2.1, wf_flt hd.1.2.2.2.1⟩
  have hl : ∀ x ∈ l, 0 ≤ x.2 ∧ x.2 ≤ 255 := fun x hx => (hd.2.1.2 x hx).2.1
  refine ⟨(), ?_⟩
  show F3.fP F8.f F9.f F10.f F11.f F12.f F13.f F3.l1 ((s0, s1, s2, s3), l) = _
  unfold F3.fP
  dsimp only
  obtain ⟨r, e1, e2⟩ := rounds hw l hl hd.2.1.1
  rw [decide_eq_true (show 0 + l.length ≤ l.length by omega), List.take_length, e1]
  simp only [Bool.and_true, cond_true, Option.bind_some, e2]
  rfl
end Go.Proofs.Ytglbcjmebjeokaa.PD

/- Chapter 20: whole numbers as floats; settings that are brought; a figure behind flaps. -/
namespace Go.Proofs.Ytglbcjmebjeokaa.PE
open Go Go.Proofs Go.Proofs.Ytglbcjmebjeokaa.Sx Go.Proofs.Ytglbcjmebjeokaa.FL Go.Proofs.Ytglbcjmebjeokaa.PB Go.Proofs.Ytglbcjmebjeokaa.PC Go.Proofs.Ytglbcjmebjeokaa.PD
set_option linter.unusedSimpArgs false
set_option linter.unusedVariables false
/-- A whole number as a float. -/
def fN (n : Nat) : Nat := nr n ((1074 : Nat) : Int)
theorem near (n : Int) (h : 0 ≤ n) : FloatKind.f64.nearest n = fN n.toNat := by
  show Ieee.double.write (.number (n < 0) n.natAbs 0) = _
  unfold Ieee.Format.write fN
  simp only
  rw [decide_eq_false (show ¬ n < 0 by omega), show n.natAbs = n.toNat by omega]
  exact nearest_eq n.toNat ((1074 : Nat) : Int)
theorem exact1 {m t : Nat} (h0 : m ≠ 0) (h : m < 9007199254740992) (ht : 52 ≤ t) (ht2 : t ≤ 1900) : nr m (t : Int) < infR ∧ uval (nr m (t : Int)) = m * 2 ^ t := by
  have l1 := Nat.log2_self_le h0
  have l2 : m < 2 ^ (m.log2 + 1) := Nat.lt_log2_self
  have l3 : m.log2 ≤ 52 := Nat.le_of_lt_succ ((Nat.log2_lt h0).2 h)
  generalize m.log2 = l at *
  have mb1 : B ≤ m * 2 ^ (52 - l) := by
    have : 2 ^ l * 2 ^ (52 - l) ≤ m * 2 ^ (52 - l) := Nat.mul_le_mul_right _ l1
    rw [← Nat.pow_add, show l + (52 - l) = 52 by omega] at this
    exact this
  have mb2 : m * 2 ^ (52 - l) < 2 * B := by
    have : m * 2 ^ (52 - l) < 2 ^ (l + 1) * 2 ^ (52 - l) := Nat.mul_lt_mul_of_pos_right l2 (Nat.two_pow_pos _)
    rw [← Nat.pow_add, show l + 1 + (52 - l) = 53 by omega] at this
    exact this
  have hpw : m * 2 ^ (52 - l) * 2 ^ (t + l - 52) = m * 2 ^ t := by
    rw [Nat.mul_assoc, ← Nat.pow_add, show 52 - l + (t + l - 52) = t by omega]
  generalize hM : m * 2 ^ (52 - l) = M at *
  generalize hE : t + l - 52 = e at *
  have hr : e * B + M < infR := by
    have : e * B ≤ 1900 * B := Nat.mul_le_mul_right _ (by omega)
    unfold B infR at *
    omega
  have hd : (e * B + M) / B = e + 1 := by
    rw [Nat.div_eq_iff (by decide)]
    unfold B at *
    omega
  have hm : (e * B + M) % B = M - B := by
    have := Nat.div_add_mod (e * B + M) B
    rw [hd] at this
    have e1 : B * (e + 1) = e * B + B := by rw [Nat.mul_add, Nat.mul_one, Nat.mul_comm]
    rw [e1] at this
    unfold B at *
    omega
  have mg : mag (e * B + M) = M := by
    unfold mag
    rw [if_neg (by unfold B at *; omega), hm]
    unfold B at *
    omega
  have xe : ex (e * B + M) = e := by unfold ex; rw [hd]; omega
  have k := nr_self hr
  rw [mg, xe] at k
  have main : nr m (t : Int) = e * B + M := by
    refine Nat.le_antisymm ?_ ?_
    · conv => rhs; rw [← k]
      refine nr_mono 0 (by omega) (by omega) ?_
      simp only [Int.sub_zero, Int.toNat_natCast]
      rw [hpw]; exact Nat.le_refl _
    · conv => lhs; rw [← k]
      refine nr_mono 0 (by omega) (by omega) ?_
      simp only [Int.sub_zero, Int.toNat_natCast]
      rw [hpw]; exact Nat.le_refl _
  rw [main]
  refine ⟨hr, ?_⟩
  unfold uval
  rw [mg, xe]; exact hpw
theorem valK {t : Nat} (ht : 52 ≤ t) (ht2 : t ≤ 1900) {n : Nat} (h : n < 9007199254740992) : nr n (t : Int) < infR ∧ uval (nr n (t : Int)) = n * 2 ^ t := by
  by_cases h0 : n = 0
  · subst h0
    have e : nr 0 (t : Int) = 0 := if_pos rfl
    have z : uval 0 = 0 := by decide
    rw [e, z, Nat.zero_mul]
    exact ⟨by unfold infR; omega, rfl⟩
  · exact exact1 h0 h ht ht2
theorem addK {t : Nat} (ht : 52 ≤ t) (ht2 : t ≤ 1900) {a b : Nat} (h : a + b < 9007199254740992) : fadd (nr a (t : Int)) (nr b (t : Int)) = nr (a + b) (t : Int) := by
  obtain ⟨a1, a2⟩ := valK ht ht2 (n := a) (by omega)
  obtain ⟨b1, b2⟩ := valK ht ht2 (n := b) (by omega)
  obtain ⟨S, e1, e2⟩ := add_fin a1 b1
  rw [a2, b2, ← Nat.add_mul] at e2
  unfold fadd fVal
  rw [e1]
  show nr S _ = nr (a + b) (t : Int)
  generalize min (ex (nr a (t : Int))) (ex (nr b (t : Int))) = q at *
  refine Nat.le_antisymm ?_ ?_
  · refine nr_mono 0 (by omega) (by omega) ?_
    simp only [Int.sub_zero, Int.toNat_natCast]
    rw [e2]; exact Nat.le_refl _
  · refine nr_mono 0 (by omega) (by omega) ?_
    simp only [Int.sub_zero, Int.toNat_natCast]
    rw [e2]; exact Nat.le_refl _
theorem ltK {t : Nat} (ht : 52 ≤ t) (ht2 : t ≤ 1900) {a b : Nat} (h : a < b) (hb : b < 9007199254740992) : nr a (t : Int) < nr b (t : Int) := by
  obtain ⟨a1, a2⟩ := valK ht ht2 (n := a) (by omega)
  obtain ⟨b1, b2⟩ := valK ht ht2 (n := b) hb
  refine Nat.lt_of_not_le fun hle => ?_
  have := uval_le hle
  rw [a2, b2] at this
  exact Nat.not_lt.2 (Nat.le_of_mul_le_mul_right this (Nat.two_pow_pos _)) h
theorem fN_fin {n : Nat} (h : n < 9007199254740992) : fN n < infR := (valK (by omega) (by omega) h).1
theorem fN_add {a b : Nat} (h : a + b < 9007199254740992) : fadd (fN a) (fN b) = fN (a + b) := addK (by omega) (by omega) h
theorem fN_lt {a b : Nat} (h : a < b) (hb : b < 9007199254740992) : fN a < fN b := ltK (by omega) (by omega) h hb
theorem fN_le {a b : Nat} (h : a ≤ b) (hb : b < 9007199254740992) : fN a ≤ fN b := by
  rcases Nat.lt_or_ge a b with h1 | h1
  · exact Nat.le_of_lt (fN_lt h1 hb)
  · rw [show a = b by omega]; exact Nat.le_refl _
theorem fN1 : fN 1 = 4607182418800017408 := by decide
theorem fN20 : fN 1048576 = 4697254411347427328 := by decide
/-! Settings that are brought. -/
def setOf (n0 n1 n2 n3 : Int) : Se :=
  (1 + n0.tmod 256, fN (1 + (n1.tmod 1000).toNat + 1 + (n2.tmod 4000).toNat), fN (1 + (n1.tmod 1000).toNat), fN (1 + (n1.tmod 1000).toNat + 1 + (n2.tmod 4000).toNat + n3.toNat))
theorem tmod_in (n : Int) (h : 0 ≤ n) {m : Int} (hm : 0 < m) : 0 ≤ n.tmod m ∧ n.tmod m < m := by
  rw [Int.tmod_eq_emod_of_nonneg h]
  exact ⟨Int.emod_nonneg _ (by omega), Int.emod_lt_of_pos _ hm⟩
theorem settings {n0 n1 n2 n3 : Int} (h0 : 0 ≤ n0) (h1 : 0 ≤ n1) (h2 : 0 ≤ n2) (h3 : 0 ≤ n3 ∧ n3 ≤ 65535) :
    F15.f (n0, n1, n2, n3) = some (setOf n0 n1 n2 n3, ()) ∧ SOk (setOf n0 n1 n2 n3) ∧ (setOf n0 n1 n2 n3).1 ≤ 256 := by
  obtain ⟨a1, a2⟩ := tmod_in n0 h0 (m := 256) (by omega)
  obtain ⟨b1, b2⟩ := tmod_in n1 h1 (m := 1000) (by omega)
  obtain ⟨c1, c2⟩ := tmod_in n2 h2 (m := 4000) (by omega)
  unfold setOf
  have e1 := near _ b1
  have e2 := near _ c1
  have e3 := near _ h3.1
  have hb : (n1.tmod 1000).toNat < 1000 := by omega
  have hc : (n2.tmod 4000).toNat < 4000 := by omega
  have hd : n3.toNat < 65536 := by omega
  refine ⟨?_, ⟨by simp only; omega, by simp only; omega, ?_, ?_, ?_, ?_⟩, by simp only; omega⟩
  · show F15.fP (n0, n1, n2, n3) = _
    unfold F15.fP
    simp only [e1, e2, e3]
    generalize (n1.tmod 1000).toNat = p at *
    generalize (n2.tmod 4000).toNat = q at *
    generalize n3.toNat = r at *
    have s1 : fVal .add .f64 4607182418800017408 (fN p) = fN (1 + p) := by rw [← fN1]; exact fN_add (by omega)
    have s2 : fVal .add .f64 (fN (1 + p)) 4607182418800017408 = fN (1 + p + 1) := by rw [← fN1]; exact fN_add (by omega)
    have s3 : fVal .add .f64 (fN (1 + p + 1)) (fN q) = fN (1 + p + 1 + q) := fN_add (by omega)
    have s4 : fVal .add .f64 (fN (1 + p + 1 + q)) (fN r) = fN (1 + p + 1 + q + r) := fN_add (by omega)
    have o1 : fOk .add .f64 4607182418800017408 (fN p) = true := add_ok (by unfold infR; omega) (fN_fin (by omega))
    have o2 : fOk .add .f64 (fN (1 + p)) 4607182418800017408 = true := add_ok (fN_fin (by omega)) (by unfold infR; omega)
    have o3 : fOk .add .f64 (fN (1 + p + 1)) (fN q) = true := add_ok (fN_fin (by omega)) (fN_fin (by omega))
    have o4 : fOk .add .f64 (fN (1 + p + 1 + q)) (fN r) = true := add_ok (fN_fin (by omega)) (fN_fin (by omega))
    simp only [s1, o1, s2, o2, s3, o3, s4, o4, cond_true]
    rw [wrap64_id (show -9223372036854775808 ≤ n0.tmod 256 ∧ n0.tmod 256 ≤ 9223372036854775807 by omega), wrap64_id (by omega)]
  · show 4607182418800017408 ≤ fN _
    rw [← fN1]; exact fN_le (by omega) (by omega)
  · exact fN_lt (by omega) (by omega)
  · exact fN_le (by omega) (by omega)
  · show fN _ ≤ 4697254411347427328
    rw [← fN20]; exact fN_le (by omega) (by omega)
/-! A figure behind flaps. -/
structure Fig (s : Se) (a b : Nat) (t : Int) (h : Bool) (now : Int) : Prop where
  ha : okw a
  hb : okw b
  h0 : 0 ≤ t
  h1 : t ≤ now
  hh : now - t < s.1
  hc : sq a b ≤ fmul s.2.2.2 s.2.2.2
  ask : askH s (sq a b) h = h
theorem ask2 {s : Se} {n : Nat} {h : Bool} : askH s n (askH s n h) = askH s n h := by
  unfold askH
  cases decide (fmul s.2.1 s.2.1 ≤ n) <;> cases decide (n < fmul s.2.2.1 s.2.2.1) <;> rfl
theorem sqr_pos {s : Se} (hs : SOk s) : 4607182418800017408 ≤ fmul s.2.2.1 s.2.2.1 ∧ 4607182418800017408 ≤ fmul s.2.1 s.2.1 := by
  obtain ⟨k1, k2, _⟩ := hs.fin
  have h1 := mul_mono hs.r1 hs.r1 (fin_of k2) (fin_of k2)
  have hc : 4607182418800017408 ≤ s.2.1 := by have := hs.r1; have := hs.rc; omega
  have h2 := mul_mono hc hc (fin_of k1) (fin_of k1)
  rw [mul_one] at h1 h2
  exact ⟨h1, h2⟩
theorem ask0 {s : Se} (hs : SOk s) (h : Bool) : askH s 0 h = false := by
  obtain ⟨h1, h2⟩ := sqr_pos hs
  unfold askH
  rw [decide_eq_false (by omega), decide_eq_true (by omega)]
  rfl
theorem since_lt {A C : Nat} {now T m : Int} (h : now - T < m) (hm : 0 < m) : now - since A C now T < m := by
  unfold since
  cases decide (A = 0) && decide (C = 0)
  · exact h
  · show now - now < m
    omega
theorem Fig.zero {s : Se} (hs : SOk s) : Fig s 0 0 0 false 0 := ⟨.inl rfl, .inl rfl, by omega, by omega, by have := hs.h1; omega, by rw [sq00]; omega, by rw [sq00]; exact ask0 hs false⟩
section
variable {s : Se} (hs : SOk s) {a b : Nat} {t now0 now : Int} {h : Bool} (f : Fig s a b t h now0) (hn : now0 ≤ now) (h2 : now ≤ 1099511627776)
include hs f hn h2
theorem Fig.to : Fig s (hfn (many s t now) a) (hfn (many s t now) b) (t + (many s t now : Int) * s.1) (toN s a b t h now) now ∧
    F11.f (s, ((a, b), t, h), now) = some ((((hfn (many s t now) a, hfn (many s t now) b), t + (many s t now : Int) * s.1, toN s a b t h now), 0), ()) := by
  have h1 := Int.le_trans f.h1 hn
  obtain ⟨l1, l2, _⟩ := many_le hs h1
  have l3 := hs.h1
  have l4 := Int.mul_nonneg (show (0 : Int) ≤ many s t now by omega) (show 0 ≤ s.1 by omega)
  have f0 := f.h0
  exact ⟨⟨hfn_okw f.ha, hfn_okw f.hb, by omega, by omega, by omega, Nat.le_trans (sq_mono (hfn_le _ _) (hfn_le _ _) f.ha.p.le f.hb.p.le) f.hc, ask2⟩, toP hs f.ha f.hb f.h0 h1 h2⟩
theorem Fig.with8 : ∃ a' b' t' h', Fig s a' b' t' h' now ∧ F8.f (s, ((a, b), t, h), now) = some ((((a', b'), t', h'), 0), ()) := by
  have h1 := Int.le_trans f.h1 hn
  obtain ⟨l1, l2, _⟩ := many_le hs h1
  have l3 := hs.h1
  have l4 := Int.mul_nonneg (show (0 : Int) ≤ many s t now by omega) (show 0 ≤ s.1 by omega)
  have f0 := f.h0
  obtain ⟨k, q1, q2, q3, _, q5, _⟩ := withdrawn hs (h := h) f.ha f.hb f.h0 h1 h2
  obtain ⟨g1, g2⟩ := since_ge (A := hfn (many s t now) a) (C := hfn (many s t now) b) (now := now) (T := t + (many s t now : Int) * s.1) (by omega) (by omega)
  exact ⟨_, _, _, _, ⟨q1, q2, g1, g2, since_lt (by omega) (by omega), q3, ask2⟩, q5⟩
theorem Fig.with10 : ∃ a' b' t' h', Fig s a' b' t' h' now ∧ F10.f (s, ((a, b), t, h), now) = some ((((a', b'), t', h'), 0), ()) := by
  have h1 := Int.le_trans f.h1 hn
  obtain ⟨l1, l2, _⟩ := many_le hs h1
  have l3 := hs.h1
  have l4 := Int.mul_nonneg (show (0 : Int) ≤ many s t now by omega) (show 0 ≤ s.1 by omega)
  have f0 := f.h0
  obtain ⟨k, q1, q2, q3, _, q5, _⟩ := changed hs (h := h) f.ha f.hb f.h0 h1 h2
  obtain ⟨g1, g2⟩ := since_ge (A := hfn (many s t now) a) (C := hfn (many s t now) b) (now := now) (T := t + (many s t now : Int) * s.1) (by omega) (by omega)
  exact ⟨_, _, _, _, ⟨q1, q2, g1, g2, since_lt (by omega) (by omega), q3, ask2⟩, q5⟩
end
theorem runLoop {s : Se} (hs : SOk s) (l : List (Int × Int)) (hl : ∀ x ∈ l, 0 ≤ x.2 ∧ x.2 ≤ 255) (hm : l.length ≤ maxLen) :
    ∃ r, F16.l1 (s, l, ((l.length : Nat) : Int)) (((0, 0), 0, false), 0, 0) = some r ∧ ∃ a b t h now, r = (now, (a, b), t, h) ∧ Fig s a b t h now ∧ 0 ≤ now ∧ now ≤ 15300 := by
  have hmx : maxLen ≤ 9223372036854775807 := by decide
  refine iterO_inv (f := F16.r1 (s, l, ((l.length : Nat) : Int))) (fun z => ∃ a b t h now i, z = (((a, b), t, h), now, i) ∧ Fig s a b t h now ∧ 0 ≤ now ∧ now ≤ 255 * i ∧ 0 ≤ i ∧ i ≤ 60 ∧ i ≤ l.length) (fun z => l.length - z.2.2.toNat) _ ?_ _ ⟨0, 0, 0, false, 0, 0, rfl, Fig.zero hs, by omega, by omega, by omega, by omega, by omega⟩
  rintro z ⟨a, b, t, h, now, i, rfl, f, n0, n1, i0, i6, il⟩
  obtain ⟨s0, s1, s2, s3⟩ := s
  have hf : F16.r1 ((s0, s1, s2, s3), l, ((l.length : Nat) : Int)) (((a, b), t, h), now, i) = F16.r1P F8.f F10.f F11.f ((s0, s1, s2, s3), l, ((l.length : Nat) : Int)) (((a, b), t, h), now, i) := rfl
  rw [hf]
  unfold F16.r1P
  dsimp only
  by_cases c1 : i < ((l.length : Nat) : Int)
  case neg => exact .inr ⟨_, by rw [decide_eq_false c1]; rfl, _, _, _, _, _, rfl, f, n0, by omega⟩
  have hn : i.toNat < l.length := by omega
  have c3 : decide (0 ≤ i ∧ i < ((l.length : Nat) : Int) ∧ 0 < l.length) = true := by simp; omega
  have c4 : decide (0 + i.toNat < l.length) = true := by simp; omega
  rw [decide_eq_true c1]
  simp only [c3, c4, cond_true]
  by_cases c2 : i = 60
  · exact .inr ⟨_, by subst c2; rfl, _, _, _, _, _, rfl, f, n0, by omega⟩
  have c2' : (i == 60) = false := by simpa using c2
  rw [c2']
  have e1 : l.getD (0 + i.toNat) (0, 0) = l[i.toNat] := by rw [Nat.zero_add]; exact getD_at l _ hn
  rw [e1]
  have hx := hl l[i.toNat] (List.getElem_mem hn)
  generalize l[i.toNat] = x at *
  obtain ⟨w, d⟩ := x
  simp only [cond_false] at hx ⊢
  rw [wrap64_id (show -9223372036854775808 ≤ d ∧ d ≤ 9223372036854775807 by omega), wrap64_id (show -9223372036854775808 ≤ now + d ∧ now + d ≤ 9223372036854775807 by omega), wrap64_id (show -9223372036854775808 ≤ i + 1 ∧ i + 1 ≤ 9223372036854775807 by omega)]
  left
  cases hw0 : w == 0 with
  | true =>
    obtain ⟨a', b', t', h', f', p⟩ := f.with8 hs (now := now + d) (by omega) (by omega)
    exact ⟨_, by simp only [cond_true, p, Option.bind_some]; rfl, ⟨_, _, _, _, _, _, rfl, f', by omega, by omega, by omega, by omega, by omega⟩, by show _ - (i + 1).toNat < _; omega⟩
  | false =>
    cases hw1 : w == 1 with
    | true =>
      obtain ⟨a', b', t', h', f', p⟩ := f.with10 hs (now := now + d) (by omega) (by omega)
      exact ⟨_, by simp only [cond_true, cond_false, p, Option.bind_some]; rfl, ⟨_, _, _, _, _, _, rfl, f', by omega, by omega, by omega, by omega, by omega⟩, by show _ - (i + 1).toNat < _; omega⟩
    | false =>
      obtain ⟨f', p⟩ := f.to hs (now := now + d) (by omega) (by omega)
      exact ⟨_, by simp only [cond_false, p, Option.bind_some]; rfl, ⟨_, _, _, _, _, _, rfl, f', by omega, by omega, by omega, by omega, by omega⟩, by show _ - (i + 1).toNat < _; omega⟩
theorem run {s : Se} (hs : SOk s) (l : List (Int × Int)) (hl : ∀ x ∈ l, 0 ≤ x.2 ∧ x.2 ≤ 255) (hm : l.length ≤ maxLen) :
    ∃ a b t h now, F16.f (s, l) = some ((((a, b), t, h), now), ()) ∧ Fig s a b t h now ∧ 0 ≤ now ∧ now ≤ 15300 := by
  obtain ⟨r, e1, a, b, t, h, now, rfl, f, n0, n1⟩ := runLoop hs l hl hm
  refine ⟨a, b, t, h, now, ?_, f, n0, n1⟩
  obtain ⟨s0, s1, s2, s3⟩ := s
  show F16.fP F8.f F10.f F11.f F16.l1 ((s0, s1, s2, s3), l) = _
  unfold F16.fP
  dsimp only
  rw [decide_eq_true (show 0 + l.length ≤ l.length by omega), List.take_length, e1]
  rfl
theorem squareF {a b : Nat} {t : Int} {h : Bool} (ha : okw a) (hb : okw b) : F18.f ((a, b), t, h) = some (sq a b, ()) := by
  show F18.fP F32.f F31.f ((a, b), t, h) = _
  unfold F18.fP
  simp only [clean (fin_of ha.p.le) (fin_of hb.p.le), pt_okw ha, pt_okw hb, square ha.p.le hb.p.le, Option.bind_some]
end Go.Proofs.Ytglbcjmebjeokaa.PE

/- Chapter 20: in steps. -/
namespace Go.Proofs.Ytglbcjmebjeokaa.PF
open Go Go.Proofs Go.Proofs.Ytglbcjmebjeokaa.Sx Go.Proofs.Ytglbcjmebjeokaa.FL Go.Proofs.Ytglbcjmebjeokaa.PB Go.Proofs.Ytglbcjmebjeokaa.PC Go.Proofs.Ytglbcjmebjeokaa.PD Go.Proofs.Ytglbcjmebjeokaa.PE
set_option linter.unusedSimpArgs false
set_option linter.unusedVariables false
theorem ask_cases (s : Se) (n : Nat) (h : Bool) : (fmul s.2.1 s.2.1 ≤ n ∧ askH s n h = true) ∨ (¬ fmul s.2.1 s.2.1 ≤ n ∧ n < fmul s.2.2.1 s.2.2.1 ∧ askH s n h = false) ∨ (¬ fmul s.2.1 s.2.1 ≤ n ∧ ¬ n < fmul s.2.2.1 s.2.2.1 ∧ askH s n h = h) := by
  unfold askH
  by_cases h1 : fmul s.2.1 s.2.1 ≤ n
  · exact .inl ⟨h1, by rw [decide_eq_true h1]; rfl⟩
  · by_cases h2 : n < fmul s.2.2.1 s.2.2.1
    · exact .inr (.inl ⟨h1, h2, by rw [decide_eq_false h1, decide_eq_true h2]; rfl⟩)
    · exact .inr (.inr ⟨h1, h2, by rw [decide_eq_false h1, decide_eq_false h2]; rfl⟩)
theorem ask_comp {s : Se} {n3 n2 n1 : Nat} {h : Bool} (h32 : n3 ≤ n2) (h21 : n2 ≤ n1) (hi : askH s n1 h = h) : askH s n3 (askH s n2 h) = askH s n3 h := by
  rcases ask_cases s n3 (askH s n2 h) with ⟨a1, a2⟩ | ⟨a1, a2, a3⟩ | ⟨a1, a2, a3⟩ <;> rcases ask_cases s n3 h with ⟨b1, b2⟩ | ⟨b1, b2, b3⟩ | ⟨b1, b2, b3⟩ <;> first | omega | skip
  · rw [a2, b2]
  · rw [a3, b3]
  · rw [a3, b3]
    rcases ask_cases s n2 h with ⟨c1, c2⟩ | ⟨c1, c2, c3⟩ | ⟨c1, c2, c3⟩
    · rcases ask_cases s n1 h with ⟨d1, d2⟩ | ⟨d1, d2, d3⟩ | ⟨d1, d2, d3⟩
      · rw [c2, ← hi, d2]
      · omega
      · omega
    · omega
    · exact c3
theorem many_add {s : Se} (hs : SOk s) {t now1 now2 : Int} (h1 : t ≤ now1) (h2 : now1 ≤ now2) :
    many s t now1 + many s (t + (many s t now1 : Int) * s.1) now2 = many s t now2 := by
  obtain ⟨a1, a2, a3⟩ := many_le hs h1
  obtain ⟨b1, b2, b3⟩ := many_le hs (show t + (many s t now1 : Int) * s.1 ≤ now2 by omega)
  obtain ⟨c1, c2, c3⟩ := many_le hs (show t ≤ now2 by omega)
  have g := hs.h1
  have e : now2 - (t + (many s t now1 : Int) * s.1) = (now2 - t) - (many s t now1 : Int) * s.1 := by omega
  rw [e, Int.sub_mul_ediv_right _ _ (show s.1 ≠ 0 by omega), ← c3] at b3
  omega
section
variable {s : Se} (hs : SOk s) {a b : Nat} {t now0 now1 now2 : Int} {h : Bool} (f : Fig s a b t h now0) (hn : now0 ≤ now1) (hn2 : now1 ≤ now2) (h2 : now2 ≤ 1099511627776)
include hs f hn hn2 h2
theorem steps : ∃ A C T H A' C' T' H', Fig s A C T H now1 ∧ F11.f (s, ((a, b), t, h), now1) = some ((((A, C), T, H), 0), ()) ∧ sq A C ≤ sq a b ∧
    Fig s A' C' T' H' now2 ∧ F11.f (s, ((a, b), t, h), now2) = some ((((A', C'), T', H'), 0), ()) ∧ F11.f (s, ((A, C), T, H), now2) = some ((((A', C'), T', H'), 0), ()) ∧ sq A' C' ≤ sq A C := by
  obtain ⟨f1, p1⟩ := f.to hs hn (show now1 ≤ 1099511627776 by omega)
  obtain ⟨f2, p2⟩ := f.to hs (show now0 ≤ now2 by omega) h2
  obtain ⟨f3, p3⟩ := f1.to hs hn2 h2
  have hm := many_add hs (show t ≤ now1 from Int.le_trans f.h1 hn) hn2
  have e1 : ∀ x, hfn (many s (t + (many s t now1 : Int) * s.1) now2) (hfn (many s t now1) x) = hfn (many s t now2) x := by
    intro x
    rw [hfn_add, Nat.add_comm, hm]
  have e2 : t + (many s t now1 : Int) * s.1 + (many s (t + (many s t now1 : Int) * s.1) now2 : Int) * s.1 = t + (many s t now2 : Int) * s.1 := by
    rw [← hm, Int.natCast_add, Int.add_mul]; omega
  have s1 : sq (hfn (many s t now1) a) (hfn (many s t now1) b) ≤ sq a b := sq_mono (hfn_le _ _) (hfn_le _ _) f.ha.p.le f.hb.p.le
  have s2 : sq (hfn (many s t now2) a) (hfn (many s t now2) b) ≤ sq (hfn (many s t now1) a) (hfn (many s t now1) b) := by
    rw [← e1, ← e1]
    exact sq_mono (hfn_le _ _) (hfn_le _ _) f1.ha.p.le f1.hb.p.le
  have e3 : toN s (hfn (many s t now1) a) (hfn (many s t now1) b) (t + (many s t now1 : Int) * s.1) (toN s a b t h now1) now2 = toN s a b t h now2 := by
    unfold toN
    rw [e1, e1]
    exact ask_comp s2 s1 f.ask
  rw [e1, e1, e2, e3] at p3
  exact ⟨_, _, _, _, _, _, _, _, f1, p1, s1, f2, p2, p3, s2⟩
end
theorem gone {s : Se} (hs : SOk s) {a b : Nat} {t now : Int} {h : Bool} (f : Fig s a b t h now) (hb : now + 42 * s.1 ≤ 1099511627776) : ∃ T, F11.f (s, ((a, b), t, h), now + 42 * s.1) = some ((((0, 0), T, false), 0), ()) := by
  have g := hs.h1
  obtain ⟨_, p⟩ := f.to hs (show now ≤ now + 42 * s.1 by omega) hb
  have h1 := f.h1
  obtain ⟨l1, l2, _⟩ := many_le hs (show t ≤ now + 42 * s.1 by omega)
  have h42 : 42 ≤ many s t (now + 42 * s.1) := by
    refine Nat.le_of_not_lt fun hlt => ?_
    have : (many s t (now + 42 * s.1) : Int) * s.1 ≤ 41 * s.1 := Int.mul_le_mul_of_nonneg_right (by omega) (by omega)
    omega
  have z : ∀ {x}, okw x → hfn (many s t (now + 42 * s.1)) x = 0 := fun hx => hfn_cap hx.p.le h42
  have e : toN s a b t h (now + 42 * s.1) = false := by
    unfold toN
    rw [z f.ha, z f.hb, sq00]
    exact ask0 hs h
  rw [z f.ha, z f.hb, e] at p
  exact ⟨_, p⟩
theorem notGtr {x y : Nat} (hx : x < infR) (hy : y < infR) (h : x ≤ y) : fCmp .gtr .f64 x y = false := by
  rw [cmp_gtr hx hy]
  exact decide_eq_false (by omega)
theorem selfEq {A : Nat} (ha : okw A) : Op.floatEq .f64 A A = true := by
  rw [feq (fin_of ha.p.le) (fin_of ha.p.le), decide_eq_true rfl]
theorem geq0 {x : Nat} (hx : x < infR) : fCmp .geq .f64 x 0 = true := by
  rw [cmp_geq hx (by unfold infR; omega)]
  exact decide_eq_true (Nat.zero_le _)
theorem eql00 : fCmp .eql .f64 0 0 = true := by decide
theorem run4 (n0 n1 n2 n3 : Int) (l : List (Int × Int)) (one two : Int) (h0 : 0 ≤ n0) (h1 : 0 ≤ n1) (h2 : 0 ≤ n2) (h3 : 0 ≤ n3 ∧ n3 ≤ 65535) (hl : ∀ x ∈ l, 0 ≤ x.2 ∧ x.2 ≤ 255) (hm : l.length ≤ maxLen)
    (o1 : 0 ≤ one ∧ one ≤ 65535) (o2 : 0 ≤ two ∧ two ≤ 65535) : F4.f ((n0, n1, n2, n3), l, one, two) = some (true, ()) := by
  obtain ⟨e15, hs, hh⟩ := settings h0 h1 h2 h3
  generalize setOf n0 n1 n2 n3 = s at *
  obtain ⟨a, b, t, h, now, e16, f, w0, w1⟩ := run hs l hl hm
  obtain ⟨A, C, T, H, A', C', T', H', f1, p1, q1, f2, p2, p3, q2⟩ := steps hs f (now1 := now + one) (now2 := now + one + two) (by omega) (by omega) (by omega)
  obtain ⟨U, p4⟩ := gone hs f (by omega)
  have m := mayGood hs
  obtain ⟨_, _, k3⟩ := hs.fin
  have g1 := hs.h1
  have hc := f.hc
  have hh' := f.hh
  obtain ⟨s0, s1, s2, s3⟩ := s
  simp only at hh g1 p1 p2 p3 p4 k3 hc hh'
  have fc : fmul s3 s3 < infR := mulFin k3 k3
  have v1 : IntKind.i64.wrap one = one := wrap64_id (by omega)
  have v2 : IntKind.i64.wrap two = two := wrap64_id (by omega)
  have v3 : IntKind.i64.wrap (now + one) = now + one := wrap64_id (by omega)
  have v4 : IntKind.i64.wrap (now + one + two) = now + one + two := wrap64_id (by omega)
  have v5 : IntKind.i64.wrap (42 * s0) = 42 * s0 := wrap64_id (by omega)
  have v6 : IntKind.i64.wrap (now + 42 * s0) = now + 42 * s0 := wrap64_id (by omega)
  have ft := f.h0
  have ft1 := f.h1
  have v7 : IntKind.i64.wrap (now - t) = now - t := wrap64_id (by omega)
  have ff := sqFin f.ha.p.le f.hb.p.le
  have ff1 := sqFin f1.ha.p.le f1.hb.p.le
  have ff2 := sqFin f2.ha.p.le f2.hb.p.le
  have z1 := notGtr ff1 ff q1
  have z2 := notGtr ff2 ff1 q2
  have z3 : fCmp .gtr .f64 (sq a b) (fVal .mul .f64 s3 s3) = false := notGtr ff fc hc
  show F4.fP F15.f F16.f F11.f F17.f F18.f ((n0, n1, n2, n3), l, one, two) = _
  unfold F4.fP
  dsimp only
  rw [decide_eq_true (show 0 + l.length ≤ l.length by omega), List.take_length]
  simp only [e15, e16, Option.bind_some, Bool.and_true, cond_true, v1, v2, v3, v4, v5, v6, v7, p1, p2, p3, p4, m, Bool.not_true, cond_false, bne_self_eq_false, selfEq f2.ha, selfEq f2.hb, Bool.and_self, squareF f.ha f.hb, squareF f1.ha f1.hb, squareF f2.ha f2.hb, z1, z2, z3,
    mul_ok (fin_of k3) (fin_of k3), eql00, Bool.not_false, beq_self_eq_true, geq0 (fin_of f.ha.p.le), geq0 (fin_of f.hb.p.le), decide_eq_true ft1, decide_eq_true hh']
theorem dampSteps (d : Den F4.i) (hd : wfD F4.i d) : ∃ q, F4.f d = some (true, q) := by
  obtain ⟨⟨n0, n1, n2, n3⟩, l, one, two⟩ := d
  exact ⟨(), run4 n0 n1 n2 n3 l one two hd.1.1.1 hd.1.2.1.1 hd.1.2.2.1.1 hd.1.2.2.2.1 (fun x hx => (hd.2.1.2 x hx).2.1) hd.2.1.1 hd.2.2.1 hd.2.2.2.1⟩
end Go.Proofs.Ytglbcjmebjeokaa.PF

/- Chapter 20: both parts. -/
namespace Go.Proofs.Ytglbcjmebjeokaa.PH
open Go Go.Proofs Go.Proofs.Ytglbcjmebjeokaa.Sx Go.Proofs.Ytglbcjmebjeokaa.FL Go.Proofs.Ytglbcjmebjeokaa.PB Go.Proofs.Ytglbcjmebjeokaa.PC Go.Proofs.Ytglbcjmebjeokaa.PD Go.Proofs.Ytglbcjmebjeokaa.PE Go.Proofs.Ytglbcjmebjeokaa.PF
set_option linter.unusedSimpArgs false
set_option linter.unusedVariables false
/-! Four times. -/
theorem rn_of {m e : Nat} {t : Int} (he : (t + m.log2 - 52).toNat = e) : rn m t = min (e * B + Ieee.Toward.even.cut false (m <<< (t - (e : Int)).toNat) ((e : Int) - t).toNat) infR := by
  subst he; rfl
theorem min_up {e c k : Nat} (h : min (e * B + c) k + 2 * B ≤ k) : min ((e + 2) * B + c) k = min (e * B + c) k + 2 * B := by
  rw [Nat.add_mul]
  omega
theorem nr_scale {m : Nat} {t : Int} (hm : m ≠ 0) (h : 52 ≤ t + m.log2) (hb : nr m t + 2 * B ≤ infR) : nr m (t + 2) = nr m t + 2 * B := by
  have n1 : nr m t = rn m t := if_neg hm
  have n2 : nr m (t + 2) = rn m (t + 2) := if_neg hm
  obtain ⟨e, he⟩ : ∃ e, (t + m.log2 - 52).toNat = e := ⟨_, rfl⟩
  have r1 := rn_of he
  have r2 := rn_of (m := m) (t := t + 2) (e := e + 2) (by omega)
  have e1 : (t + 2 - ((e + 2 : Nat) : Int)).toNat = (t - (e : Int)).toNat := by omega
  have e2 : (((e + 2 : Nat) : Int) - (t + 2)).toNat = ((e : Int) - t).toNat := by omega
  rw [e1, e2] at r2
  rw [n1, r1] at hb
  rw [n1, n2, r1, r2]
  exact min_up hb
/-- Two ways to tell one number. -/
theorem nr_eq {m1 m2 : Nat} {t1 t2 : Int} (s : Int) (h1 : s ≤ t1) (h2 : s ≤ t2) (h : m1 * 2 ^ (t1 - s).toNat = m2 * 2 ^ (t2 - s).toNat) : nr m1 t1 = nr m2 t2 :=
  Nat.le_antisymm (nr_mono s h1 h2 (Nat.le_of_eq h)) (nr_mono s h2 h1 (Nat.le_of_eq h.symm))
noncomputable def q4 (x : Nat) : Nat := if x = 0 then 0 else x + 2 * 4503599627370496
theorem q4_le (x : Nat) : x ≤ q4 x := by unfold q4; split <;> omega
theorem q4_mono {x y : Nat} (h : x ≤ y) : q4 x ≤ q4 y := by unfold q4; split <;> split <;> omega
theorem ex_up {x : Nat} (h : 4503599627370496 ≤ x) : mag (x + 4503599627370496) = mag x ∧ ex (x + 4503599627370496) = ex x + 1 := by
  have hd : (x + 4503599627370496) / 4503599627370496 = x / 4503599627370496 + 1 := Nat.add_div_right x (by omega)
  have hm : (x + 4503599627370496) % 4503599627370496 = x % 4503599627370496 := Nat.add_mod_right x 4503599627370496
  unfold mag ex B
  rw [if_neg (show ¬ x + 4503599627370496 < 4503599627370496 by omega), if_neg (show ¬ x < 4503599627370496 by omega), hd, hm]
  have : 1 ≤ x / 4503599627370496 := (Nat.le_div_iff_mul_le (by omega)).2 (by omega)
  exact ⟨rfl, by omega⟩
theorem uval_up {x : Nat} (h : 4503599627370496 ≤ x) : uval (x + 4503599627370496) = 2 * uval x := by
  obtain ⟨h1, h2⟩ := ex_up h
  unfold uval
  rw [h1, h2, Nat.pow_succ]
  rw [← Nat.mul_assoc, Nat.mul_comm _ 2]
theorem uval_q4 {x : Nat} (h : x = 0 ∨ 4503599627370496 ≤ x) : uval (q4 x) = 4 * uval x := by
  unfold q4
  rcases h with h | h
  · subst h
    have z : uval 0 = 0 := by decide
    rw [if_pos rfl, z]
  · rw [if_neg (by omega), show x + 2 * 4503599627370496 = x + 4503599627370496 + 4503599627370496 by omega, uval_up (by omega), uval_up h]
    omega
theorem uval_ge {x : Nat} (h : 4503599627370496 ≤ x) : 4503599627370496 ≤ uval x := by
  have := uval_le h
  have e : uval 4503599627370496 = 4503599627370496 := by decide
  rwa [e] at this
theorem add_is {x y : Nat} (hx : x < infR) (hy : y < infR) : fadd x y = nr (uval x + uval y) 0 := by
  obtain ⟨S, h, e⟩ := add_fin hx hy
  unfold fadd fVal
  rw [h]
  show nr S _ = _
  refine nr_eq 0 (by omega) (by omega) ?_
  simp only [Int.sub_zero, Int.toNat_natCast]
  rw [e]
  simp
theorem add4 {x y : Nat} (hx : x = 0 ∨ 4503599627370496 ≤ x) (hy : y = 0 ∨ 4503599627370496 ≤ y) (lx : x ≤ 4989988387126509568) (ly : y ≤ 4989988387126509568) : fadd (q4 x) (q4 y) = q4 (fadd x y) := by
  have fx : x < infR := by unfold infR; omega
  have fy : y < infR := by unfold infR; omega
  have q0 : q4 0 = 0 := if_pos rfl
  by_cases hz : x = 0 ∧ y = 0
  · obtain ⟨rfl, rfl⟩ := hz
    have e : fadd 0 0 = 0 := by decide
    rw [q0, e, q0]
  · have hv : 4503599627370496 ≤ uval x + uval y := by
      rcases hx with hx | hx
      · rcases hy with hy | hy
        · exact absurd ⟨hx, hy⟩ hz
        · have := uval_ge hy; omega
      · have := uval_ge hx; omega
    have hle : x ≤ q4 x := q4_le x
    have bq : ∀ z, z ≤ 4989988387126509568 → q4 z < infR := by
      intro z hz
      unfold q4 infR
      split <;> omega
    have s := add_mono lx ly (show 4989988387126509568 < infR by unfold infR; omega) (show 4989988387126509568 < infR by unfold infR; omega)
    have sb : fadd 4989988387126509568 4989988387126509568 = 4994491986753880064 := by decide
    rw [sb] at s
    have ge : x ≤ fadd x y ∧ y ≤ fadd x y := ⟨add_le_left fx fy, add_le_right fx fy⟩
    have e1 := add_is (bq x lx) (bq y ly)
    have e2 := add_is fx fy
    rw [uval_q4 hx, uval_q4 hy] at e1
    have e3 : nr (4 * uval x + 4 * uval y) 0 = nr (uval x + uval y) (0 + 2) := by
      refine nr_eq 0 (by omega) (by omega) ?_
      rw [show ((0 : Int) - 0).toNat = 0 from rfl, show ((0 : Int) + 2 - 0).toNat = 2 from rfl]
      generalize uval x = u
      generalize uval y = v
      omega
    have hl : 52 ≤ (uval x + uval y).log2 := (Nat.le_log2 (by omega)).2 hv
    rw [e1, e3, nr_scale (by omega) (by omega) (by rw [← e2]; unfold infR B; omega), ← e2]
    unfold q4
    rw [if_neg (by rcases hx with hx | hx <;> rcases hy with hy | hy <;> omega)]
theorem mul4 {a : Nat} (h : 4607182418800017408 ≤ a) (h2 : a ≤ 4787326403894837248) : fmul (a + 4503599627370496) (a + 4503599627370496) = q4 (fmul a a) := by
  obtain ⟨e1, e2⟩ := ex_up (x := a) (by omega)
  have fa : a < infR := by unfold infR; omega
  have hb := mulBig (a := a) (b := a) (by omega) (by omega)
  have ho := mul_mono h h fa fa
  rw [mul_one] at ho
  have m1 : fmul a a = nr (mag a * mag a) ((ex a : Int) + ex a - 1074) := by unfold fmul fVal; rw [mul_fin fa fa]; rfl
  have m2 : fmul (a + 4503599627370496) (a + 4503599627370496) = nr (mag a * mag a) ((ex a : Int) + ex a - 1074 + 2) := by
    unfold fmul fVal
    rw [mul_fin (by unfold infR; omega) (by unfold infR; omega), e1, e2]
    have e3 : ((ex a + 1 : Nat) : Int) + ((ex a + 1 : Nat) : Int) - 1074 = (ex a : Int) + ex a - 1074 + 2 := by omega
    rw [e3]
    rfl
  have mg := mag_ge (r := a) (by unfold B; omega)
  have hex : 1022 ≤ ex a := by
    have := ex_mono h
    have e : ex 4607182418800017408 = 1022 := by decide
    omega
  have hp : 2 ^ 104 ≤ mag a * mag a := by
    have := Nat.mul_le_mul mg mg
    exact Nat.le_trans (by decide) this
  have hl : 104 ≤ (mag a * mag a).log2 := (Nat.le_log2 (by intro e; rw [e] at hp; exact absurd hp (by decide))).2 hp
  rw [m2, nr_scale (by intro e; rw [e] at hp; exact absurd hp (by decide)) (by omega) (by rw [← m1]; unfold infR B; omega), ← m1]
  unfold q4
  rw [if_neg (by omega)]
theorem four {r : Nat} (h : 4503599627370496 ≤ r) (h2 : r ≤ 4994491986753880064) : fmul 4616189618054758400 r = q4 r := by
  have fr : r < infR := by unfold infR; omega
  have m1 : fmul 4616189618054758400 r = nr (mag 4616189618054758400 * mag r) ((ex 4616189618054758400 : Int) + ex r - 1074) := by unfold fmul fVal; rw [mul_fin (by unfold infR; omega) fr]; rfl
  have mf : mag 4616189618054758400 = 4503599627370496 := by decide
  have xf : ex 4616189618054758400 = 1024 := by decide
  have k := nr_self fr
  have mg := mag_ge (r := r) (by unfold B; omega)
  have hl : 52 ≤ (mag r).log2 := (Nat.le_log2 (by unfold B at mg; omega)).2 (by unfold B at mg; exact mg)
  have m2 : nr (mag 4616189618054758400 * mag r) ((ex 4616189618054758400 : Int) + ex r - 1074) = nr (mag r) ((ex r : Int) + 2) := by
    rw [mf, xf]
    refine nr_eq (-50) (by omega) (by omega) ?_
    have e1 : (((1024 : Nat) : Int) + (ex r : Int) - 1074 - -50).toNat = ex r := by omega
    have e2 : ((ex r : Int) + 2 - -50).toNat = 52 + ex r := by omega
    rw [e1, e2, Nat.pow_add, show (2 : Nat) ^ 52 = 4503599627370496 from rfl, Nat.mul_comm 4503599627370496 (mag r), Nat.mul_assoc]
  rw [m1, m2, nr_scale (by unfold B at mg; omega) (by omega) (by rw [k]; unfold infR B; omega), k]
  unfold q4
  rw [if_neg (by omega)]
theorem double {a : Nat} (h : 4503599627370496 ≤ a) (h2 : a ≤ 4989988387126509568) : fadd a a = a + 4503599627370496 := by
  have fa : a < infR := by unfold infR; omega
  have fb : a + 4503599627370496 < infR := by unfold infR; omega
  rw [add_is fa fa]
  have k := nr_self fb
  conv => rhs; rw [← k]
  refine nr_eq 0 (by omega) (by omega) ?_
  rw [show ((0 : Int) - 0).toNat = 0 from rfl, Int.sub_zero, Int.toNat_natCast, Nat.pow_zero, Nat.mul_one]
  have := uval_up h
  unfold uval at this
  rw [this]
  show uval a + uval a = 2 * uval a
  omega
/-! One flap more. -/
theorem sqz {x : Nat} (h : okw x) : fmul x x = 0 ∨ 4503599627370496 ≤ fmul x x := by
  rcases h with h | h
  · subst h; exact .inl (by decide)
  · have := mul_mono h.1 h.1 (show x < infR by unfold infR; omega) (show x < infR by unfold infR; omega)
    rw [mul_one] at this
    exact .inr (by omega)
/-- What is asked of where the ceiling halves: c is added, c4 a quarter of the square of twice c, k some factor. -/
theorem oneMore {a b c c2 M k : Nat} (ha : okw a) (hb : okw b) (hc : 4607182418800017408 ≤ c ∧ c ≤ 4697254411347427328) (h2 : fadd c c = c2) (hM : fmul c2 c2 = q4 M) (hM1 : 4503599627370496 ≤ M ∧ M ≤ 4787326403894837248) (hk : k ≤ 4697254411347427328) :
    fadd (fmul (fadd a c) (fadd a c)) (fmul b b) ≤ fmul 4616189618054758400 (fadd (fadd (fadd (fmul a a) (fmul b b)) M) (fmul k a)) ∧
    fOk .add .f64 (fadd (fmul a a) (fmul b b)) M = true ∧ fOk .mul .f64 k a = true ∧ fOk .add .f64 (fadd (fadd (fmul a a) (fmul b b)) M) (fmul k a) = true ∧
    fOk .mul .f64 4616189618054758400 (fadd (fadd (fadd (fmul a a) (fmul b b)) M) (fmul k a)) = true ∧ fmul 4616189618054758400 (fadd (fadd (fadd (fmul a a) (fmul b b)) M) (fmul k a)) < infR := by
  have la := ha.p.le
  have lb := hb.p.le
  have fa := fin_of la
  have b1 : fmul a a ≤ 4976477588244398080 := mulBig la la
  have b2 : fmul b b ≤ 4976477588244398080 := mulBig lb lb
  have b3 : fmul k a ≤ 4976477588244398080 := mulBig (by omega) la
  have b4 : fadd (fmul a a) (fmul b b) ≤ 4980981187871768576 := sqBig la lb
  have fM : M < infR := by unfold infR; omega
  have f1 : fmul a a < infR := by unfold infR; omega
  have f2 : fmul b b < infR := by unfold infR; omega
  have f3 : fmul k a < infR := by unfold infR; omega
  have f4 : fadd (fmul a a) (fmul b b) < infR := by unfold infR; omega
  have b5 : fadd (fadd (fmul a a) (fmul b b)) M ≤ 4985484787499139072 := by
    have := add_mono b4 (show M ≤ 4980981187871768576 by omega) (show 4980981187871768576 < infR by unfold infR; omega) (show 4980981187871768576 < infR by unfold infR; omega)
    have e : fadd 4980981187871768576 4980981187871768576 = 4985484787499139072 := by decide
    rwa [e] at this
  have f5 : fadd (fadd (fmul a a) (fmul b b)) M < infR := by unfold infR; omega
  have b6 : fadd (fadd (fadd (fmul a a) (fmul b b)) M) (fmul k a) ≤ 4989988387126509568 := by
    have := add_mono b5 (show fmul k a ≤ 4985484787499139072 by omega) (show 4985484787499139072 < infR by unfold infR; omega) (show 4985484787499139072 < infR by unfold infR; omega)
    have e : fadd 4985484787499139072 4985484787499139072 = 4989988387126509568 := by decide
    rwa [e] at this
  have f6 : fadd (fadd (fadd (fmul a a) (fmul b b)) M) (fmul k a) < infR := by unfold infR; omega
  have g1 : fadd (fmul a a) (fmul b b) ≤ fadd (fadd (fmul a a) (fmul b b)) M := add_le_left f4 fM
  have g2 : fadd (fadd (fmul a a) (fmul b b)) M ≤ fadd (fadd (fadd (fmul a a) (fmul b b)) M) (fmul k a) := add_le_left f5 f3
  have g3 : M ≤ fadd (fadd (fmul a a) (fmul b b)) M := add_le_right f4 fM
  have l4 := four (r := fadd (fadd (fadd (fmul a a) (fmul b b)) M) (fmul k a)) (by omega) (by omega)
  have l5 : fmul 4616189618054758400 (fadd (fadd (fadd (fmul a a) (fmul b b)) M) (fmul k a)) < infR := by
    rw [l4]
    unfold q4 infR
    split <;> omega
  have fc : c < infR := by unfold infR; omega
  refine ⟨?_, add_ok f4 fM, mul_ok (by unfold infR; omega) fa, add_ok f5 f3, mul_ok (by unfold infR; omega) f6, l5⟩
  rw [l4]
  have q4r : ∀ {x : Nat}, x ≤ fadd (fadd (fadd (fmul a a) (fmul b b)) M) (fmul k a) → q4 x ≤ q4 (fadd (fadd (fadd (fmul a a) (fmul b b)) M) (fmul k a)) := fun h => q4_mono h
  have fp : fadd a c ≤ 4791830003522207744 := (okp_add (c := c) ha hc.1 (by omega)).1.le
  have bq : ∀ z, z ≤ 4989988387126509568 → q4 z < infR := by
    intro z hz
    unfold q4 infR
    split <;> omega
  by_cases hac : c ≤ a
  · -- what is there is at least what comes
    have hp : fadd a c ≤ a + 4503599627370496 := by
      have := add_mono (Nat.le_refl a) hac fa fa
      rwa [double (by omega) (by omega)] at this
    have hw := ha.le
    have hpp : fmul (fadd a c) (fadd a c) ≤ q4 (fmul a a) := by
      have := mul_mono hp hp (show a + 4503599627370496 < infR by unfold infR; omega) (show a + 4503599627370496 < infR by unfold infR; omega)
      rwa [mul4 (by omega) hw] at this
    have s := add_mono hpp (q4_le (fmul b b)) (bq _ (by omega)) (bq _ (by omega))
    rw [add4 (sqz ha) (sqz hb) (by omega) (by omega)] at s
    exact Nat.le_trans s (q4r (Nat.le_trans g1 g2))
  · have hp : fadd a c ≤ c2 := by
      have := add_mono (show a ≤ c by omega) (Nat.le_refl c) fc fc
      rwa [h2] at this
    have c2l : c2 ≤ 4791830003522207744 := by
      have := (okp_add (x := c) (c := c) (.inr ⟨hc.1, by omega⟩) hc.1 (by omega)).1.le
      rwa [h2] at this
    have hpp : fmul (fadd a c) (fadd a c) ≤ q4 M := by
      have := mul_mono hp hp (fin_of c2l) (fin_of c2l)
      rwa [hM] at this
    have s := add_mono hpp (q4_le (fmul b b)) (bq _ (by omega)) (bq _ (by omega))
    rw [add4 (.inr hM1.1) (sqz hb) (by omega) (by omega)] at s
    refine Nat.le_trans s (q4r (Nat.le_trans ?_ g2))
    rw [add_comm M _ fM f2]
    exact add_mono (add_le_right f1 f2) (Nat.le_refl M) f4 fM
end Go.Proofs.Ytglbcjmebjeokaa.PH

/- Chapter 20: both parts, far from the ceiling; one flap more. -/
namespace Go.Proofs.Ytglbcjmebjeokaa.PI
open Go Go.Proofs Go.Proofs.Ytglbcjmebjeokaa.Sx Go.Proofs.Ytglbcjmebjeokaa.FL Go.Proofs.Ytglbcjmebjeokaa.PB Go.Proofs.Ytglbcjmebjeokaa.PC Go.Proofs.Ytglbcjmebjeokaa.PD Go.Proofs.Ytglbcjmebjeokaa.PE Go.Proofs.Ytglbcjmebjeokaa.PF Go.Proofs.Ytglbcjmebjeokaa.PH
set_option linter.unusedSimpArgs false
set_option linter.unusedVariables false
def far : Se := (5, 4657715973212602368, 4649368480934526976, 4697254411347427328)
theorem farOk : SOk far := ⟨by decide, by decide, by show 4607182418800017408 ≤ 4649368480934526976; omega, by show 4649368480934526976 < 4657715973212602368; omega, by show 4657715973212602368 ≤ 4697254411347427328; omega, by show 4697254411347427328 ≤ 4697254411347427328; omega⟩
theorem fN0 : PE.fN 0 = 0 := rfl
theorem fN40 : PE.fN 1099511627776 = 4787326403894837248 := by decide
theorem fN1000 : PE.fN 1000 = 4652007308841189376 := by decide
theorem fN500 : PE.fN 500 = 4647503709213818880 := by decide
theorem fN_okw {n : Nat} (h : n ≤ 1099511627776) : okw (PE.fN n) := by
  by_cases h0 : n = 0
  · subst h0; exact .inl fN0
  · refine .inr ⟨?_, ?_⟩
    · rw [← fN1]; exact fN_le (by omega) (by omega)
    · rw [← fN40]; exact fN_le h (by omega)
theorem top8 : sq (PE.fN 8000) (PE.fN 4000) ≤ 4787326403894837248 := by decide
theorem small {i j : Nat} (hi : i ≤ 8) (hj : j ≤ 8) : sq (PE.fN (1000 * i)) (PE.fN (500 * j)) ≤ 4787326403894837248 :=
  Nat.le_trans (sq_mono (fN_le (by omega) (by omega)) (fN_le (by omega) (by omega)) (fN_okw (by omega)).p.le (fN_okw (by omega)).p.le) top8
theorem ask_iff {s : Se} {n0 n : Nat} {h : Bool} (hh : h = true ↔ fmul s.2.1 s.2.1 ≤ n0) (hn : n0 ≤ n) : askH s n h = true ↔ fmul s.2.1 s.2.1 ≤ n := by
  rcases PF.ask_cases s n h with ⟨a1, a2⟩ | ⟨a1, a2, a3⟩ | ⟨a1, a2, a3⟩
  · rw [a2]; exact ⟨fun _ => a1, fun _ => rfl⟩
  · rw [a3]; exact ⟨fun h => absurd h (by decide), fun h => absurd h a1⟩
  · rw [a3]
    constructor
    · intro h'
      exact Nat.le_trans (hh.1 h') hn
    · intro h'; exact absurd h' a1
/-- i withdrawals, j changes. -/
structure Far (i j : Nat) (t : Int) (h : Bool) : Prop where
  h0 : 0 ≤ t
  h1 : t ≤ 3
  hh : h = true ↔ fmul 4657715973212602368 4657715973212602368 ≤ sq (PE.fN (1000 * i)) (PE.fN (500 * j))
theorem Far.zero : Far 0 0 0 false := by
  refine ⟨by omega, by omega, ⟨fun h => absurd h (by decide), fun h => ?_⟩⟩
  have e : sq (PE.fN (1000 * 0)) (PE.fN (500 * 0)) = 0 := sq00
  rw [e] at h
  have := (sqr_pos farOk).2
  have e2 : fmul far.2.1 far.2.1 = fmul 4657715973212602368 4657715973212602368 := rfl
  omega
theorem far_many {t : Int} (h0 : 0 ≤ t) (h1 : t ≤ 3) : many far t 3 = 0 := many0 h0 h1
where
  many0 {t : Int} (h0 : 0 ≤ t) (h1 : t ≤ 3) : many far t 3 = 0 := by
    unfold many far
    simp only
    have : (3 - t) / 5 = 0 := Int.ediv_eq_zero_of_lt (by omega) (by omega)
    rw [this]; rfl
theorem far8 {i j : Nat} {t : Int} {h : Bool} (f : Far i j t h) (hi : i < 8) (hj : j ≤ 8) :
    ∃ t' h', F8.f (far, ((PE.fN (1000 * i), PE.fN (500 * j)), t, h), 3) = some ((((PE.fN (1000 * (i + 1)), PE.fN (500 * j)), t', h'), 0), ()) ∧ Far (i + 1) j t' h' := by
  have oa : okw (PE.fN (1000 * i)) := fN_okw (by omega)
  have ob : okw (PE.fN (500 * j)) := fN_okw (by omega)
  obtain ⟨k, q1, q2, q3, q4, q5, _⟩ := withdrawn farOk (h := h) oa ob f.h0 f.h1 (by omega)
  rw [far_many f.h0 f.h1, hfn_zero oa.p, hfn_zero ob.p] at q4 q5
  have e : fadd (PE.fN (1000 * i)) 4652007308841189376 = PE.fN (1000 * (i + 1)) := by
    rw [← fN1000, fN_add (by omega)]; rfl
  rw [e] at q4 q5
  have sm := small (i := i + 1) (j := j) (by omega) hj
  have hc : fmul far.2.2.2 far.2.2.2 = 4787326403894837248 := mul_c20
  have k0 : k = 0 := by
    rcases Nat.eq_zero_or_pos k with h | h
    · exact h
    · have := q4 h
      rw [hc] at this
      omega
  subst k0
  rw [hfn_zero (fN_okw (n := 1000 * (i + 1)) (by omega)).p, hfn_zero ob.p] at q5
  obtain ⟨g1, g2⟩ := since_ge (A := PE.fN (1000 * i)) (C := PE.fN (500 * j)) (now := 3) (T := t + ((0 : Nat) : Int) * far.1) (by simp; exact f.h0) (by simp; exact f.h1)
  exact ⟨_, _, q5, g1, g2, ask_iff (s := far) f.hh (sq_mono (fN_le (by omega) (by omega)) (Nat.le_refl _) (fN_okw (by omega)).p.le ob.p.le)⟩
theorem far10 {i j : Nat} {t : Int} {h : Bool} (f : Far i j t h) (hi : i ≤ 8) (hj : j < 8) :
    ∃ t' h', F10.f (far, ((PE.fN (1000 * i), PE.fN (500 * j)), t, h), 3) = some ((((PE.fN (1000 * i), PE.fN (500 * (j + 1))), t', h'), 0), ()) ∧ Far i (j + 1) t' h' := by
  have oa : okw (PE.fN (1000 * i)) := fN_okw (by omega)
  have ob : okw (PE.fN (500 * j)) := fN_okw (by omega)
  obtain ⟨k, q1, q2, q3, q4, q5, _⟩ := changed farOk (h := h) oa ob f.h0 f.h1 (by omega)
  rw [far_many f.h0 f.h1, hfn_zero oa.p, hfn_zero ob.p] at q4 q5
  have e : fadd (PE.fN (500 * j)) 4647503709213818880 = PE.fN (500 * (j + 1)) := by
    rw [← fN500, fN_add (by omega)]; rfl
  rw [e] at q4 q5
  have sm := small (i := i) (j := j + 1) hi (by omega)
  have hc : fmul far.2.2.2 far.2.2.2 = 4787326403894837248 := mul_c20
  have k0 : k = 0 := by
    rcases Nat.eq_zero_or_pos k with h | h
    · exact h
    · have := q4 h
      rw [hc] at this
      omega
  subst k0
  rw [hfn_zero (fN_okw (n := 500 * (j + 1)) (by omega)).p, hfn_zero oa.p] at q5
  obtain ⟨g1, g2⟩ := since_ge (A := PE.fN (1000 * i)) (C := PE.fN (500 * j)) (now := 3) (T := t + ((0 : Nat) : Int) * far.1) (by simp; exact f.h0) (by simp; exact f.h1)
  exact ⟨_, _, q5, g1, g2, ask_iff (s := far) f.hh (sq_mono (Nat.le_refl _) (fN_le (by omega) (by omega)) oa.p.le (fN_okw (by omega)).p.le)⟩
theorem u8_in {n : Int} (h : 0 ≤ n ∧ n ≤ 255) : IntKind.u8.wrap n = n := IntWalk.u8_in n h
theorem loop1 {K : Nat} (hK : K ≤ 7) : ∃ r, F5.l1 (far, (K : Int)) (((0, 0), 0, false), ((0, 0), 0, false), 0) = some r ∧ ∃ t h, r = ((), ((PE.fN (1000 * K), PE.fN (500 * 0)), t, h), ((PE.fN (1000 * K), PE.fN (500 * 0)), t, h)) ∧ Far K 0 t h := by
  refine iterO_inv (f := F5.r1 (far, (K : Int))) (fun z => ∃ (i : Nat) (t : Int) (h : Bool), i ≤ K ∧ z = (((PE.fN (1000 * i), PE.fN (500 * 0)), t, h), ((PE.fN (1000 * i), PE.fN (500 * 0)), t, h), (i : Int)) ∧ Far i 0 t h) (fun z => K - z.2.2.toNat) _ ?_ _ ⟨0, 0, false, by omega, rfl, Far.zero⟩
  rintro z ⟨i, t, h, hi, rfl, f⟩
  have hf : F5.r1 (far, (K : Int)) (((PE.fN (1000 * i), PE.fN (500 * 0)), t, h), ((PE.fN (1000 * i), PE.fN (500 * 0)), t, h), (i : Int)) = F5.r1P F8.f F10.f F15.f F16.f F18.f (far, (K : Int)) (((PE.fN (1000 * i), PE.fN (500 * 0)), t, h), ((PE.fN (1000 * i), PE.fN (500 * 0)), t, h), (i : Int)) := rfl
  rw [hf]
  by_cases hlt : i < K
  · left
    obtain ⟨t', h', p, f'⟩ := far8 f (by omega) (by omega)
    refine ⟨(((PE.fN (1000 * (i + 1)), PE.fN (500 * 0)), t', h'), ((PE.fN (1000 * (i + 1)), PE.fN (500 * 0)), t', h'), ((i + 1 : Nat) : Int)), ?_, ⟨i + 1, t', h', by omega, rfl, f'⟩, by simp only [Int.toNat_natCast]; omega⟩
    unfold far at p ⊢
    unfold F5.r1P
    dsimp only
    rw [decide_eq_true (show (i : Int) < (K : Int) by omega)]
    simp only [cond_true, p, Option.bind_some]
    rw [u8_in (by omega)]
    rfl
  · right
    have : i = K := by omega
    subst this
    refine ⟨_, ?_, t, h, rfl, f⟩
    unfold far F5.r1P
    dsimp only
    rw [decide_eq_false (show ¬ (i : Int) < (i : Int) by omega)]
    rfl
theorem loop2 {I K : Nat} (hI : I ≤ 7) (hK : K ≤ 7) {t0 : Int} {h0 : Bool} (f0 : Far I 0 t0 h0) :
    ∃ r, F5.l2 (far, (K : Int)) (((PE.fN (1000 * I), PE.fN (500 * 0)), t0, h0), ((0, 0), 0, false), 0) = some r ∧ ∃ t h u g, r = ((), ((PE.fN (1000 * I), PE.fN (500 * K)), t, h), ((PE.fN (1000 * 0), PE.fN (500 * K)), u, g)) ∧ Far I K t h ∧ Far 0 K u g := by
  refine iterO_inv (f := F5.r2 (far, (K : Int))) (fun z => ∃ (i : Nat) (t : Int) (h : Bool) (u : Int) (g : Bool), i ≤ K ∧ z = (((PE.fN (1000 * I), PE.fN (500 * i)), t, h), ((PE.fN (1000 * 0), PE.fN (500 * i)), u, g), (i : Int)) ∧ Far I i t h ∧ Far 0 i u g) (fun z => K - z.2.2.toNat) _ ?_ _ ⟨0, t0, h0, 0, false, by omega, rfl, f0, Far.zero⟩
  rintro z ⟨i, t, h, u, g, hi, rfl, f, f2⟩
  have hf : F5.r2 (far, (K : Int)) (((PE.fN (1000 * I), PE.fN (500 * i)), t, h), ((PE.fN (1000 * 0), PE.fN (500 * i)), u, g), (i : Int)) = F5.r2P F8.f F10.f F15.f F16.f F18.f (far, (K : Int)) (((PE.fN (1000 * I), PE.fN (500 * i)), t, h), ((PE.fN (1000 * 0), PE.fN (500 * i)), u, g), (i : Int)) := rfl
  rw [hf]
  by_cases hlt : i < K
  · left
    obtain ⟨t', h', p, f'⟩ := far10 f (by omega) (by omega)
    obtain ⟨u', g', p2, f2'⟩ := far10 f2 (by omega) (by omega)
    refine ⟨(((PE.fN (1000 * I), PE.fN (500 * (i + 1))), t', h'), ((PE.fN (1000 * 0), PE.fN (500 * (i + 1))), u', g'), ((i + 1 : Nat) : Int)), ?_, ⟨i + 1, t', h', u', g', by omega, rfl, f', f2'⟩, by simp only [Int.toNat_natCast]; omega⟩
    unfold far at p p2 ⊢
    unfold F5.r2P
    dsimp only
    rw [decide_eq_true (show (i : Int) < (K : Int) by omega)]
    simp only [cond_true, p, p2, Option.bind_some]
    rw [u8_in (by omega)]
    rfl
  · right
    have : i = K := by omega
    subst this
    refine ⟨_, ?_, t, h, u, g, rfl, f, f2⟩
    unfold far F5.r2P
    dsimp only
    rw [decide_eq_false (show ¬ (i : Int) < (i : Int) by omega)]
    rfl
theorem mulK : ∀ k : Fin 8, (fOk .mul .f64 (PE.fN k.val) 4652007308841189376 = true ∧ fVal .mul .f64 (PE.fN k.val) 4652007308841189376 = PE.fN (1000 * k.val)) ∧ (fOk .mul .f64 (PE.fN k.val) 4647503709213818880 = true ∧ fVal .mul .f64 (PE.fN k.val) 4647503709213818880 = PE.fN (500 * k.val)) := by decide
theorem eqlS {x : Nat} (h : x < infR) : fCmp .eql .f64 x x = true := by rw [cmp_eql h h]; exact decide_eq_true rfl
/-! One flap more, told as it is asked. -/
theorem geqOr {x y z w : Nat} (hx : x < infR) (hy : y < infR) (hz : z < infR) (hw : w < infR) (h : y ≤ x ∨ z < w) : fCmp .geq .f64 x y = true ∨ fCmp .gtr .f64 w z = true := by
  rw [cmp_geq hx hy, cmp_gtr hw hz]
  rcases h with h | h
  · exact .inl (decide_eq_true h)
  · exact .inr (decide_eq_true h)
theorem add1000 : fadd 4652007308841189376 4652007308841189376 = 4656510908468559872 := by decide
theorem sq2000 : fmul 4656510908468559872 4656510908468559872 = q4 4696837146684686336 := by
  unfold q4
  rw [if_neg (by omega)]
  decide
theorem add500 : fadd 4647503709213818880 4647503709213818880 = 4652007308841189376 := by decide
theorem sq1000 : fmul 4652007308841189376 4652007308841189376 = q4 4687829947429945344 := by
  unfold q4
  rw [if_neg (by omega)]
  decide
section
variable {s : Se} (hs : SOk s) {a b : Nat} {t now : Int} {h : Bool} (f : Fig s a b t h now) (h2 : now ≤ 1099511627776)
include hs f h2
theorem flap8 : ∃ A C T H, okw A ∧ okw C ∧ F8.f (s, ((a, b), t, h), now) = some ((((A, C), T, H), 0), ()) ∧
    (sq a b ≤ sq A C ∨ fmul s.2.2.2 s.2.2.2 < fmul 4616189618054758400 (fadd (fadd (sq a b) 4696837146684686336) (fmul 4656510908468559872 a))) := by
  obtain ⟨k, q1, q2, q3, q4', q5, _⟩ := withdrawn hs (h := h) f.ha f.hb f.h0 f.h1 h2
  have m0 : many s t now = 0 := by
    unfold many
    have := f.h1
    have := f.hh
    rw [Int.ediv_eq_zero_of_lt (by omega) (by omega)]; rfl
  simp only [m0, hfn_zero f.ha.p, hfn_zero f.hb.p] at q4' q1 q2 q3 q5
  refine ⟨_, _, _, _, q1, q2, q5, ?_⟩
  obtain ⟨o1, _, o3⟩ := okp_add (c := 4652007308841189376) f.ha (by omega) (by omega)
  rcases Nat.eq_zero_or_pos k with hk | hk
  · subst hk
    left
    rw [hfn_zero o1, hfn_zero f.hb.p]
    exact sq_mono o3 (Nat.le_refl _) o1.le f.hb.p.le
  · right
    exact Nat.lt_of_lt_of_le (q4' hk) (oneMore f.ha f.hb (c := 4652007308841189376) (by omega) add1000 sq2000 (by omega) (by omega)).1
theorem flap10 : ∃ A C T H, okw A ∧ okw C ∧ F10.f (s, ((a, b), t, h), now) = some ((((A, C), T, H), 0), ()) ∧
    (sq a b ≤ sq A C ∨ fmul s.2.2.2 s.2.2.2 < fmul 4616189618054758400 (fadd (fadd (sq a b) 4687829947429945344) (fmul 4652007308841189376 b))) := by
  obtain ⟨k, q1, q2, q3, q4', q5, _⟩ := changed hs (h := h) f.ha f.hb f.h0 f.h1 h2
  have m0 : many s t now = 0 := by
    unfold many
    have := f.h1
    have := f.hh
    rw [Int.ediv_eq_zero_of_lt (by omega) (by omega)]; rfl
  simp only [m0, hfn_zero f.ha.p, hfn_zero f.hb.p] at q4' q1 q2 q3 q5
  refine ⟨_, _, _, _, q1, q2, q5, ?_⟩
  obtain ⟨o1, _, o3⟩ := okp_add (c := 4647503709213818880) f.hb (by omega) (by omega)
  rcases Nat.eq_zero_or_pos k with hk | hk
  · subst hk
    left
    rw [hfn_zero o1, hfn_zero f.ha.p]
    exact sq_mono (Nat.le_refl _) o3 f.ha.p.le o1.le
  · right
    have l := (oneMore f.hb f.ha (c := 4647503709213818880) (by omega) add500 sq1000 (by omega) (show 4652007308841189376 ≤ 4697254411347427328 by omega)).1
    rw [add_comm (fmul (fadd b _) _) _ (mulFin o1.le o1.le) (mulFin f.ha.p.le f.ha.p.le), add_comm (fmul b b) _ (mulFin f.hb.p.le f.hb.p.le) (mulFin f.ha.p.le f.ha.p.le)] at l
    exact Nat.lt_of_lt_of_le (q4' hk) l
end
theorem run5 (m0 m1 n0 n1 n2 n3 : Int) (l : List (Int × Int)) (hm0 : 0 ≤ m0) (hm1 : 0 ≤ m1) (h0 : 0 ≤ n0) (h1 : 0 ≤ n1) (h2 : 0 ≤ n2) (h3 : 0 ≤ n3 ∧ n3 ≤ 65535) (hl : ∀ x ∈ l, 0 ≤ x.2 ∧ x.2 ≤ 255) (hm : l.length ≤ maxLen) :
    F5.f ((m0, m1), (n0, n1, n2, n3), l) = some (true, ()) := by
  obtain ⟨i1, i2⟩ := tmod_in m0 hm0 (m := 8) (by omega)
  obtain ⟨j1, j2⟩ := tmod_in m1 hm1 (m := 8) (by omega)
  have nr0 := near _ i1
  have nr1 := near _ j1
  obtain ⟨K, hK⟩ : ∃ K : Nat, m0.tmod 8 = (K : Int) := ⟨(m0.tmod 8).toNat, by omega⟩
  obtain ⟨J, hJ⟩ : ∃ J : Nat, m1.tmod 8 = (J : Int) := ⟨(m1.tmod 8).toNat, by omega⟩
  rw [hK, Int.toNat_natCast] at nr0
  rw [hJ, Int.toNat_natCast] at nr1
  obtain ⟨r, e1, t, h, rfl, f1⟩ := loop1 (K := K) (by omega)
  obtain ⟨r, e2, t', h', u, g, rfl, f2, f3⟩ := loop2 (I := K) (K := J) (by omega) (by omega) f1
  obtain ⟨e15, hs, hh⟩ := settings h0 h1 h2 h3
  generalize setOf n0 n1 n2 n3 = s at *
  obtain ⟨a, b, T, H, now, e16, f, w0, w1⟩ := run hs l hl hm
  obtain ⟨A, C, T1, H1, oA, oC, p8, d8⟩ := flap8 hs f (by omega)
  obtain ⟨A', C', T2, H2, oA', oC', p10, d10⟩ := flap10 hs f (by omega)
  obtain ⟨_, x1, x2, x3, x4, x5⟩ := oneMore f.ha f.hb (c := 4652007308841189376) (by omega) add1000 sq2000 (by omega) (show 4656510908468559872 ≤ 4697254411347427328 by omega)
  obtain ⟨_, y1, y2, y3, y4, y5⟩ := oneMore f.hb f.ha (c := 4647503709213818880) (by omega) add500 sq1000 (by omega) (show 4652007308841189376 ≤ 4697254411347427328 by omega)
  rw [add_comm (fmul b b) _ (mulFin f.hb.p.le f.hb.p.le) (mulFin f.ha.p.le f.ha.p.le)] at y1 y3 y4 y5
  have flags : (h = true ∨ g = true) → h' = true := by
    rintro (k | k)
    · exact f2.hh.2 (Nat.le_trans (f1.hh.1 k) (sq_mono (Nat.le_refl _) (fN_le (by omega) (by omega)) (fN_okw (by omega)).p.le (fN_okw (by omega)).p.le))
    · exact f2.hh.2 (Nat.le_trans (f3.hh.1 k) (sq_mono (fN_le (by omega) (by omega)) (Nat.le_refl _) (fN_okw (by omega)).p.le (fN_okw (by omega)).p.le))
  obtain ⟨⟨z1, z2⟩, _⟩ := mulK ⟨K, by omega⟩
  obtain ⟨_, ⟨z3, z4⟩⟩ := mulK ⟨J, by omega⟩
  simp only at z1 z2 z3 z4
  have fK : PE.fN (1000 * K) < infR := fN_fin (by omega)
  have fJ : PE.fN (500 * J) < infR := fN_fin (by omega)
  have a1 : fOk .add .f64 (PE.fN (1000 * K)) (PE.fN (1000 * 0)) = true := add_ok fK (fN_fin (by omega))
  have a2 : fOk .add .f64 (PE.fN (500 * 0)) (PE.fN (500 * J)) = true := add_ok (fN_fin (by omega)) fJ
  have a3 : fVal .add .f64 (PE.fN (1000 * K)) (PE.fN (1000 * 0)) = PE.fN (1000 * K) := add_zero fK
  have a4 : fVal .add .f64 (PE.fN (500 * 0)) (PE.fN (500 * J)) = PE.fN (500 * J) := (add_comm 0 _ (show 0 < infR by unfold infR; omega) fJ).trans (add_zero fJ)
  obtain ⟨_, _, k3⟩ := hs.fin
  have fc := mulFin k3 k3
  have oc := mul_ok (fin_of k3) (fin_of k3)
  have ff := sqFin f.ha.p.le f.hb.p.le
  have c8 := geqOr (sqFin oA.p.le oC.p.le) ff fc x5 d8
  have c10 := geqOr (sqFin oA'.p.le oC'.p.le) ff fc y5 d10
  obtain ⟨s0, s1, s2, s3⟩ := s
  unfold far at e1 e2
  dsimp only at fc oc c8 c10 k3
  show F5.fP F8.f F10.f F15.f F16.f F18.f F5.l1 F5.l2 ((m0, m1), (n0, n1, n2, n3), l) = _
  unfold F5.fP
  dsimp only
  rw [hK, hJ, e1]
  simp only [Option.bind_some]
  rw [e2]
  simp only [Option.bind_some, nr0, nr1, z1, z2, z3, z4, cond_true, eqlS fK, eqlS fJ, a1, a2, a3, a4, Bool.and_self, Bool.not_true, cond_false]
  rw [decide_eq_true (show 0 + l.length ≤ l.length by omega), List.take_length]
  simp only [e15, e16, p8, p10, Option.bind_some, Bool.and_true, cond_true, bne_self_eq_false, cond_false, squareF f.ha f.hb, squareF oA oC, squareF oA' oC']
  have X1 : fOk .add .f64 (sq a b) 4696837146684686336 = true := x1
  have X2 : fOk .mul .f64 4656510908468559872 a = true := x2
  have X3 : fOk .add .f64 (fVal .add .f64 (sq a b) 4696837146684686336) (fVal .mul .f64 4656510908468559872 a) = true := x3
  have X4 : fOk .mul .f64 4616189618054758400 (fVal .add .f64 (fVal .add .f64 (sq a b) 4696837146684686336) (fVal .mul .f64 4656510908468559872 a)) = true := x4
  have Y1 : fOk .add .f64 (sq a b) 4687829947429945344 = true := y1
  have Y2 : fOk .mul .f64 4652007308841189376 b = true := y2
  have Y3 : fOk .add .f64 (fVal .add .f64 (sq a b) 4687829947429945344) (fVal .mul .f64 4652007308841189376 b) = true := y3
  have Y4 : fOk .mul .f64 4616189618054758400 (fVal .add .f64 (fVal .add .f64 (sq a b) 4687829947429945344) (fVal .mul .f64 4652007308841189376 b)) = true := y4
  have D8 : fCmp .geq .f64 (sq A C) (sq a b) = true ∨ fCmp .gtr .f64 (fVal .mul .f64 4616189618054758400 (fVal .add .f64 (fVal .add .f64 (sq a b) 4696837146684686336) (fVal .mul .f64 4656510908468559872 a))) (fVal .mul .f64 s3 s3) = true := c8
  have D10 : fCmp .geq .f64 (sq A' C') (sq a b) = true ∨ fCmp .gtr .f64 (fVal .mul .f64 4616189618054758400 (fVal .add .f64 (fVal .add .f64 (sq a b) 4687829947429945344) (fVal .mul .f64 4652007308841189376 b))) (fVal .mul .f64 s3 s3) = true := c10
  simp only [X1, X2, X3, X4, Y1, Y2, Y3, Y4, oc, cond_true]
  generalize fCmp .geq .f64 (sq A C) (sq a b) = p1 at *
  generalize fCmp .geq .f64 (sq A' C') (sq a b) = p2 at *
  generalize fCmp .gtr .f64 (fVal .mul .f64 4616189618054758400 (fVal .add .f64 (fVal .add .f64 (sq a b) 4696837146684686336) (fVal .mul .f64 4656510908468559872 a))) (fVal .mul .f64 s3 s3) = p3 at *
  generalize fCmp .gtr .f64 (fVal .mul .f64 4616189618054758400 (fVal .add .f64 (fVal .add .f64 (sq a b) 4687829947429945344) (fVal .mul .f64 4652007308841189376 b))) (fVal .mul .f64 s3 s3) = p4 at *
  have tail : (bif p1 then (bif p2 then some (true, PUnit.unit) else bif p4 then some (true, PUnit.unit) else some (false, PUnit.unit)) else bif p3 then (bif p2 then some (true, PUnit.unit) else bif p4 then some (true, PUnit.unit) else some (false, PUnit.unit)) else some (false, PUnit.unit)) = some (true, PUnit.unit) := by
    cases p1 <;> cases p2 <;> cases p3 <;> cases p4 <;> first | rfl | (exfalso; rcases D8 with k | k <;> cases k; done) | (exfalso; rcases D10 with k | k <;> cases k; done)
  cases h with
  | true =>
    have := flags (.inl rfl)
    subst this
    exact tail
  | false =>
    cases g with
    | true =>
      have := flags (.inr rfl)
      subst this
      exact tail
    | false => exact tail
theorem dampParts (d : Den F5.i) (hd : wfD F5.i d) : ∃ q, F5.f d = some (true, q) := by
  obtain ⟨⟨m0, m1⟩, ⟨n0, n1, n2, n3⟩, l⟩ := d
  exact ⟨(), run5 m0 m1 n0 n1 n2 n3 l hd.1.1.1 hd.1.2.1.1 hd.2.1.1.1 hd.2.1.2.1.1 hd.2.1.2.2.1.1 hd.2.1.2.2.2.1 (fun x hx => (hd.2.2.1.2 x hx).2.1) hd.2.2.1.1⟩
end Go.Proofs.Ytglbcjmebjeokaa.PI
