/- Chapter 1: the three wide pieces of the known examples. -/
import Derived.Test.YtkleakkhbfdipaaZP
import Derived.IntWalk
import Derived.Test.YtkleakkhbfdipaaF51
import Derived.Test.YtkleakkhbfdipaaF7U
namespace Go.Proofs.Ytkleakkhbfdipaa.PH
open Go Go.Proofs Go.Proofs.Ytkleakkhbfdipaa.Sx
set_option linter.unusedSimpArgs false
set_option linter.unusedVariables false
theorem take_all {α : Type} (l : List α) : List.take l.length (List.drop 0 l) = l := by simp
theorem le_all (n : Nat) : decide (0 + n ≤ n) = true := decide_eq_true (by omega)
theorem cloneF (s : List Int) (hs : s.length ≤ 1000000) : F51.f s = some (s, ()) := by
  show (if 0 < s.length then F51.fP s else some ([], ())) = _
  by_cases h0 : 0 < s.length
  · rw [if_pos h0]
    unfold F51.fP
    have c1 : decide (0 < s.length) = true := decide_eq_true h0
    have c2 : decide (0 + (List.take s.length s).length ≤ 1073741824) = true := decide_eq_true (by rw [List.take_length]; omega)
    have c3 : decide (0 + (0 + (List.take s.length s).length) ≤ ([] ++ List.take s.length s).length) = true := decide_eq_true (by rw [List.take_length]; simp)
    rw [c1, c2, c3, le_all]
    simp
  · rw [if_neg h0]
    have : s = [] := List.length_eq_zero_iff.1 (by omega)
    rw [this]
section
variable {n : Int} (h0 : 0 ≤ n) (h1 : n ≤ 100000)
include h0 h1
theorem c1 : decide (0 ≤ n ∧ n ≤ n ∧ n ≤ 1073741824 ∧ (↑(OfNat.ofNat 1) : Int) * n ≤ 281474976710656) = true :=
  decide_eq_true ⟨h0, by omega, by omega, by show (1 : Int) * n ≤ _; omega⟩
theorem e1 : IntKind.i64.wrap (IntKind.i64.wrap (((1 + (List.replicate n.toNat (0 : Int)).length : Nat) : Int) - 0) - 1) = n := by
  rw [List.length_replicate, wrap64_id (n := ((1 + n.toNat : Nat) : Int) - 0) (by omega), wrap64_id (by omega)]
  omega
theorem e2 : IntKind.i64.wrap (IntKind.i64.wrap (((2 + (List.replicate n.toNat (0 : Int)).length : Nat) : Int) - 0) - 2) = n := by
  rw [List.length_replicate, wrap64_id (n := ((2 + n.toNat : Nat) : Int) - 0) (by omega), wrap64_id (by omega)]
  omega
theorem c3 (k : Nat) (hk : k ≤ 2) : decide (k + (List.replicate n.toNat (0 : Int)).length ≤ 1073741824) = true := decide_eq_true (by rw [List.length_replicate]; omega)
end
theorem c2 (n : Int) : decide (0 + n.toNat ≤ (List.replicate n.toNat (0 : Int)).length) = true := decide_eq_true (by rw [List.length_replicate]; omega)
theorem t (n : Int) : List.take n.toNat (List.drop 0 (List.replicate n.toNat (0 : Int))) = List.replicate n.toNat 0 := by
  rw [List.drop_zero, List.take_of_length_le (by simp)]
theorem w1 {n : Int} (h0 : 256 ≤ n) (h1 : n ≤ 100000) : F7U.r1P F51.f n () () = some (3, ()) := by
  unfold F7U.r1P
  have c4 : decide (n ≥ 256) = true := decide_eq_true h0
  simp only [c1 (show 0 ≤ n by omega) h1, c2, t, c3 (show 0 ≤ n by omega) h1 1 (by omega), e1 (show 0 ≤ n by omega) h1, c4, cond_true]
theorem w3 {n : Int} (h0 : 65536 ≤ n) (h1 : n ≤ 100000) : F7U.r3P F51.f n () () = some (3, ()) := by
  unfold F7U.r3P
  have c4 : decide (n ≥ 65536) = true := decide_eq_true h0
  simp only [c1 (show 0 ≤ n by omega) h1, c2, t, c3 (show 0 ≤ n by omega) h1 2 (by omega), e2 (show 0 ≤ n by omega) h1, c4, cond_true]
theorem w2 {n : Int} (h0 : 0 ≤ n) (h1 : n < 256) : F7U.r2P F51.f n () () = some ((IntKind.u8.wrap n :: List.replicate n.toNat 0, 0), ()) := by
  unfold F7U.r2P
  have c4 : decide (n ≥ 256) = false := decide_eq_false (by omega)
  have c5 : ∀ c : Int, decide ((0 : Int) ≤ (0 : Int) ∧ (0 : Int) < (((1 + (List.replicate n.toNat (0 : Int)).length : Nat)) : Int) ∧ 0 < (c :: List.replicate n.toNat (0 : Int)).length) = true := fun c => decide_eq_true ⟨by omega, by omega, by simp⟩
  have c6 : ∀ c : Int, decide (0 + (1 + (List.replicate n.toNat (0 : Int)).length) ≤ (c :: List.replicate n.toNat (0 : Int)).length) = true := fun c => decide_eq_true (by rw [List.length_cons]; omega)
  have c7 : ∀ c : Int, List.take (1 + (List.replicate n.toNat (0 : Int)).length) (c :: List.replicate n.toNat (0 : Int)) = c :: List.replicate n.toNat (0 : Int) := fun c => List.take_of_length_le (by rw [List.length_cons]; omega)
  have c8 : (IntKind.u8.wrap n :: List.replicate n.toNat (0 : Int)).length ≤ 1000000 := by rw [List.length_cons, List.length_replicate]; omega
  simp only [c1 h0 (show n ≤ 100000 by omega), c2, t, c3 h0 (show n ≤ 100000 by omega) 1 (by omega), e1 h0 (show n ≤ 100000 by omega), c4, c5, c6, c7, cond_true, cond_false, Bool.and_true, cloneF _ c8, Option.bind_some, le_all, take_all]
def K1 : F7U.G1 := fun _ _ => some (3, ())
def K2 : F7U.G2 := fun _ _ => some ((255 :: List.replicate 255 0, 0), ())
def K3 : F7U.G3 := fun _ _ => some (3, ())
theorem k1 : F7U.l1 = K1 := funext fun _ => funext fun _ => w1 (n := 256) (by decide) (by decide)
theorem k2 : F7U.l2 = K2 := funext fun _ => funext fun _ => w2 (n := 255) (by decide) (by decide)
theorem k3 : F7U.l3 = K3 := funext fun _ => funext fun _ => w3 (n := 65536) (by decide) (by decide)
theorem ok1 : UnOk Try.prog (F7U.u1 K1) (codeAt [1, 1, 1, 1, 1, 1, 1, 1, 1, 1, 1, 1, 1, 1, 1, 1, 1, 1, 1, 1, 1, 1, 1, 1, 0] (bodyOf Try.prog 7)) := Eq.subst (motive := fun l => UnOk Try.prog (F7U.u1 l) (codeAt [1, 1, 1, 1, 1, 1, 1, 1, 1, 1, 1, 1, 1, 1, 1, 1, 1, 1, 1, 1, 1, 1, 1, 1, 0] (bodyOf Try.prog 7))) k1 F7U.ok1
theorem ok2 : UnOk Try.prog (F7U.u2 K2) (codeAt [1, 1, 1, 1, 1, 1, 1, 1, 1, 1, 1, 1, 1, 1, 1, 1, 1, 1, 1, 1, 1, 1, 1, 1, 1, 0] (bodyOf Try.prog 7)) := Eq.subst (motive := fun l => UnOk Try.prog (F7U.u2 l) (codeAt [1, 1, 1, 1, 1, 1, 1, 1, 1, 1, 1, 1, 1, 1, 1, 1, 1, 1, 1, 1, 1, 1, 1, 1, 1, 0] (bodyOf Try.prog 7))) k2 F7U.ok2
theorem ok3 : UnOk Try.prog (F7U.u3 K3) (codeAt [1, 1, 1, 1, 1, 1, 1, 1, 1, 1, 1, 1, 1, 1, 1, 1, 1, 1, 1, 1, 1, 1, 1, 1, 1, 1, 1, 0] (bodyOf Try.prog 7)) := Eq.subst (motive := fun l => UnOk Try.prog (F7U.u3 l) (codeAt [1, 1, 1, 1, 1, 1, 1, 1, 1, 1, 1, 1, 1, 1, 1, 1, 1, 1, 1, 1, 1, 1, 1, 1, 1, 1, 1, 0] (bodyOf Try.prog 7))) k3 F7U.ok3
def plan : Plan := (.node .none (.node .none (.node .none (.node .none (.node .none (.node .none (.node .none (.node .none (.node .none (.node .none (.node .none (.node .none (.node .none (.node .none (.node .none (.node .none (.node .none (.node .none (.node .none (.node .none (.node .none (.node .none (.node .none (.node .none (.node (.unit (F7U.u1 K1)) (.node (.unit (F7U.u2 K2)) (.node .none (.node (.unit (F7U.u3 K3)) .none))))))))))))))))))))))))))))
theorem planOk : PlanOk Try.prog plan (bodyOf Try.prog 7) := planOk_of plan _ [([1, 1, 1, 1, 1, 1, 1, 1, 1, 1, 1, 1, 1, 1, 1, 1, 1, 1, 1, 1, 1, 1, 1, 1, 0], F7U.u1 K1), ([1, 1, 1, 1, 1, 1, 1, 1, 1, 1, 1, 1, 1, 1, 1, 1, 1, 1, 1, 1, 1, 1, 1, 1, 1, 0], F7U.u2 K2), ([1, 1, 1, 1, 1, 1, 1, 1, 1, 1, 1, 1, 1, 1, 1, 1, 1, 1, 1, 1, 1, 1, 1, 1, 1, 1, 1, 0], F7U.u3 K3)] rfl ⟨ok1, ok2, ok3, trivial⟩
end Go.Proofs.Ytkleakkhbfdipaa.PH
