/- Chapter 21: of any three candidates: an order. -/
import Derived.Test.YtaniibilgdhdiaaDoorPB
import Derived.Test.YtaniibilgdhdiaaDoorF3
import Derived.Test.YtaniibilgdhdiaaDoorZK
namespace Go.Proofs.YtaniibilgdhdiaaDoor.PC
open Go Go.Proofs Go.Proofs.YtaniibilgdhdiaaDoor.Sx Go.Proofs.YtaniibilgdhdiaaDoor.PA Go.Proofs.YtaniibilgdhdiaaDoor.PB
set_option linter.unusedSimpArgs false
set_option linter.unusedVariables false
theorem small {r : Int} (h0 : 0 ≤ r) (h8 : r ≤ 8) : r = 0 ∨ r = 1 ∨ r = 2 ∨ r = 3 ∨ r = 4 ∨ r = 5 ∨ r = 6 ∨ r = 7 ∨ r = 8 := by omega
theorem part1 (i j a b r : Int) (h1 : a = IntKind.i64.wrap (0 - b)) (h2 : a = 0 ↔ r = 0) (h3 : i = j → a = 0) (h4 : 0 ≤ r) (h5 : r ≤ 8) : F3.l1 (i, j, a, r, b, r) () = some ((0, false), ()) := by
  show F3.r1P F7.f (i, j, a, r, b, r) () = _
  unfold F3.r1P
  have e1 : (a != IntKind.i64.wrap (0 - b)) = false := by rw [← h1]; simp
  have e2 : (r != r) = false := by simp
  simp only [e1, e2, cond_false]
  by_cases ha : a = 0
  · have hr := h2.1 ha
    subst ha hr
    cases hij : i == j <;> rfl
  · have hr : ¬ r = 0 := fun h => ha (h2.2 h)
    have e3 : (a == 0) = false := by simpa using ha
    have hij : (i == j) = false := by
      rw [beq_eq_false_iff_ne]
      exact fun h => ha (h3 h)
    simp only [e3, hij]
    rcases small h4 h5 with h | h | h | h | h | h | h | h | h <;> first | exact absurd h hr | (subst h; rfl)
/-- What is asked of two candidates, one of which is named ahead of the other's reason. -/
noncomputable def chk (a b : Cand) (one : Bool) (r : Int) : Option ((Int × Bool) × Unit) :=
  F3.r2c1P F7.f ((a.1, a.2.1, a.2.2.1, a.2.2.2.1, a.2.2.2.2.1, a.2.2.2.2.2.1, a.2.2.2.2.2.2.1, a.2.2.2.2.2.2.2.1, a.2.2.2.2.2.2.2.2, b.1, b.2.1, b.2.2.1, b.2.2.2.1, b.2.2.2.2.1, b.2.2.2.2.2.1, b.2.2.2.2.2.2.1, b.2.2.2.2.2.2.2.1, b.2.2.2.2.2.2.2.2, 0, 0, 0, 0, 0, 0, 0, 0, 0), one, 0, 1, r) ()
theorem chk_ok (a b : Cand) (one : Bool) (r : Int) (h1 : 1 < r → a.1 = b.1) (h2 : 2 < r → a.2.1 = b.2.1) (h3 : 3 < r → a.2.2.1 = b.2.2.1) (h4 : one = true → 4 < r → a.2.2.2.1 = b.2.2.2.1) (h6 : 6 < r → a.2.2.2.2.2.2.1 = b.2.2.2.2.2.2.1) :
    chk a b one r = some ((0, false), ()) := by
  unfold chk F3.r2c1P
  simp only
  by_cases g1 : r > 1
  case neg =>
    have e1 : decide (r > 1) = false := decide_eq_false g1
    have e2 : decide (r > 2) = false := decide_eq_false (by omega)
    have e3 : decide (r > 3) = false := decide_eq_false (by omega)
    have e4 : decide (r > 4) = false := decide_eq_false (by omega)
    have e6 : decide (r > 6) = false := decide_eq_false (by omega)
    simp only [e1, e2, e3, e4, e6, cond_false]
    cases one <;> rfl
  have e1 : decide (r > 1) = true := decide_eq_true g1
  have f1 : (a.1 != b.1) = false := by simpa using h1 g1
  simp only [e1, f1, cond_true, cond_false]
  by_cases g2 : r > 2
  case neg =>
    have e2 : decide (r > 2) = false := decide_eq_false (by omega)
    have e3 : decide (r > 3) = false := decide_eq_false (by omega)
    have e4 : decide (r > 4) = false := decide_eq_false (by omega)
    have e6 : decide (r > 6) = false := decide_eq_false (by omega)
    simp only [e2, e3, e4, e6, cond_false]
    cases one <;> rfl
  have e2 : decide (r > 2) = true := decide_eq_true g2
  have f2 : (a.2.1 != b.2.1) = false := by simpa using h2 g2
  simp only [e2, f2, cond_true, cond_false]
  by_cases g3 : r > 3
  case neg =>
    have e3 : decide (r > 3) = false := decide_eq_false (by omega)
    have e4 : decide (r > 4) = false := decide_eq_false (by omega)
    have e6 : decide (r > 6) = false := decide_eq_false (by omega)
    simp only [e3, e4, e6, cond_false]
    cases one <;> rfl
  have e3 : decide (r > 3) = true := decide_eq_true g3
  have f3 : (a.2.2.1 != b.2.2.1) = false := by simpa using h3 g3
  simp only [e3, f3, cond_true, cond_false]
  have k6 : (bif decide (r > 6) then bif a.2.2.2.2.2.2.1 != b.2.2.2.2.2.2.1 then some (((1 : Int), false), PUnit.unit) else some ((0, false), PUnit.unit) else some ((0, false), PUnit.unit)) = some ((0, false), PUnit.unit) := by
    by_cases g6 : r > 6
    · have f6 : (a.2.2.2.2.2.2.1 != b.2.2.2.2.2.2.1) = false := by simpa using h6 g6
      rw [decide_eq_true g6, f6]; rfl
    · rw [decide_eq_false g6]; rfl
  cases one with
  | false => exact k6
  | true =>
    simp only [cond_true]
    by_cases g4 : r > 4
    · have e4 : decide (r > 4) = true := decide_eq_true g4
      have f4 : (a.2.2.2.1 != b.2.2.2.1) = false := by simpa using h4 rfl g4
      simp only [e4, f4, cond_true, cond_false]
      exact k6
    · have e4 : decide (r > 4) = false := decide_eq_false (by omega)
      simp only [e4, cond_false]
      exact k6
section
variable (one : Bool) (a b c : Cand)
abbrev T3 (a b c : Cand) : Int × Int × Int × Int × Int × Int × Int × Int × Int × Int × Int × Int × Int × Int × Int × Int × Int × Int × Int × Int × Int × Int × Int × Int × Int × Int × Int :=
  (a.1, a.2.1, a.2.2.1, a.2.2.2.1, a.2.2.2.2.1, a.2.2.2.2.2.1, a.2.2.2.2.2.2.1, a.2.2.2.2.2.2.2.1, a.2.2.2.2.2.2.2.2, b.1, b.2.1, b.2.2.1, b.2.2.2.1, b.2.2.2.2.1, b.2.2.2.2.2.1, b.2.2.2.2.2.2.1, b.2.2.2.2.2.2.2.1, b.2.2.2.2.2.2.2.2,
    c.1, c.2.1, c.2.2.1, c.2.2.2.1, c.2.2.2.2.1, c.2.2.2.2.2.1, c.2.2.2.2.2.2.1, c.2.2.2.2.2.2.2.1, c.2.2.2.2.2.2.2.2)
theorem pair (a b : Cand) (h : one = true → a.2.2.2.2.1 = b.2.2.2.2.1) : chk a b one (cmp one a b).2 = some ((0, false), ()) := by
  obtain ⟨k1, k2, k3, k4, k6⟩ := PB.ahead one a b
  exact chk_ok a b one _ k1 k2 k3 (fun g => k4 g (h g)) k6
theorem two00 (r : Int) : F3.l2 (T3 a b c, one, 0, 0, r) () = chk a a one r := rfl
theorem two01 (r : Int) : F3.l2 (T3 a b c, one, 0, 1, r) () = chk a b one r := rfl
theorem two02 (r : Int) : F3.l2 (T3 a b c, one, 0, 2, r) () = chk a c one r := rfl
theorem two10 (r : Int) : F3.l2 (T3 a b c, one, 1, 0, r) () = chk b a one r := rfl
theorem two11 (r : Int) : F3.l2 (T3 a b c, one, 1, 1, r) () = chk b b one r := rfl
theorem two12 (r : Int) : F3.l2 (T3 a b c, one, 1, 2, r) () = chk b c one r := rfl
theorem two20 (r : Int) : F3.l2 (T3 a b c, one, 2, 0, r) () = chk c a one r := rfl
theorem two21 (r : Int) : F3.l2 (T3 a b c, one, 2, 1, r) () = chk c b one r := rfl
theorem two22 (r : Int) : F3.l2 (T3 a b c, one, 2, 2, r) () = chk c c one r := rfl
theorem fst_small (med : Bool) (a b : Cand) : (cmp med a b).1 = -1 ∨ (cmp med a b).1 = 0 ∨ (cmp med a b).1 = 1 := by
  have key : ∀ l : List (Int × Int), (∀ x ∈ l, x.1 = -1 ∨ x.1 = 0 ∨ x.1 = 1) → (fst l).1 = -1 ∨ (fst l).1 = 0 ∨ (fst l).1 = 1 := by
    intro l
    induction l with
    | nil => intro _; exact .inr (.inl rfl)
    | cons x l ih =>
      intro h
      obtain ⟨o, k⟩ := x
      simp only [fst]
      split
      · exact ih (fun y hy => h y (by simp [hy]))
      · exact h (o, k) (by simp)
  refine key _ (fun x hx => ?_)
  have c3s : ∀ x y, c3 x y = -1 ∨ c3 x y = 0 ∨ c3 x y = 1 := fun x y => by rcases c3_cases x y with h | h | h <;> simp [h.2]
  unfold parts at hx
  simp only [List.mem_cons, List.not_mem_nil, or_false] at hx
  rcases hx with rfl | rfl | rfl | rfl | rfl | rfl | rfl | rfl
  case inr.inr.inr.inl => simp only; split; exact c3s _ _; exact .inr (.inl rfl)
  all_goals exact c3s _ _
theorem one_ok (i j : Int) (a b : Cand) (h : i = j → a = b) : F3.l1 (i, j, (cmp one a b).1, (cmp one a b).2, (cmp one b a).1, (cmp one b a).2) () = some ((0, false), ()) := by
  obtain ⟨k1, k2, k3⟩ := PB.reason one a b
  rw [PB.turned one a b]
  refine part1 i j _ _ _ ?_ k1 (fun g => ?_) k2 k3
  · rcases fst_small one a b with g | g | g <;> simp only [g] <;> decide
  · rw [h g, PB.same]
end
theorem body (a b c : Cand) (one : Bool) (h1 : one = true → a.2.2.2.2.1 = b.2.2.2.2.1) (h2 : one = true → b.2.2.2.2.1 = c.2.2.2.2.1) :
    ((cmp one a b).1 ≤ 0 → (cmp one b c).1 ≤ 0 → (cmp one a c).1 ≤ 0) ∧ ((cmp one a b).1 = 0 → (cmp one b c).1 = 0 → (cmp one a c).1 = 0) := by
  rw [cmp_lex one a b h1, cmp_lex one b c h2, cmp_lex one a c (fun g => (h1 g).trans (h2 g))]
  exact ⟨lex_le _ _ _ rfl rfl, lex_eq _ _ _ rfl rfl⟩
theorem p1 (one : Bool) (a b : Cand) : F3.l1 (0, 1, (cmp one a b).1, (cmp one a b).2, (cmp one b a).1, (cmp one b a).2) () = some ((0, false), ()) := one_ok one 0 1 a b (fun h => by cases h)
theorem fin (x y z : Int) (h1 : x ≤ 0 → y ≤ 0 → z ≤ 0) (h2 : x = 0 → y = 0 → z = 0) :
    (bif decide (x ≤ 0) then bif decide (y ≤ 0) then bif decide (z > 0) then some (false, PUnit.unit) else bif x == 0 then bif y == 0 then bif z != 0 then some (false, PUnit.unit) else some (true, PUnit.unit) else some (true, PUnit.unit) else some (true, PUnit.unit)
      else bif x == 0 then bif y == 0 then bif z != 0 then some (false, PUnit.unit) else some (true, PUnit.unit) else some (true, PUnit.unit) else some (true, PUnit.unit)
      else bif x == 0 then bif y == 0 then bif z != 0 then some (false, PUnit.unit) else some (true, PUnit.unit) else some (true, PUnit.unit) else some (true, PUnit.unit)) = some (true, PUnit.unit) := by
  have k : (bif x == 0 then bif y == 0 then bif z != 0 then some (false, PUnit.unit) else some (true, PUnit.unit) else some (true, PUnit.unit) else some (true, PUnit.unit)) = some (true, PUnit.unit) := by
    by_cases hx : x = 0
    · by_cases hy : y = 0
      · have hz := h2 hx hy
        subst hx hy hz; rfl
      · have : (y == 0) = false := by simpa using hy
        rw [this]; cases (x == 0) <;> rfl
    · have : (x == 0) = false := by simpa using hx
      rw [this]; rfl
  rw [k]
  by_cases hx : x ≤ 0
  · by_cases hy : y ≤ 0
    · have hz := h1 hx hy
      rw [decide_eq_true hx, decide_eq_true hy, decide_eq_false (show ¬ z > 0 by omega)]; rfl
    · rw [decide_eq_true hx, decide_eq_false hy]; rfl
  · rw [decide_eq_false hx]; rfl
theorem run (a b c : Cand) (one : Bool) (n : Int) : F3.f (T3 a b c, one, n) = some (true, ()) := by
  show F3.fP _ _ _ _ = _
  unfold F3.fP
  simp only
  have one_ne : ∀ (i j : Int) (a b : Cand), i ≠ j → F3.l1 (i, j, (cmp one a b).1, (cmp one a b).2, (cmp one b a).1, (cmp one b a).2) () = some ((0, false), ()) := fun i j a b h => one_ok one i j a b (fun g => absurd g h)
  have one_eq : ∀ (i : Int) (a : Cand), F3.l1 (i, i, (cmp one a a).1, (cmp one a a).2, (cmp one a a).1, (cmp one a a).2) () = some ((0, false), ()) := fun i a => one_ok one i i a a (fun _ => rfl)
  cases one with
  | true =>
    obtain ⟨a0, a1, a2, a3, a4, a5, a6, a7, a8⟩ := a
    obtain ⟨b0, b1, b2, b3, b4, b5, b6, b7, b8⟩ := b
    obtain ⟨c0, c1, c2, c3, c4, c5, c6, c7, c8⟩ := c
    have hb := body (a0, a1, a2, a3, n, a5, a6, a7, a8) (b0, b1, b2, b3, n, b5, b6, b7, b8) (c0, c1, c2, c3, n, c5, c6, c7, c8) true (fun _ => rfl) (fun _ => rfl)
    have t00 := two00 true (a0, a1, a2, a3, n, a5, a6, a7, a8) (b0, b1, b2, b3, n, b5, b6, b7, b8) (c0, c1, c2, c3, n, c5, c6, c7, c8)
    have t01 := two01 true (a0, a1, a2, a3, n, a5, a6, a7, a8) (b0, b1, b2, b3, n, b5, b6, b7, b8) (c0, c1, c2, c3, n, c5, c6, c7, c8)
    have t02 := two02 true (a0, a1, a2, a3, n, a5, a6, a7, a8) (b0, b1, b2, b3, n, b5, b6, b7, b8) (c0, c1, c2, c3, n, c5, c6, c7, c8)
    have t10 := two10 true (a0, a1, a2, a3, n, a5, a6, a7, a8) (b0, b1, b2, b3, n, b5, b6, b7, b8) (c0, c1, c2, c3, n, c5, c6, c7, c8)
    have t11 := two11 true (a0, a1, a2, a3, n, a5, a6, a7, a8) (b0, b1, b2, b3, n, b5, b6, b7, b8) (c0, c1, c2, c3, n, c5, c6, c7, c8)
    have t12 := two12 true (a0, a1, a2, a3, n, a5, a6, a7, a8) (b0, b1, b2, b3, n, b5, b6, b7, b8) (c0, c1, c2, c3, n, c5, c6, c7, c8)
    have t20 := two20 true (a0, a1, a2, a3, n, a5, a6, a7, a8) (b0, b1, b2, b3, n, b5, b6, b7, b8) (c0, c1, c2, c3, n, c5, c6, c7, c8)
    have t21 := two21 true (a0, a1, a2, a3, n, a5, a6, a7, a8) (b0, b1, b2, b3, n, b5, b6, b7, b8) (c0, c1, c2, c3, n, c5, c6, c7, c8)
    have t22 := two22 true (a0, a1, a2, a3, n, a5, a6, a7, a8) (b0, b1, b2, b3, n, b5, b6, b7, b8) (c0, c1, c2, c3, n, c5, c6, c7, c8)
    simp only [T3] at t00 t01 t02 t10 t11 t12 t20 t21 t22
    have pr : ∀ x y : Cand, x.2.2.2.2.1 = y.2.2.2.2.1 → chk x y true (cmp true x y).2 = some ((0, false), ()) := fun x y h => pair true x y (fun _ => h)
    simp only [cond_true, compare, Option.bind_some, one_eq, one_ne _ _ _ _ (show (0 : Int) ≠ 1 by decide), one_ne _ _ _ _ (show (0 : Int) ≠ 2 by decide), one_ne _ _ _ _ (show (1 : Int) ≠ 0 by decide), one_ne _ _ _ _ (show (1 : Int) ≠ 2 by decide),
      one_ne _ _ _ _ (show (2 : Int) ≠ 0 by decide), one_ne _ _ _ _ (show (2 : Int) ≠ 1 by decide), decide_true, t00, t01, t02, t10, t11, t12, t20, t21, t22, pr]
    exact fin _ _ _ hb.1 hb.2
  | false =>
    obtain ⟨a0, a1, a2, a3, a4, a5, a6, a7, a8⟩ := a
    obtain ⟨b0, b1, b2, b3, b4, b5, b6, b7, b8⟩ := b
    obtain ⟨c0, c1, c2, c3, c4, c5, c6, c7, c8⟩ := c
    have hb := body (a0, a1, a2, a3, a4, a5, a6, a7, a8) (b0, b1, b2, b3, b4, b5, b6, b7, b8) (c0, c1, c2, c3, c4, c5, c6, c7, c8) false (fun h => by cases h) (fun h => by cases h)
    have t00 := two00 false (a0, a1, a2, a3, a4, a5, a6, a7, a8) (b0, b1, b2, b3, b4, b5, b6, b7, b8) (c0, c1, c2, c3, c4, c5, c6, c7, c8)
    have t01 := two01 false (a0, a1, a2, a3, a4, a5, a6, a7, a8) (b0, b1, b2, b3, b4, b5, b6, b7, b8) (c0, c1, c2, c3, c4, c5, c6, c7, c8)
    have t02 := two02 false (a0, a1, a2, a3, a4, a5, a6, a7, a8) (b0, b1, b2, b3, b4, b5, b6, b7, b8) (c0, c1, c2, c3, c4, c5, c6, c7, c8)
    have t10 := two10 false (a0, a1, a2, a3, a4, a5, a6, a7, a8) (b0, b1, b2, b3, b4, b5, b6, b7, b8) (c0, c1, c2, c3, c4, c5, c6, c7, c8)
    have t11 := two11 false (a0, a1, a2, a3, a4, a5, a6, a7, a8) (b0, b1, b2, b3, b4, b5, b6, b7, b8) (c0, c1, c2, c3, c4, c5, c6, c7, c8)
    have t12 := two12 false (a0, a1, a2, a3, a4, a5, a6, a7, a8) (b0, b1, b2, b3, b4, b5, b6, b7, b8) (c0, c1, c2, c3, c4, c5, c6, c7, c8)
    have t20 := two20 false (a0, a1, a2, a3, a4, a5, a6, a7, a8) (b0, b1, b2, b3, b4, b5, b6, b7, b8) (c0, c1, c2, c3, c4, c5, c6, c7, c8)
    have t21 := two21 false (a0, a1, a2, a3, a4, a5, a6, a7, a8) (b0, b1, b2, b3, b4, b5, b6, b7, b8) (c0, c1, c2, c3, c4, c5, c6, c7, c8)
    have t22 := two22 false (a0, a1, a2, a3, a4, a5, a6, a7, a8) (b0, b1, b2, b3, b4, b5, b6, b7, b8) (c0, c1, c2, c3, c4, c5, c6, c7, c8)
    simp only [T3] at t00 t01 t02 t10 t11 t12 t20 t21 t22
    have pr : ∀ x y : Cand, chk x y false (cmp false x y).2 = some ((0, false), ()) := fun x y => pair false x y (fun h => by cases h)
    simp only [cond_false, compare, Option.bind_some, one_eq, one_ne _ _ _ _ (show (0 : Int) ≠ 1 by decide), one_ne _ _ _ _ (show (0 : Int) ≠ 2 by decide), one_ne _ _ _ _ (show (1 : Int) ≠ 0 by decide), one_ne _ _ _ _ (show (1 : Int) ≠ 2 by decide),
      one_ne _ _ _ _ (show (2 : Int) ≠ 0 by decide), one_ne _ _ _ _ (show (2 : Int) ≠ 1 by decide), decide_true, cond_true, t00, t01, t02, t10, t11, t12, t20, t21, t22, pr]
    exact fin _ _ _ hb.1 hb.2
theorem chooseTotal (d : Den F3.i) (hd : wfD F3.i d) : ∃ q, F3.f d = some (true, q) := by
  obtain ⟨⟨a0, a1, a2, a3, a4, a5, a6, a7, a8, b0, b1, b2, b3, b4, b5, b6, b7, b8, c0, c1, c2, c3, c4, c5, c6, c7, c8⟩, one, n⟩ := d
  exact ⟨(), run (a0, a1, a2, a3, a4, a5, a6, a7, a8) (b0, b1, b2, b3, b4, b5, b6, b7, b8) (c0, c1, c2, c3, c4, c5, c6, c7, c8) one n⟩
end Go.Proofs.YtaniibilgdhdiaaDoor.PC
