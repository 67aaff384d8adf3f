/- Chapter 21: what Compare answers. -/
import Derived.Test.YtaniibilgdhdiaaDoorX1
import Derived.Test.YtaniibilgdhdiaaDoorZP
import Derived.Test.YtaniibilgdhdiaaDoorX3
import Derived.Test.YtaniibilgdhdiaaDoorZK
namespace Go.Proofs.YtaniibilgdhdiaaDoor.PA
open Go Go.Proofs Go.Proofs.YtaniibilgdhdiaaDoor.Sx
set_option linter.unusedSimpArgs false
set_option linter.unusedVariables false
/-- One number ahead of another. -/
def c3 (x y : Int) : Int := if x < y then -1 else if y < x then 1 else 0
def cls (n : Int) : Int := if n = 0 then 0 else if n = 3 then 1 else if n = 2 then 2 else if n = 1 then 2 else 3
theorem c3_lt {x y : Int} (h : x < y) : c3 x y = -1 := if_pos h
theorem c3_gt {x y : Int} (h : y < x) : c3 x y = 1 := by unfold c3; rw [if_neg (by omega), if_pos h]
theorem c3_eq {x : Int} : c3 x x = 0 := by unfold c3; rw [if_neg (by omega), if_neg (by omega)]
theorem c3_0 {x y : Int} (h : c3 x y = 0) : x = y := by
  unfold c3 at h
  split at h
  · cases h
  · split at h
    · cases h
    · omega
theorem c3_neg (x y : Int) : c3 y x = - c3 x y := by
  unfold c3
  repeat' split
  all_goals first | rfl | omega
theorem cmp16 (x y : Int) : F20.f (x, y) = some (c3 x y, ()) := by
  show F20.fP _ = _
  unfold F20.fP c3
  have e1 : (x != x) = false := by simp
  have e2 : (y != y) = false := by simp
  simp only [e1, e2, cond_false]
  by_cases h : x < y
  · rw [decide_eq_true h, if_pos h]; rfl
  · rw [decide_eq_false h, if_neg h]
    by_cases h2 : y < x
    · rw [decide_eq_true (show x > y from h2), if_pos h2]; rfl
    · rw [decide_eq_false (show ¬ x > y from h2), if_neg h2]; rfl
theorem cmp17 (x y : Int) : F21.f (x, y) = some (c3 x y, ()) := cmp16 x y
theorem cmp18 (x y : Int) : F22.f (x, y) = some (c3 x y, ()) := cmp16 x y
theorem cmp20 (x y : Int) : F24.f (x, y) = some (c3 x y, ()) := cmp16 x y
theorem cmp21 (x y : Int) : F25.f (x, y) = some (c3 x y, ()) := cmp16 x y
theorem clsF (n : Int) : F23.f n = some (cls n, ()) := by
  show F23.fP _ = _
  unfold F23.fP cls
  by_cases h0 : n = 0
  · subst h0; rfl
  by_cases h3 : n = 3
  · subst h3; rfl
  by_cases h2 : n = 2
  · subst h2; rfl
  by_cases h1 : n = 1
  · subst h1; rfl
  rw [if_neg h0, if_neg h3, if_neg h2, if_neg h1, beq_eq_false_iff_ne.2 h0, beq_eq_false_iff_ne.2 h3, beq_eq_false_iff_ne.2 h2, beq_eq_false_iff_ne.2 h1]
  rfl
abbrev Cand := Int × Int × Int × Int × Int × Int × Int × Int × Int
/-- The first that differs. -/
def fst : List (Int × Int) → Int × Int
  | [] => (0, 0)
  | (o, k) :: l => if o = 0 then fst l else (o, k)
def parts (med : Bool) (a b : Cand) : List (Int × Int) :=
  [(c3 b.1 a.1, 1), (c3 a.2.1 b.2.1, 2), (c3 a.2.2.1 b.2.2.1, 3), (if med = true ∧ a.2.2.2.2.1 = b.2.2.2.2.1 then c3 a.2.2.2.1 b.2.2.2.1 else 0, 4),
   (c3 (cls a.2.2.2.2.2.1) (cls b.2.2.2.2.2.1), 5), (c3 a.2.2.2.2.2.2.1 b.2.2.2.2.2.2.1, 6), (c3 a.2.2.2.2.2.2.2.1 b.2.2.2.2.2.2.2.1, 7), (c3 a.2.2.2.2.2.2.2.2 b.2.2.2.2.2.2.2.2, 8)]
def cmp (med : Bool) (a b : Cand) : Int × Int := fst (parts med a b)
theorem bne0 (o : Int) {α : Type} (x y : α) : (bif o != 0 then x else y) = if o = 0 then y else x := by
  by_cases h : o = 0
  · subst h; rfl
  · rw [if_neg h, show (o != 0) = true from by simpa using h]; rfl
theorem ite_some (c : Prop) [Decidable c] (x y : Int × Int) : (if c then some (x, ()) else some (y, ())) = some (if c then x else y, ()) := by split <;> rfl
theorem compare (a b : Cand) (med : Bool) : F7.f (a, b, med) = some (cmp med a b, ()) := by
  obtain ⟨a0, a1, a2, a3, a4, a5, a6, a7, a8⟩ := a
  obtain ⟨b0, b1, b2, b3, b4, b5, b6, b7, b8⟩ := b
  show F7.fP _ _ _ _ _ _ _ = _
  unfold F7.fP
  simp only [cmp16, cmp17, cmp18, cmp20, cmp21, clsF, Option.bind_some, bne0]
  unfold cmp parts
  simp only [fst]
  cases med with
  | false => simp only [Bool.not_false, cond_true, Bool.false_eq_true, false_and, if_false, if_true, ite_some]
  | true =>
    simp only [Bool.not_true, cond_false]
    by_cases h4 : a4 = b4
    · subst h4
      have e : (a4 != a4) = false := by simp
      simp only [e, cond_false, true_and, if_true, ite_some]
    · have e : (a4 != b4) = true := by simpa using h4
      simp only [e, cond_true, true_and, if_neg h4, if_true, ite_some]
end Go.Proofs.YtaniibilgdhdiaaDoor.PA

/- Chapter 21: an order: better goes on from one to the next. -/
namespace Go.Proofs.YtaniibilgdhdiaaDoor.PO
open Go Go.Proofs Go.Proofs.YtaniibilgdhdiaaDoor.PA
set_option linter.unusedSimpArgs false
set_option linter.unusedVariables false
theorem c3_cases (x y : Int) : (x < y ∧ c3 x y = -1) ∨ (x = y ∧ c3 x y = 0) ∨ (y < x ∧ c3 x y = 1) := by
  unfold c3
  by_cases h : x < y
  · exact .inl ⟨h, if_pos h⟩
  · by_cases h2 : y < x
    · exact .inr (.inr ⟨h2, by rw [if_neg h, if_pos h2]⟩)
    · exact .inr (.inl ⟨by omega, by rw [if_neg h, if_neg h2]⟩)
def lex : List Int → List Int → Int
  | x :: a, y :: b => if c3 x y = 0 then lex a b else c3 x y
  | _, _ => 0
theorem lex_le : ∀ (a b c : List Int), a.length = b.length → b.length = c.length → lex a b ≤ 0 → lex b c ≤ 0 → lex a c ≤ 0
  | [], _, _, _, _, _, _ => by simp [lex]
  | x :: a, [], _, h, _, _, _ => by simp at h
  | x :: a, y :: b, [], _, h, _, _ => by simp at h
  | x :: a, y :: b, z :: c, h1, h2, h3, h4 => by
    simp only [lex] at h3 h4 ⊢
    have ih := lex_le a b c (by simpa using h1) (by simpa using h2)
    rcases c3_cases x y with ⟨g, e⟩ | ⟨g, e⟩ | ⟨g, e⟩ <;> rcases c3_cases y z with ⟨g', e'⟩ | ⟨g', e'⟩ | ⟨g', e'⟩ <;> rcases c3_cases x z with ⟨g'', e''⟩ | ⟨g'', e''⟩ | ⟨g'', e''⟩ <;> simp [e, e', e''] at h3 h4 ⊢ <;> first | omega | exact ih h3 h4
theorem lex_eq : ∀ (a b c : List Int), a.length = b.length → b.length = c.length → lex a b = 0 → lex b c = 0 → lex a c = 0
  | [], _, _, _, _, _, _ => by simp [lex]
  | x :: a, [], _, h, _, _, _ => by simp at h
  | x :: a, y :: b, [], _, h, _, _ => by simp at h
  | x :: a, y :: b, z :: c, h1, h2, h3, h4 => by
    simp only [lex] at h3 h4 ⊢
    have ih := lex_eq a b c (by simpa using h1) (by simpa using h2)
    rcases c3_cases x y with ⟨g, e⟩ | ⟨g, e⟩ | ⟨g, e⟩ <;> rcases c3_cases y z with ⟨g', e'⟩ | ⟨g', e'⟩ | ⟨g', e'⟩ <;> rcases c3_cases x z with ⟨g'', e''⟩ | ⟨g'', e''⟩ | ⟨g'', e''⟩ <;> simp [e, e', e''] at h3 h4 ⊢ <;> first | omega | exact ih h3 h4
/-- What is compared of a candidate. -/
def K (med : Bool) (a : Cand) : List Int := [-a.1, a.2.1, a.2.2.1, if med = true then a.2.2.2.1 else 0, cls a.2.2.2.2.2.1, a.2.2.2.2.2.2.1, a.2.2.2.2.2.2.2.1, a.2.2.2.2.2.2.2.2]
theorem c3_flip (x y : Int) : c3 (-x) (-y) = c3 y x := by
  unfold c3
  by_cases h : y < x
  · rw [if_pos h, if_pos (by omega)]
  · by_cases h2 : x < y
    · rw [if_neg (by omega), if_pos (by omega), if_neg h, if_pos h2]
    · rw [if_neg (by omega), if_neg (by omega), if_neg h, if_neg h2]
theorem cmp_lex (med : Bool) (a b : Cand) (h : med = true → a.2.2.2.2.1 = b.2.2.2.2.1) : (cmp med a b).1 = lex (K med a) (K med b) := by
  unfold cmp parts K
  simp only [fst, lex, c3_flip]
  cases med with
  | false => simp only [Bool.false_eq_true, false_and, if_false, c3_eq, if_true]; repeat' split
             all_goals rfl
  | true => simp only [true_and, h rfl, if_true]; repeat' split
            all_goals rfl
theorem fst_neg : ∀ (l : List (Int × Int)), fst (l.map fun x => (-x.1, x.2)) = (-(fst l).1, (fst l).2)
  | [] => rfl
  | (o, k) :: l => by
    simp only [List.map_cons, fst]
    by_cases h : o = 0
    · subst h; simp [fst_neg l]
    · have h' : ¬ -o = 0 := by omega
      simp [h, h']
theorem turned (med : Bool) (a b : Cand) : cmp med b a = (-(cmp med a b).1, (cmp med a b).2) := by
  have e : parts med b a = (parts med a b).map fun x => (-x.1, x.2) := by
    unfold parts
    simp only [List.map_cons, List.map_nil]
    rw [c3_neg b.1 a.1, c3_neg a.2.1 b.2.1, c3_neg a.2.2.1 b.2.2.1, c3_neg (cls a.2.2.2.2.2.1), c3_neg a.2.2.2.2.2.2.1, c3_neg a.2.2.2.2.2.2.2.1, c3_neg a.2.2.2.2.2.2.2.2]
    by_cases h : med = true ∧ a.2.2.2.2.1 = b.2.2.2.2.1
    · have h' : med = true ∧ b.2.2.2.2.1 = a.2.2.2.2.1 := ⟨h.1, h.2.symm⟩
      rw [if_pos h, if_pos h', c3_neg a.2.2.2.1]
    · have h' : ¬ (med = true ∧ b.2.2.2.2.1 = a.2.2.2.2.1) := fun g => h ⟨g.1, g.2.symm⟩
      rw [if_neg h, if_neg h']
      rfl
  unfold cmp
  rw [e, fst_neg]
theorem same (med : Bool) (a : Cand) : cmp med a a = (0, 0) := by
  unfold cmp parts
  simp only [fst, c3_eq, if_true, ite_self]
theorem zero : ∀ (l : List (Int × Int)), (∀ x ∈ l, 1 ≤ x.2 ∧ x.2 ≤ 8) → ((fst l).1 = 0 ↔ (fst l).2 = 0) ∧ 0 ≤ (fst l).2 ∧ (fst l).2 ≤ 8
  | [], _ => by simp [fst]
  | (o, k) :: l, h => by
    have h1 := h (o, k) (by simp)
    have ih := zero l (fun x hx => h x (by simp [hx]))
    simp only at h1
    simp only [fst]
    by_cases h0 : o = 0
    · rw [if_pos h0]; exact ih
    · rw [if_neg h0]; simp only; omega
theorem reason (med : Bool) (a b : Cand) : ((cmp med a b).1 = 0 ↔ (cmp med a b).2 = 0) ∧ 0 ≤ (cmp med a b).2 ∧ (cmp med a b).2 ≤ 8 := by
  refine zero _ (fun x hx => ?_)
  unfold parts at hx
  simp only [List.mem_cons, List.not_mem_nil, or_false] at hx
  rcases hx with rfl | rfl | rfl | rfl | rfl | rfl | rfl | rfl <;> simp
/-- What stands ahead of the reason is alike. -/
theorem ahead (med : Bool) (a b : Cand) : (1 < (cmp med a b).2 → a.1 = b.1) ∧ (2 < (cmp med a b).2 → a.2.1 = b.2.1) ∧ (3 < (cmp med a b).2 → a.2.2.1 = b.2.2.1) ∧
    (med = true → a.2.2.2.2.1 = b.2.2.2.2.1 → 4 < (cmp med a b).2 → a.2.2.2.1 = b.2.2.2.1) ∧ (6 < (cmp med a b).2 → a.2.2.2.2.2.2.1 = b.2.2.2.2.2.2.1) := by
  unfold cmp parts
  simp only [fst]
  by_cases h1 : c3 b.1 a.1 = 0
  case neg => simp only [h1, if_false]; exact ⟨fun g => by simp at g, fun g => by simp at g, fun g => by simp at g, fun _ _ g => by simp at g, fun g => by simp at g⟩
  by_cases h2 : c3 a.2.1 b.2.1 = 0
  case neg => simp only [h1, h2, if_true, if_false]; exact ⟨fun _ => (c3_0 h1).symm, fun g => by simp at g, fun g => by simp at g, fun _ _ g => by simp at g, fun g => by simp at g⟩
  by_cases h3 : c3 a.2.2.1 b.2.2.1 = 0
  case neg => simp only [h1, h2, h3, if_true, if_false]; exact ⟨fun _ => (c3_0 h1).symm, fun _ => c3_0 h2, fun g => by simp at g, fun _ _ g => by simp at g, fun g => by simp at g⟩
  by_cases h4 : (if med = true ∧ a.2.2.2.2.1 = b.2.2.2.2.1 then c3 a.2.2.2.1 b.2.2.2.1 else 0) = 0
  case neg => simp only [h1, h2, h3, h4, if_true, if_false]; refine ⟨fun _ => (c3_0 h1).symm, fun _ => c3_0 h2, fun _ => c3_0 h3, fun _ _ g => by simp at g, fun g => by simp at g⟩
  have m4 : med = true → a.2.2.2.2.1 = b.2.2.2.2.1 → a.2.2.2.1 = b.2.2.2.1 := fun g g' => c3_0 (by rw [if_pos ⟨g, g'⟩] at h4; exact h4)
  simp only [h1, h2, h3, h4, if_true]
  refine ⟨fun _ => (c3_0 h1).symm, fun _ => c3_0 h2, fun _ => c3_0 h3, fun g g' _ => m4 g g', fun g => ?_⟩
  by_cases h5 : c3 (cls a.2.2.2.2.2.1) (cls b.2.2.2.2.2.1) = 0
  case neg => rw [if_neg h5] at g; simp at g
  rw [if_pos h5] at g
  by_cases h6 : c3 a.2.2.2.2.2.2.1 b.2.2.2.2.2.2.1 = 0
  · exact c3_0 h6
  · rw [if_neg h6] at g; simp at g
end Go.Proofs.YtaniibilgdhdiaaDoor.PO

/- Chapter 21: the best one of some places, groups by neighbours, ranks: what the calls come to. -/
namespace Go.Proofs.YtaniibilgdhdiaaDoor.PCB
open Go Go.Proofs Go.Proofs.YtaniibilgdhdiaaDoor.PA Go.Proofs.YtaniibilgdhdiaaDoor.PO Go.Proofs.YtaniibilgdhdiaaDoor.Sx
set_option linter.unusedSimpArgs false
set_option linter.unusedVariables false
theorem le_all (n : Nat) : decide (0 + n ≤ n) = true := decide_eq_true (by omega)
theorem take_all {α : Type} (l : List α) : List.take l.length (List.drop 0 l) = l := by simp
/-- A loop over places. -/
theorem loopN {α β : Type} {f : α → Option (α ⊕ β)} (S : Nat → α) (n : Nat) {r : β} (h1 : ∀ i, i < n → f (S i) = some (.inl (S (i + 1)))) (h2 : f (S n) = some (.inr r)) : iterO f (S 0) = some r := by
  have key : ∀ k i, i + k = n → iterO f (S i) = some r := by
    intro k
    induction k with
    | zero => intro i hi; rw [show i = n by omega]; exact iterO_done h2
    | succ k ih => intro i hi; rw [iterO_step (h1 i (by omega))]; exact ih (i + 1) (by omega)
  exact key n 0 (by omega)
abbrev z0 : Cand := (0, 0, 0, 0, 0, 0, 0, 0, 0)
def cd (A : List Cand) (k : Int) : Cand := A.getD (0 + k.toNat) z0
def nb (a : Cand) : Int := a.2.2.2.2.1
def Ok (A : List Cand) (ps : List Int) : Prop := ∀ k ∈ ps, 0 ≤ k ∧ k < (A.length : Int)
theorem Ok.sub {A : List Cand} {ps qs : List Int} (h : Ok A ps) (hs : ∀ k ∈ qs, k ∈ ps) : Ok A qs := fun k hk => h k (hs k hk)
theorem getI {ps : List Int} {i : Nat} (h : i < ps.length) : ps.getD (0 + (i : Int).toNat) 0 = ps[i] := by
  rw [show 0 + (i : Int).toNat = i by omega, List.getD_eq_getElem?_getD, List.getElem?_eq_getElem h]
  rfl
theorem in_ok {A : List Cand} {k : Int} (h : 0 ≤ k ∧ k < (A.length : Int)) : decide (0 ≤ k ∧ k < (A.length : Int) ∧ 0 < A.length) = true ∧ decide (0 + k.toNat < A.length) = true := ⟨decide_eq_true (by omega), decide_eq_true (by omega)⟩
theorem at_ok {α : Type} {ps : List α} {i : Nat} (h : i < ps.length) : decide ((0 : Int) ≤ (i : Int) ∧ (i : Int) < (ps.length : Int) ∧ 0 < ps.length) = true ∧ decide (0 + (i : Int).toNat < ps.length) = true := ⟨decide_eq_true (by omega), decide_eq_true (by omega)⟩
theorem app_ok {α : Type} {l : List α} {x : α} (h : l.length ≤ 1000000) : decide (l.length + 1 ≤ 1073741824) = true ∧ decide (0 + (l.length + 1) ≤ (l ++ [x]).length) = true ∧ List.take (l.length + 1) (List.drop 0 (l ++ [x])) = l ++ [x] := by
  refine ⟨decide_eq_true (by omega), decide_eq_true (by simp), ?_⟩
  rw [List.drop_zero, List.take_of_length_le (by simp)]

/-! ### The best one of some places -/
def bs (A : List Cand) (med : Bool) (x k : Int) : Int := if x < 0 then k else if (cmp med (cd A k) (cd A x)).1 < 0 then k else x
def bst (A : List Cand) (med : Bool) (x : Int) (ps : List Int) : Int := ps.foldl (bs A med) x
theorem bst_snoc (A : List Cand) (med : Bool) (x : Int) (ps : List Int) (k : Int) : bst A med x (ps ++ [k]) = bs A med (bst A med x ps) k := by simp [bst]
theorem bst_mem (A : List Cand) (med : Bool) : ∀ (ps : List Int) (x : Int), bst A med x ps = x ∨ bst A med x ps ∈ ps
  | [], x => .inl rfl
  | k :: ps, x => by
    show bst A med (bs A med x k) ps = x ∨ _
    have h1 : bs A med x k = x ∨ bs A med x k = k := by
      unfold bs
      split
      · exact .inr rfl
      · split
        · exact .inr rfl
        · exact .inl rfl
    rcases bst_mem A med ps (bs A med x k) with h | h
    · rcases h1 with h1 | h1
      · left; rw [h1] at h ⊢; exact h
      · right; show bst A med (bs A med x k) ps ∈ _; rw [h, h1]; simp
    · right; exact List.mem_cons_of_mem _ h
theorem take_snoc {α : Type} {l : List α} {i : Nat} (h : i < l.length) : l.take (i + 1) = l.take i ++ [l[i]] := by rw [List.take_succ_eq_append_getElem h]
theorem one24 {A : List Cand} {med : Bool} {x k : Int} (hk : 0 ≤ k ∧ k < (A.length : Int)) (hx : 0 ≤ x ∧ x < (A.length : Int)) : F37.l1 (A, med, x, k) () = some ((cmp med (cd A k) (cd A x)).1, ()) := by
  unfold F37.l1 F37.r1 F37.r1P
  simp only [(in_ok hk).1, (in_ok hk).2, (in_ok hx).1, (in_ok hx).2, cond_true]
  show (F7.f (cd A k, cd A x, med)).bind _ = _
  rw [compare]
  rfl
theorem best {A : List Cand} {med : Bool} {ps : List Int} (h : Ok A ps) (hl : ps.length ≤ 1000000) : F37.f (A, ps, med) = some (bst A med (-1) ps, ()) := by
  have key : F37.l2 (A, med, ps, (ps.length : Int)) (-1, 0) = some (bst A med (-1) ps, ()) := by
    refine loopN (S := fun i => (bst A med (-1) (ps.take i), (i : Int))) ps.length (fun i hi => ?_) ?_
    · have hp := h ps[i] (List.getElem_mem hi)
      show F37.r2P F7.f F37.l1 (A, med, ps, (ps.length : Int)) (bst A med (-1) (ps.take i), (i : Int)) = _
      unfold F37.r2P
      have hb : bst A med (-1) (ps.take (i + 1)) = bs A med (bst A med (-1) (ps.take i)) ps[i] := by rw [take_snoc hi, bst_snoc]
      have hm := bst_mem A med (ps.take i) (-1)
      rw [hb]
      generalize bst A med (-1) (ps.take i) = x at *
      have c1 : decide ((i : Int) < (ps.length : Int)) = true := decide_eq_true (by omega)
      simp only [c1, (at_ok hi).1, (at_ok hi).2, cond_true, getI hi, le_all, Bool.and_true, List.take_length]
      rw [wrap64_id (n := (i : Int) + 1) (by omega)]
      unfold bs
      by_cases hx : x < 0
      · rw [decide_eq_true hx, if_pos hx]; rfl
      · have hxo : 0 ≤ x ∧ x < (A.length : Int) := by
          rcases hm with hm | hm
          · omega
          · exact h x (List.mem_of_mem_take hm)
        rw [decide_eq_false hx, if_neg hx, cond_false, one24 hp hxo, Option.bind_some]
        by_cases hc : (cmp med (cd A ps[i]) (cd A x)).1 < 0
        · simp only [decide_eq_true hc, if_pos hc, cond_true]; rfl
        · simp only [decide_eq_false hc, if_neg hc, cond_false]; rfl
    · show F37.r2P F7.f F37.l1 (A, med, ps, (ps.length : Int)) (bst A med (-1) (ps.take ps.length), (ps.length : Int)) = _
      unfold F37.r2P
      have c1 : decide ((ps.length : Int) < (ps.length : Int)) = false := decide_eq_false (by omega)
      simp only [c1, cond_false, List.take_length]
  unfold F37.f F37.fP
  simp only [le_all, cond_true, Bool.and_true, List.take_length, key, Option.bind_some]

/-! ### Places -/
def pls (n : Nat) : List Int := (List.range n).map fun (i : Nat) => (i : Int)
theorem places {A : List Cand} (hA : A.length ≤ 1000000) : F26.f A = some (pls A.length, ()) := by
  have key : F26.l1 (A.length : Int) ([], 0) = some (pls A.length, ()) := by
    refine loopN (S := fun i => (pls i, (i : Int))) A.length (fun i hi => ?_) ?_
    · show F26.r1P (A.length : Int) (pls i, (i : Int)) = _
      unfold F26.r1P
      have hpl : (pls i).length = i := by simp [pls]
      have c1 : decide ((i : Int) < (A.length : Int)) = true := decide_eq_true (by omega)
      have ha := app_ok (l := pls i) (x := (i : Int)) (by omega)
      simp only [c1, List.take_length, ha.1, ha.2.1, ha.2.2, le_all, cond_true, Bool.and_true]
      rw [wrap64_id (n := (i : Int) + 1) (by omega), show pls i ++ [(i : Int)] = pls (i + 1) by simp [pls, List.range_succ]]
      rfl
    · show F26.r1P (A.length : Int) (pls A.length, (A.length : Int)) = _
      unfold F26.r1P
      have c1 : decide ((A.length : Int) < (A.length : Int)) = false := decide_eq_false (by omega)
      simp only [c1, cond_false, cond_true, le_all, Bool.and_true, List.take_length]
  show F26.fP F26.l1 A = _
  unfold F26.fP
  simp only [key, Option.bind_some, le_all, cond_true, Bool.and_true, take_all]
theorem pls_ok (A : List Cand) : Ok A (pls A.length) := by
  intro k hk
  simp only [pls, List.mem_map, List.mem_range] at hk
  obtain ⟨i, hi, rfl⟩ := hk
  omega

/-! ### Maps -/
theorem eqI_eq (a b : Int) : (keyB (Sh.sc (Ck.int IntKind.u32) Sh.nil)) a b = decide (a = b) := rfl
theorem hasK_cons {β : Type} (a : Int) (b : β) (l : List (Int × β)) (x : Int) : hasK (keyB (Sh.sc (Ck.int IntKind.u32) Sh.nil)) ((a, b) :: l) x = (decide (a = x) || hasK (keyB (Sh.sc (Ck.int IntKind.u32) Sh.nil)) l x) := rfl
theorem posK_cons {β : Type} (a : Int) (b : β) (l : List (Int × β)) (x : Int) : posK (keyB (Sh.sc (Ck.int IntKind.u32) Sh.nil)) ((a, b) :: l) x = if a = x then 0 else posK (keyB (Sh.sc (Ck.int IntKind.u32) Sh.nil)) l x + 1 := by
  unfold posK
  rw [List.findIdx_cons]
  simp only [eqI_eq]
  by_cases h : a = x <;> simp [h]
theorem getK_cons {β : Type} (a : Int) (b : β) (l : List (Int × β)) (x : Int) (d : β) : getK (keyB (Sh.sc (Ck.int IntKind.u32) Sh.nil)) ((a, b) :: l) x d = if a = x then b else getK (keyB (Sh.sc (Ck.int IntKind.u32) Sh.nil)) l x d := by
  unfold getK
  rw [posK_cons]
  by_cases h : a = x <;> simp [h]
theorem putK_cons {β : Type} (a : Int) (b : β) (l : List (Int × β)) (x : Int) (y : β) : putK (keyB (Sh.sc (Ck.int IntKind.u32) Sh.nil)) ((a, b) :: l) x y = if a = x then (x, y) :: l else (a, b) :: putK (keyB (Sh.sc (Ck.int IntKind.u32) Sh.nil)) l x y := by
  unfold putK
  rw [hasK_cons, posK_cons]
  by_cases h : a = x
  · simp [h]
  · simp only [h, decide_false, Bool.false_or, if_false]
    cases hasK (keyB (Sh.sc (Ck.int IntKind.u32) Sh.nil)) l x <;> simp
theorem getK_put {β : Type} (d y : β) (n m : Int) : ∀ (l : List (Int × β)), getK (keyB (Sh.sc (Ck.int IntKind.u32) Sh.nil)) (putK (keyB (Sh.sc (Ck.int IntKind.u32) Sh.nil)) l n y) m d = if n = m then y else getK (keyB (Sh.sc (Ck.int IntKind.u32) Sh.nil)) l m d
  | [] => by
    show getK (keyB (Sh.sc (Ck.int IntKind.u32) Sh.nil)) [(n, y)] m d = _
    rw [getK_cons]
  | (a, b) :: l => by
    rw [putK_cons]
    by_cases h : a = n
    · subst h
      rw [if_pos rfl, getK_cons, getK_cons]
      by_cases h2 : a = m <;> simp [h2]
    · rw [if_neg h, getK_cons, getK_cons, getK_put d y n m l]
      by_cases h2 : a = m
      · subst h2
        simp [show ¬ n = a from fun g => h g.symm]
      · simp [h2]
theorem set_put {β : Type} (d y : β) (n : Int) (z : Int × β) : ∀ (l : List (Int × β)), hasK (keyB (Sh.sc (Ck.int IntKind.u32) Sh.nil)) l n = true → l.set (posK (keyB (Sh.sc (Ck.int IntKind.u32) Sh.nil)) l n) ((l.getD (posK (keyB (Sh.sc (Ck.int IntKind.u32) Sh.nil)) l n) z).1, y) = putK (keyB (Sh.sc (Ck.int IntKind.u32) Sh.nil)) l n y
  | [], h => by simp [hasK] at h
  | (a, b) :: l, h => by
    rw [putK_cons, posK_cons]
    by_cases h2 : a = n
    · subst h2; simp
    · rw [if_neg h2, if_neg h2]
      rw [hasK_cons, decide_eq_false h2, Bool.false_or] at h
      have := set_put d y n z l h
      simp only [List.set_cons_succ, List.getD_cons_succ]
      rw [this]
theorem getK_no {β : Type} (d : β) (n : Int) : ∀ (l : List (Int × β)), hasK (keyB (Sh.sc (Ck.int IntKind.u32) Sh.nil)) l n = false → getK (keyB (Sh.sc (Ck.int IntKind.u32) Sh.nil)) l n d = d
  | [], _ => rfl
  | (a, b) :: l, h => by
    rw [hasK_cons, Bool.or_eq_false_iff] at h
    rw [getK_cons, if_neg (of_decide_eq_false h.1), getK_no d n l h.2]
/-! ### Groups -/
abbrev Gr := List (Int × List Int)
def nms (A : List Cand) (ps : List Int) : List Int := ps.foldl (fun ns k => if nb (cd A k) ∈ ns then ns else ns ++ [nb (cd A k)]) []
def grs (A : List Cand) (ps : List Int) : Gr := ps.foldl (fun g k => putK (keyB (Sh.sc (Ck.int IntKind.u32) Sh.nil)) g (nb (cd A k)) (getK (keyB (Sh.sc (Ck.int IntKind.u32) Sh.nil)) g (nb (cd A k)) [] ++ [k])) []
theorem nms_snoc (A : List Cand) (ps : List Int) (k : Int) : nms A (ps ++ [k]) = if nb (cd A k) ∈ nms A ps then nms A ps else nms A ps ++ [nb (cd A k)] := by
  unfold nms; rw [List.foldl_append]; rfl
theorem grs_snoc (A : List Cand) (ps : List Int) (k : Int) : grs A (ps ++ [k]) = putK (keyB (Sh.sc (Ck.int IntKind.u32) Sh.nil)) (grs A ps) (nb (cd A k)) (getK (keyB (Sh.sc (Ck.int IntKind.u32) Sh.nil)) (grs A ps) (nb (cd A k)) [] ++ [k]) := by
  unfold grs; rw [List.foldl_append]; rfl
def grp (A : List Cand) (ps : List Int) (n : Int) : List Int := ps.filter fun k => decide (nb (cd A k) = n)
theorem snoc_ind {α : Type} {P : List α → Prop} (h0 : P []) (h1 : ∀ l x, P l → P (l ++ [x])) : ∀ l, P l := by
  intro l
  have : ∀ n, P (l.take n) := by
    intro n
    induction n with
    | zero => simpa using h0
    | succ n ih =>
      by_cases hn : n < l.length
      · rw [take_snoc hn]; exact h1 _ _ ih
      · rw [List.take_of_length_le (by omega)]; rw [List.take_of_length_le (by omega)] at ih; exact ih
  have h := this l.length
  rwa [List.take_length] at h
theorem grs_get (A : List Cand) (ps : List Int) : ∀ n, getK (keyB (Sh.sc (Ck.int IntKind.u32) Sh.nil)) (grs A ps) n [] = grp A ps n := by
  refine snoc_ind (P := fun ps => ∀ n, getK (keyB (Sh.sc (Ck.int IntKind.u32) Sh.nil)) (grs A ps) n [] = grp A ps n) (fun n => rfl) (fun ps k ih n => ?_) ps
  rw [grs_snoc, getK_put, ih (nb (cd A k))]
  by_cases h : nb (cd A k) = n
  · rw [if_pos h, h]; simp [grp, List.filter_append, h]
  · rw [if_neg h, ih n]; simp [grp, List.filter_append, h]
theorem nms_mem (A : List Cand) (ps : List Int) : ∀ n, n ∈ nms A ps ↔ ∃ k ∈ ps, nb (cd A k) = n := by
  refine snoc_ind (P := fun ps => ∀ n, n ∈ nms A ps ↔ ∃ k ∈ ps, nb (cd A k) = n) (fun n => by simp [nms]) (fun ps k ih n => ?_) ps
  rw [nms_snoc]
  have e : (∃ j ∈ ps ++ [k], nb (cd A j) = n) ↔ (∃ j ∈ ps, nb (cd A j) = n) ∨ nb (cd A k) = n := by
    constructor
    · rintro ⟨j, hj, h⟩
      rcases List.mem_append.1 hj with hj | hj
      · exact .inl ⟨j, hj, h⟩
      · simp only [List.mem_singleton] at hj; subst hj; exact .inr h
    · rintro (⟨j, hj, h⟩ | h)
      · exact ⟨j, by simp [hj], h⟩
      · exact ⟨k, by simp, h⟩
  rw [e]
  split
  · rename_i h
    rw [ih]
    constructor
    · exact .inl
    · rintro (h2 | h2)
      · exact h2
      · rw [← h2]; exact (ih _).1 h
  · rw [List.mem_append, List.mem_singleton, ih]
    constructor
    · rintro (h2 | h2)
      · exact .inl h2
      · exact .inr h2.symm
    · rintro (h2 | h2)
      · exact .inl h2
      · exact .inr h2.symm
theorem nms_nodup (A : List Cand) (ps : List Int) : (nms A ps).Nodup := by
  refine snoc_ind (P := fun ps => (nms A ps).Nodup) List.nodup_nil (fun ps k ih => ?_) ps
  rw [nms_snoc]
  split
  · exact ih
  · rename_i h
    rw [List.nodup_append]
    refine ⟨ih, by simp, fun a ha b hb e => ?_⟩
    simp only [List.mem_singleton] at hb
    subst e; subst hb
    exact h ha
theorem nms_len (A : List Cand) (ps : List Int) : (nms A ps).length ≤ ps.length := by
  refine snoc_ind (P := fun ps => (nms A ps).length ≤ ps.length) (Nat.le_refl _) (fun ps k ih => ?_) ps
  rw [nms_snoc]
  split
  · simp; omega
  · simp; omega
theorem grp_nil (A : List Cand) (ps : List Int) (n : Int) : grp A ps n = [] ↔ n ∉ nms A ps := by
  rw [nms_mem]
  unfold grp
  rw [List.filter_eq_nil_iff]
  constructor
  · rintro h ⟨k, hk, e⟩; exact h k hk (by simpa using e)
  · intro h k hk e; exact h ⟨k, hk, by simpa using e⟩
def wins (A : List Cand) (ps : List Int) : List Int := (nms A ps).map fun n => bst A true (-1) (grp A ps n)
def amg (A : List Cand) (ps : List Int) : Int := bst A false (-1) (wins A ps)
section
variable {A : List Cand} {ps : List Int} (h : Ok A ps) (hl : ps.length ≤ 1000000)
theorem m1 {k : Int} (hk : 0 ≤ k ∧ k < (A.length : Int)) : F27.l1 (A, k) () = some (nb (cd A k), ()) := by
  unfold F27.l1 F27.r1 F27.r1P
  simp only [(in_ok hk).1, (in_ok hk).2, cond_true]
  rfl
theorem m2 (g : Gr) (n : Int) : F27.l2 (g, n) () = some (((getK (keyB (Sh.sc (Ck.int IntKind.u32) Sh.nil)) g n []).length : Int) == 0, ()) := by
  unfold F27.l2 F27.r2 F27.r2P
  cases hh : hasK (keyB (Sh.sc (Ck.int IntKind.u32) Sh.nil)) g n with
  | true => simp only [hh, cond_true]
  | false => rw [getK_no [] n g hh]; simp only [hh, cond_false]; rfl
theorem m3 {ns : List Int} {n : Int} (hn : ns.length ≤ 1000000) : F27.l3 n ns = some (ns ++ [n], ()) := by
  unfold F27.l3 F27.r3 F27.r3P
  have ha := app_ok (x := n) hn
  simp only [show (1 : Nat) / OfNat.ofNat (1 : Nat) = 1 from rfl, List.take_length, ha.1, ha.2.1, ha.2.2, le_all, cond_true, Bool.and_true]
theorem m4 {g : Gr} {k n : Int} (hn : (getK (keyB (Sh.sc (Ck.int IntKind.u32) Sh.nil)) g n []).length ≤ 1000000) : F27.l4 (k, n) g = some (putK (keyB (Sh.sc (Ck.int IntKind.u32) Sh.nil)) g n (getK (keyB (Sh.sc (Ck.int IntKind.u32) Sh.nil)) g n [] ++ [k]), ()) := by
  unfold F27.l4 F27.r4 F27.r4P
  have ha := app_ok (x := k) hn
  cases hh : hasK (keyB (Sh.sc (Ck.int IntKind.u32) Sh.nil)) g n with
  | true =>
    simp only [show (1 : Nat) / OfNat.ofNat (1 : Nat) = 1 from rfl, hh, cond_true, ha.1, le_all, Bool.and_true, Bool.true_and, Nat.beq_refl]
    have e := ha.2.1
    have e2 := ha.2.2
    simp only [List.take_length, List.drop_zero] at e e2 ⊢
    simp only [e, e2, cond_true]
    rw [set_put [] _ n _ g hh]
  | false =>
    simp only [hh, cond_false]
    rw [getK_no [] n g hh]
    rfl
include h hl in
theorem m5 : F27.l5 (A, ps, (ps.length : Int)) ([], [], 0) = some ((grs A ps, nms A ps), ()) := by
  refine loopN (S := fun i => (grs A (ps.take i), nms A (ps.take i), (i : Int))) ps.length (fun i hi => ?_) ?_
  · have hp := h ps[i] (List.getElem_mem hi)
    show F27.r5P F37.f F27.l1 F27.l2 F27.l3 F27.l4 (A, ps, (ps.length : Int)) (grs A (ps.take i), nms A (ps.take i), (i : Int)) = _
    unfold F27.r5P
    rw [take_snoc hi, grs_snoc, nms_snoc]
    have hg := grs_get A (ps.take i) (nb (cd A ps[i]))
    have hgl : (grp A (ps.take i) (nb (cd A ps[i]))).length ≤ 1000000 := by
      have := List.length_filter_le (fun k => decide (nb (cd A k) = nb (cd A ps[i]))) (ps.take i)
      rw [List.length_take] at this
      unfold grp
      omega
    have hnl := nms_len A (ps.take i)
    rw [List.length_take] at hnl
    have hnil := grp_nil A (ps.take i) (nb (cd A ps[i]))
    have c1 : decide ((i : Int) < (ps.length : Int)) = true := decide_eq_true (by omega)
    simp only [c1, (at_ok hi).1, (at_ok hi).2, cond_true, getI hi, le_all, Bool.and_true, List.take_length, m1 hp, Option.bind_some, m2, hg, m4 (by rw [hg]; exact hgl)]
    rw [wrap64_id (n := (i : Int) + 1) (by omega)]
    by_cases hm : nb (cd A ps[i]) ∈ nms A (ps.take i)
    · have hne : (((grp A (ps.take i) (nb (cd A ps[i]))).length : Int) == 0) = false := by
        rw [beq_eq_false_iff_ne]
        intro e
        exact hnil.1 (List.eq_nil_of_length_eq_zero (by omega)) hm
      rw [if_pos hm]
      simp only [hne, cond_false]
      rfl
    · have hne : (((grp A (ps.take i) (nb (cd A ps[i]))).length : Int) == 0) = true := by
        rw [beq_iff_eq, hnil.2 hm]; rfl
      rw [if_neg hm]
      simp only [hne, cond_true, m3 (n := nb (cd A ps[i])) (show (nms A (ps.take i)).length ≤ 1000000 by omega), Option.bind_some, take_all, le_all, Bool.and_true]
      rfl
  · show F27.r5P F37.f F27.l1 F27.l2 F27.l3 F27.l4 (A, ps, (ps.length : Int)) (grs A (ps.take ps.length), nms A (ps.take ps.length), (ps.length : Int)) = _
    unfold F27.r5P
    have c1 : decide ((ps.length : Int) < (ps.length : Int)) = false := decide_eq_false (by omega)
    simp only [c1, cond_false, cond_true, le_all, Bool.and_true, List.take_length]
include h hl in
theorem m6 {n : Int} {ws : List Int} (hw : ws.length ≤ 1000000) : F27.l6 (A, grs A ps, n) ws = some (ws ++ [bst A true (-1) (grp A ps n)], ()) := by
  unfold F27.l6 F27.r6 F27.r6P
  have hg := grs_get A ps n
  have hok : Ok A (grp A ps n) := h.sub fun k hk => (List.mem_filter.1 hk).1
  have hgl : (grp A ps n).length ≤ 1000000 := by
    have := List.length_filter_le (fun k => decide (nb (cd A k) = n)) ps
    unfold grp
    omega
  have hb := best (med := true) hok hgl
  have ha := app_ok (x := bst A true (-1) (grp A ps n)) hw
  cases hh : hasK (keyB (Sh.sc (Ck.int IntKind.u32) Sh.nil)) (grs A ps) n with
  | true => simp only [show (1 : Nat) / OfNat.ofNat (1 : Nat) = 1 from rfl, hh, hg, cond_true, le_all, Bool.and_true, List.take_length, take_all, hb, Option.bind_some, ha.1, ha.2.1, ha.2.2]
  | false =>
    have e : grp A ps n = [] := by rw [← hg]; exact getK_no [] n _ hh
    rw [e] at hb ha ⊢
    simp only [show (1 : Nat) / OfNat.ofNat (1 : Nat) = 1 from rfl, hh, cond_true, cond_false, le_all, Bool.and_true, List.take_length, take_all, hb, Option.bind_some, ha.1, ha.2.1, ha.2.2]
include h hl in
theorem m7 : F27.l7 (A, grs A ps, nms A ps, ((nms A ps).length : Int)) ([], 0) = some (wins A ps, ()) := by
  have hnl := nms_len A ps
  refine loopN (S := fun i => (((nms A ps).take i).map fun n => bst A true (-1) (grp A ps n), (i : Int))) (nms A ps).length (fun i hi => ?_) ?_
  · show F27.r7P F37.f F27.l6 (A, grs A ps, nms A ps, ((nms A ps).length : Int)) (((nms A ps).take i).map fun n => bst A true (-1) (grp A ps n), (i : Int)) = _
    unfold F27.r7P
    have c1 : decide ((i : Int) < ((nms A ps).length : Int)) = true := decide_eq_true (by omega)
    have hml : (((nms A ps).take i).map fun n => bst A true (-1) (grp A ps n)).length ≤ 1000000 := by rw [List.length_map, List.length_take]; omega
    have h6 := m6 h hl (n := (nms A ps)[i]) hml
    rw [take_snoc hi, List.map_append]
    simp only [c1, (at_ok hi).1, (at_ok hi).2, cond_true, getI hi, le_all, Bool.and_true, List.take_length, h6, Option.bind_some, take_all]
    rw [wrap64_id (n := (i : Int) + 1) (by omega)]
    rfl
  · show F27.r7P F37.f F27.l6 (A, grs A ps, nms A ps, ((nms A ps).length : Int)) (((nms A ps).take (nms A ps).length).map fun n => bst A true (-1) (grp A ps n), ((nms A ps).length : Int)) = _
    unfold F27.r7P
    have c1 : decide (((nms A ps).length : Int) < ((nms A ps).length : Int)) = false := decide_eq_false (by omega)
    simp only [c1, cond_false, cond_true, le_all, Bool.and_true, List.take_length]
    rfl
theorem wins_sub : ∀ k ∈ wins A ps, k ∈ ps := by
  intro k hk
  simp only [wins, List.mem_map] at hk
  obtain ⟨n, hn, rfl⟩ := hk
  have hne : grp A ps n ≠ [] := fun e => (grp_nil A ps n).1 e hn
  have hsub : ∀ k ∈ grp A ps n, k ∈ ps := fun k hk => (List.mem_filter.1 hk).1
  cases hg : grp A ps n with
  | nil => exact absurd hg hne
  | cons x xs =>
    rw [hg] at hsub
    have e : bst A true (-1) (x :: xs) = bst A true x xs := rfl
    rw [e]
    rcases bst_mem A true xs x with h1 | h1
    · rw [h1]; exact hsub x (by simp)
    · exact hsub _ (by simp [h1])
include h hl in
theorem among : F27.f (A, ps) = some (amg A ps, ()) := by
  have hw : Ok A (wins A ps) := h.sub wins_sub
  have hwl : (wins A ps).length ≤ 1000000 := by
    have := nms_len A ps
    unfold wins
    rw [List.length_map]; omega
  unfold F27.f F27.fP
  simp only [le_all, cond_true, Bool.and_true, List.take_length, m5 h hl, Option.bind_some, take_all, m7 h hl, best hw hwl]
  rfl
theorem amg_mem (hne : ps ≠ []) : amg A ps ∈ ps := by
  have hw : wins A ps ≠ [] := by
    cases ps with
    | nil => exact absurd rfl hne
    | cons x xs =>
      intro e
      have hm : nb (cd A x) ∈ nms A (x :: xs) := (nms_mem A _ _).2 ⟨x, by simp, rfl⟩
      simp only [wins, List.map_eq_nil_iff] at e
      rw [e] at hm
      simp at hm
  cases hx : wins A ps with
  | nil => exact absurd hx hw
  | cons x xs =>
    have hsub := wins_sub (A := A) (ps := ps)
    rw [hx] at hsub
    have e : amg A ps = bst A false x xs := by unfold amg; rw [hx]; rfl
    rw [e]
    rcases bst_mem A false xs x with h1 | h1
    · rw [h1]; exact hsub x (by simp)
    · exact hsub _ (by simp [h1])
end
theorem bestF {A : List Cand} (hA : A.length ≤ 1000000) : F16.f A = some (amg A (pls A.length), ()) := by
  have hl : (pls A.length).length ≤ 1000000 := by simp [pls]; exact hA
  unfold F16.f F16.fP
  simp only [le_all, cond_true, Bool.and_true, List.take_length, places hA, Option.bind_some, take_all, among (pls_ok A) hl]
end Go.Proofs.YtaniibilgdhdiaaDoor.PCB

/- Chapter 21: one taken out of a row; ranks. -/
namespace Go.Proofs.YtaniibilgdhdiaaDoor.PDB
open Go Go.Proofs Go.Proofs.YtaniibilgdhdiaaDoor.PA Go.Proofs.YtaniibilgdhdiaaDoor.PO Go.Proofs.YtaniibilgdhdiaaDoor.PCB Go.Proofs.YtaniibilgdhdiaaDoor.Sx
set_option linter.unusedSimpArgs false
set_option linter.unusedVariables false
def nx (x y : Int) : Bool := decide (y ≠ x)
theorem nx_self (x : Int) : nx x x = false := by simp [nx]
theorem nx_ne {x y : Int} (h : ¬ y = x) : nx x y = true := by simp [nx, h]
section
variable {s : List Int} {x : Int} (hl : s.length ≤ 1000000)
def fi (s : List Int) (x : Int) : Nat := s.findIdx fun y => decide (y = x)
include hl in
theorem index : F38.f (s, x) = some (if fi s x < s.length then (fi s x : Int) else -1, ()) := by
  have hle : fi s x ≤ s.length := List.findIdx_le_length
  have step : ∀ i : Nat, i < fi s x → F38.r1P (s, x, (s.length : Int)) (i : Int) = some (.inl ((i + 1 : Nat) : Int)) := by
    intro i hi
    unfold F38.r1P
    have hil : i < s.length := by omega
    have c1 : decide ((i : Int) < (s.length : Int)) = true := decide_eq_true (by omega)
    have hne : ¬ s[i] = x := by
      have := List.not_of_lt_findIdx hi
      simpa using this
    have e : (s[i] == x) = false := by simpa using hne
    simp only [c1, (at_ok hil).1, (at_ok hil).2, cond_true, getI hil, e, cond_false]
    rw [wrap64_id (n := (i : Int) + 1) (by omega)]
    rfl
  have key : F38.l1 (s, x, (s.length : Int)) (OfNat.ofNat (0 : Nat)) = some (if fi s x < s.length then ((1, (fi s x : Int)), ()) else ((0, 0), ())) := by
    refine loopN (S := fun i => (i : Int)) (fi s x) (fun i hi => step i hi) ?_
    show F38.r1P (s, x, (s.length : Int)) ((fi s x : Nat) : Int) = _
    unfold F38.r1P
    by_cases h : fi s x < s.length
    · have c1 : decide (((fi s x : Nat) : Int) < (s.length : Int)) = true := decide_eq_true (by omega)
      have he : s[fi s x] = x := of_decide_eq_true (List.findIdx_getElem (p := fun y => decide (y = x)) (xs := s) (w := h))
      have e : (s[fi s x] == x) = true := by simpa using he
      simp only [c1, (at_ok h).1, (at_ok h).2, cond_true, getI h, e, if_pos h]
    · have c1 : decide (((fi s x : Nat) : Int) < (s.length : Int)) = false := decide_eq_false (by omega)
      simp only [c1, cond_false, if_neg h]
  unfold F38.f F38.fP
  simp only [le_all, cond_true, Bool.and_true, List.take_length, key, Option.bind_some]
  by_cases h : fi s x < s.length
  · rw [if_pos h, if_pos h]; rfl
  · rw [if_neg h, if_neg h]; rfl
def Inv (s0 : List Int) (x : Int) (z : List Int × Int × Int) : Prop :=
  ∃ J : Nat, z.2.2 = (J : Int) ∧ J ≤ s0.length ∧ z.1.length = s0.length ∧ z.2.1 = (((s0.take J).filter (nx x)).length : Int) ∧ z.1.take ((s0.take J).filter (nx x)).length = (s0.take J).filter (nx x) ∧ z.1.drop J = s0.drop J
theorem set_take {α : Type} {l : List α} {i : Nat} {v : α} (h : i < l.length) : (l.set i v).take (i + 1) = l.take i ++ [v] := by
  rw [take_snoc (by rw [List.length_set]; exact h), List.take_set_of_le (Nat.le_refl _)]
  simp
include hl in
theorem moves {I J : Nat} (h1 : J ≤ s.length) (h2 : I = ((s.take J).filter (nx x)).length) (hz : s.take I = (s.take J).filter (nx x)) : ∃ t : List Int, F28.l1 x (s, (I : Int), (J : Int)) = some ((t, ((s.filter (nx x)).length : Int)), ()) ∧ t.length = s.length ∧ t.take ((s.filter (nx x)).length) = s.filter (nx x) := by
  obtain ⟨r, e, t, k1, k2, k3⟩ := iterO_inv (f := F28.r1 x) (Inv s x) (fun z => s.length - z.2.2.toNat) (fun r => ∃ t : List Int, r = ((t, ((s.filter (nx x)).length : Int)), ()) ∧ t.length = s.length ∧ t.take ((s.filter (nx x)).length) = s.filter (nx x)) (by
    rintro ⟨r, i, j⟩ ⟨J, g1, g2, g3, g4, g5, g6⟩
    simp only at g1 g3 g4 g5 g6
    subst g1
    show (∃ a', F28.r1P F38.f x (r, i, (J : Int)) = some (.inl a') ∧ _) ∨ ∃ b, F28.r1P F38.f x (r, i, (J : Int)) = some (.inr b) ∧ _
    unfold F28.r1P
    by_cases hJ : J < s.length
    · left
      have hJr : J < r.length := by omega
      have hv : r[J] = s[J] := by
        have e1 : r.drop J = r[J] :: r.drop (J + 1) := List.drop_eq_getElem_cons hJr
        have e2 : s.drop J = s[J] :: s.drop (J + 1) := List.drop_eq_getElem_cons hJ
        rw [e1, e2] at g6
        exact (List.cons.inj g6).1
      have hd : r.drop (J + 1) = s.drop (J + 1) := by
        have := congrArg (List.drop 1) g6
        rwa [List.drop_drop, List.drop_drop] at this
      have c1 : decide ((J : Int) < (r.length : Int)) = true := decide_eq_true (by omega)
      have hts := take_snoc hJ
      have hfl : ((s.take J).filter (nx x)).length ≤ J := by
        have := List.length_filter_le (nx x) (s.take J)
        rw [List.length_take] at this
        omega
      generalize hI : ((s.take J).filter (nx x)).length = I' at *
      subst g4
      by_cases hx : s[J] = x
      · have e : (!s[J] == x) = false := by simp [hx]
        refine ⟨(r, (I' : Int), ((J + 1 : Nat) : Int)), ?_, ⟨J + 1, rfl, by omega, g3, ?_, ?_, hd⟩, by simp only [Int.toNat_natCast]; omega⟩
        · simp only [c1, (at_ok hJr).1, (at_ok hJr).2, cond_true, getI hJr, hv, e, cond_false, le_all, Bool.and_true, List.take_length]
          rw [wrap64_id (n := (J : Int) + 1) (by omega)]
          rfl
        · rw [hts, List.filter_append]; simp [hx, nx_self, hI]
        · rw [hts, List.filter_append]; simp [hx, nx_self, hI]; exact g5
      · have e : (!s[J] == x) = true := by simpa using hx
        have hIr : I' < r.length := by omega
        refine ⟨(r.set I' s[J], ((I' + 1 : Nat) : Int), ((J + 1 : Nat) : Int)), ?_, ⟨J + 1, rfl, by omega, by simp [g3], ?_, ?_, ?_⟩, by simp only [Int.toNat_natCast]; omega⟩
        · have c2 : decide (0 + r.length ≤ (r.set (0 + (I' : Int).toNat) s[J]).length) = true := decide_eq_true (by simp)
          have e3 : List.take r.length (List.drop 0 (r.set (0 + (I' : Int).toNat) s[J])) = r.set I' s[J] := by
            rw [List.drop_zero, List.take_of_length_le (by simp), show 0 + (I' : Int).toNat = I' by omega]
          simp only [c1, (at_ok hJr).1, (at_ok hJr).2, cond_true, getI hJr, hv, e, (at_ok hIr).1, (at_ok hIr).2, c2, e3, Bool.and_true]
          rw [wrap64_id (n := (J : Int) + 1) (by omega), wrap64_id (n := (I' : Int) + 1) (by omega)]
          rfl
        · rw [hts, List.filter_append, List.length_append, hI]; simp [nx_ne hx]
        · rw [hts, List.filter_append, List.length_append, hI]
          have e5 : (List.filter (nx x) [s[J]]) = [s[J]] := by simp [nx_ne hx]
          rw [e5]
          show (r.set I' s[J]).take (I' + 1) = _
          rw [set_take hIr, g5]
        · show (r.set I' s[J]).drop (J + 1) = _
          rw [List.drop_set_of_lt (by omega)]
          exact hd
    · right
      have hJe : J = s.length := by omega
      subst hJe
      have c1 : decide ((s.length : Int) < (r.length : Int)) = false := decide_eq_false (by omega)
      rw [List.take_length] at g4 g5
      refine ⟨((r, i), ()), by simp only [c1, cond_false, le_all, cond_true, Bool.and_true, List.take_length], r, by rw [g4], g3, g5⟩) (s, (I : Int), (J : Int)) ⟨J, rfl, h1, rfl, by rw [h2], by rw [← h2]; exact hz, rfl⟩
  exact ⟨t, by rw [← k1]; exact e, k2, k3⟩
include hl in
theorem deleted : F28.f (s, x) = some (s.filter (nx x), ()) := by
  unfold F28.f F28.fP
  simp only [le_all, cond_true, Bool.and_true, List.take_length, index hl, Option.bind_some]
  by_cases h : fi s x < s.length
  · rw [if_pos h]
    have c0 : (((fi s x : Nat) : Int) == -1) = false := by rw [beq_eq_false_iff_ne]; omega
    have hpre : (s.take (fi s x)).filter (nx x) = s.take (fi s x) := by
      rw [List.filter_eq_self]
      intro y hy
      obtain ⟨i, hi, rfl⟩ := List.getElem_of_mem hy
      rw [List.length_take] at hi
      rw [List.getElem_take]
      have := List.not_of_lt_findIdx (p := fun y => decide (y = x)) (xs := s) (i := i) (by unfold fi at hi; omega)
      exact nx_ne (by simpa using this)
    have hat : s[fi s x] = x := of_decide_eq_true (List.findIdx_getElem (p := fun y => decide (y = x)) (xs := s) (w := h))
    have hpre2 : (s.take (fi s x + 1)).filter (nx x) = s.take (fi s x) := by
      rw [take_snoc h, List.filter_append, hpre, hat]; simp [nx_self]
    have hle : (s.take (fi s x)).length = fi s x := by rw [List.length_take]; omega
    obtain ⟨t, k1, k2, k3⟩ := moves hl (x := x) (I := fi s x) (J := fi s x + 1) (by omega) (by rw [hpre2, hle]) (by rw [hpre2])
    have hfl := List.length_filter_le (nx x) s
    rw [wrap64_id (n := ((fi s x : Nat) : Int) + 1) (by omega)]
    simp only [c0, cond_false]
    rw [show ((fi s x : Nat) : Int) + 1 = ((fi s x + 1 : Nat) : Int) by omega, k1]
    simp only [Option.bind_some, Option.getD_some, Option.getD_none]
    generalize hf : s.filter (nx x) = f at *
    have c1 : decide ((0 : Int) ≤ (f.length : Int) ∧ (f.length : Int) ≤ (t.length : Int) ∧ (t.length : Int) ≤ (t.length : Int) ∧ 0 + t.length ≤ t.length) = true := decide_eq_true (by omega)
    have e0 : (f.length : Int).toNat = f.length := by omega
    by_cases hft : (f.length : Int) = (t.length : Int)
    · have c3 : decide ((0 : Int) ≤ (f.length : Int) ∧ (f.length : Int) ≤ (t.length : Int) ∧ 0 + t.length ≤ t.length) = true := decide_eq_true (by omega)
      have c4 : decide (0 + f.length ≤ t.length) = true := decide_eq_true (by omega)
      simp only [c1, cond_true, decide_eq_true hft, c3, e0, c4, Bool.and_true, List.drop_zero, k3]
    · have hr : (List.replicate ((t.length : Int) - (f.length : Int)).toNat (0 : Int)).length = t.length - f.length := by rw [List.length_replicate]; omega
      have e1 : 0 + f.length + (t.length - f.length) = t.length := by omega
      have c3 : decide (0 + f.length + (t.length - f.length) ≤ t.length) = true := decide_eq_true (by omega)
      have e2 : t.drop (0 + f.length + (t.length - f.length)) = [] := by rw [e1]; simp
      have e3 : t.take (0 + f.length) = f := by rw [Nat.zero_add]; exact k3
      have e4 : (f ++ List.replicate ((t.length : Int) - (f.length : Int)).toNat (0 : Int) ++ []).length = t.length := by rw [List.append_nil, List.length_append, hr]; omega
      have c5 : decide ((0 : Int) ≤ (f.length : Int) ∧ (f.length : Int) ≤ (t.length : Int) ∧ 0 + t.length ≤ t.length) = true := decide_eq_true (by omega)
      have c6 : decide (0 + f.length ≤ t.length) = true := decide_eq_true (by omega)
      have e5 : (f ++ List.replicate ((t.length : Int) - (f.length : Int)).toNat (0 : Int) ++ []).take f.length = f := by rw [List.append_nil, List.take_left]
      simp only [c1, cond_true, cond_false, decide_eq_false hft, e0, hr, c3, e2, e3, e4, c5, c6, Bool.and_true, List.drop_zero, e5]
  · rw [if_neg h]
    have hall : s.filter (nx x) = s := by
      rw [List.filter_eq_self]
      intro y hy
      obtain ⟨i, hi, rfl⟩ := List.getElem_of_mem hy
      have := List.not_of_lt_findIdx (p := fun y => decide (y = x)) (xs := s) (i := i) (by unfold fi at h; omega)
      exact nx_ne (by simpa using this)
    rw [hall]
    rfl
end
theorem rest_lt (A : List Cand) {rest : List Int} (h : rest ≠ []) : (rest.filter (nx (amg A rest))).length < rest.length := by
  rw [List.length_filter_lt_length_iff_exists]
  exact ⟨amg A rest, amg_mem h, by simp [nx_self]⟩
/-- All places, ranked. -/
def rnkN (A : List Cand) : Nat → List Int → List Int
  | 0, _ => []
  | n + 1, rest => match rest with
    | [] => []
    | k :: ks => amg A (k :: ks) :: rnkN A n ((k :: ks).filter (nx (amg A (k :: ks))))
def rnk (A : List Cand) (rest : List Int) : List Int := rnkN A rest.length rest
theorem rnkN_nil (A : List Cand) (n : Nat) : rnkN A n [] = [] := by cases n <;> rfl
theorem rnkN_cons (A : List Cand) (n : Nat) {rest : List Int} (h : rest ≠ []) : rnkN A (n + 1) rest = amg A rest :: rnkN A n (rest.filter (nx (amg A rest))) := by
  cases rest with
  | nil => exact absurd rfl h
  | cons k ks => rfl
theorem rnkN_any (A : List Cand) : ∀ (n m : Nat) (rest : List Int), rest.length ≤ n → rest.length ≤ m → rnkN A n rest = rnkN A m rest := by
  intro n
  induction n with
  | zero =>
    intro m rest h _
    have he : rest = [] := List.eq_nil_of_length_eq_zero (by omega)
    subst he; rw [rnkN_nil, rnkN_nil]
  | succ n ih =>
    intro m rest h h2
    by_cases he : rest = []
    · subst he; rw [rnkN_nil, rnkN_nil]
    · have hlt := rest_lt A he
      cases m with
      | zero => omega
      | succ m => rw [rnkN_cons A n he, rnkN_cons A m he, ih m _ (by omega) (by omega)]
theorem rnk_nil (A : List Cand) : rnk A [] = [] := rfl
theorem rnk_cons (A : List Cand) {rest : List Int} (h : rest ≠ []) : rnk A rest = amg A rest :: rnk A (rest.filter (nx (amg A rest))) := by
  have hlt := rest_lt A h
  unfold rnk
  cases hm : rest.length with
  | zero => omega
  | succ m => rw [rnkN_cons A m h, rnkN_any A m _ _ (by omega) (Nat.le_refl _)]
theorem ranks {A : List Cand} : ∀ (n : Nat) (out rest : List Int), rest.length ≤ n → Ok A rest → out.length + rest.length ≤ 1000000 → F10.l4 A (out, rest) = some (out ++ rnk A rest, ()) := by
  intro n
  induction n with
  | zero =>
    intro out rest hn hok hl
    have he : rest = [] := List.eq_nil_of_length_eq_zero (by omega)
    subst he
    refine iterO_done (f := F10.r4 A) ?_
    show F10.r4P F26.f F27.f F28.f F10.l1 F10.l2 F10.l3 A (out, []) = _
    unfold F10.r4P
    have c1 : decide ((([] : List Int).length : Int) > 0) = false := rfl
    simp only [c1, cond_false, cond_true, le_all, Bool.and_true, List.take_length, rnk_nil, List.append_nil]
  | succ n ih =>
    intro out rest hn hok hl
    by_cases he : rest = []
    · subst he; exact ih out [] (by simp) hok hl
    · have hlt := rest_lt A he
      have hpos : 0 < rest.length := by
        cases rest with
        | nil => exact absurd rfl he
        | cons _ _ => simp
      have hn1 : F10.l1 A rest = some ((rest, amg A rest), ()) := by
        unfold F10.l1 F10.r1 F10.r1P
        simp only [le_all, cond_true, Bool.and_true, List.take_length, among hok (by omega), Option.bind_some]
      have hn2 : F10.l2 (amg A rest) out = some (out ++ [amg A rest], ()) := by
        unfold F10.l2 F10.r2 F10.r2P
        have ha := app_ok (l := out) (x := amg A rest) (by omega)
        simp only [show (1 : Nat) / OfNat.ofNat (1 : Nat) = 1 from rfl, List.take_length, ha.1, ha.2.1, ha.2.2, le_all, cond_true, Bool.and_true]
      have hn3 : F10.l3 () (rest, amg A rest) = some (rest.filter (nx (amg A rest)), amg A rest) := by
        unfold F10.l3 F10.r3 F10.r3P
        simp only [le_all, cond_true, Bool.and_true, List.take_length, deleted (s := rest) (x := amg A rest) (by omega), Option.bind_some, take_all]
      have hstep : F10.r4 A (out, rest) = some (.inl (out ++ [amg A rest], rest.filter (nx (amg A rest)))) := by
        show F10.r4P F26.f F27.f F28.f F10.l1 F10.l2 F10.l3 A (out, rest) = _
        unfold F10.r4P
        have c1 : decide ((rest.length : Int) > 0) = true := decide_eq_true (by omega)
        simp only [c1, cond_true, le_all, Bool.and_true, List.take_length, hn1, hn2, hn3, Option.bind_some, take_all]
      show iterO (F10.r4 A) (out, rest) = _
      rw [iterO_step hstep]
      have := ih (out ++ [amg A rest]) (rest.filter (nx (amg A rest))) (by omega) (hok.sub fun k hk => (List.mem_filter.1 hk).1) (by rw [List.length_append]; simp only [List.length_singleton]; omega)
      rw [rnk_cons A he]
      rw [List.append_assoc] at this
      exact this
theorem ranked {A : List Cand} (hA : A.length ≤ 1000000) : F10.f A = some (rnk A (pls A.length), ()) := by
  have hl : (pls A.length).length = A.length := by simp [pls]
  unfold F10.f F10.fP
  simp only [le_all, cond_true, Bool.and_true, List.take_length, places hA, Option.bind_some, take_all, ranks _ [] _ (Nat.le_refl _) (pls_ok A) (by rw [hl]; simpa using hA), List.nil_append]
end Go.Proofs.YtaniibilgdhdiaaDoor.PDB

/- Chapter 21: the document's best one, and its ranks, are the program's: the first of the best. -/
namespace Go.Proofs.YtaniibilgdhdiaaDoor.PG
open Go Go.Proofs Go.Proofs.YtaniibilgdhdiaaDoor.PA Go.Proofs.YtaniibilgdhdiaaDoor.PO Go.Proofs.YtaniibilgdhdiaaDoor.PCB Go.Proofs.YtaniibilgdhdiaaDoor.PDB Go.Proofs.YtaniibilgdhdiaaDoor.Sx
set_option linter.unusedSimpArgs false
set_option linter.unusedVariables false
theorem lex_snoc : ∀ (a b : List Int) (x y : Int), a.length = b.length → lex (a ++ [x]) (b ++ [y]) = if lex a b = 0 then c3 x y else lex a b
  | [], [], x, y, _ => by
    show (if c3 x y = 0 then (0 : Int) else c3 x y) = if (0 : Int) = 0 then c3 x y else 0
    by_cases h : c3 x y = 0 <;> simp [h]
  | [], _ :: _, _, _, h => by simp at h
  | _ :: _, [], _, _, h => by simp at h
  | u :: a, v :: b, x, y, h => by
    have ih := lex_snoc a b x y (by simpa using h)
    simp only [List.cons_append, lex, ih]
    by_cases h0 : c3 u v = 0 <;> simp [h0]
theorem lex_neg : ∀ (a b : List Int), a.length = b.length → lex b a = - lex a b
  | [], [], _ => rfl
  | [], _ :: _, h => by simp at h
  | _ :: _, [], h => by simp at h
  | u :: a, v :: b, h => by
    have ih := lex_neg a b (by simpa using h)
    simp only [lex, ih, c3_neg u v]
    by_cases h0 : c3 u v = 0
    · simp [h0]
    · have : ¬ - c3 u v = 0 := by omega
      simp [h0, this]
theorem lex_lt {a b c : List Int} (h1 : a.length = b.length) (h2 : b.length = c.length) (hab : lex a b < 0) (hbc : lex b c < 0) : lex a c < 0 := by
  have hle := lex_le a b c h1 h2 (by omega) (by omega)
  by_cases h0 : lex a c = 0
  · have e1 := lex_neg a c (h1.trans h2)
    have e2 := lex_neg b c h2
    have := lex_le c a b (h1.trans h2).symm h1 (by omega) (by omega)
    omega
  · omega
theorem K_len (med : Bool) (a b : Cand) : (K med a).length = (K med b).length := rfl
/-- Better, or as good and ahead by f. -/
def L (A : List Cand) (med : Bool) (f : Int → Int) (p q : Int) : Int := lex (K med (cd A p) ++ [f p]) (K med (cd A q) ++ [f q])
theorem L_len (A : List Cand) (med : Bool) (f : Int → Int) (p q : Int) : (K med (cd A p) ++ [f p]).length = (K med (cd A q) ++ [f q]).length := rfl
theorem L_eq {A : List Cand} {med : Bool} {f : Int → Int} {p q : Int} (h : med = true → nb (cd A p) = nb (cd A q)) : L A med f p q = if (cmp med (cd A p) (cd A q)).1 = 0 then c3 (f p) (f q) else (cmp med (cd A p) (cd A q)).1 := by
  unfold L
  rw [lex_snoc _ _ _ _ (K_len _ _ _), cmp_lex med (cd A p) (cd A q) h]
theorem L_neg (A : List Cand) (med : Bool) (f : Int → Int) (p q : Int) : L A med f q p = - L A med f p q := lex_neg _ _ (L_len A med f p q)
theorem L_trans {A : List Cand} {med : Bool} {f : Int → Int} {p q r : Int} (h1 : L A med f p q < 0) (h2 : L A med f q r < 0) : L A med f p r < 0 := lex_lt (L_len A med f p q) (L_len A med f q r) h1 h2
theorem c3_pos {x y : Int} : c3 x y < 0 ↔ x < y := by
  unfold c3
  by_cases h : x < y
  · simp [h]
  · by_cases h2 : y < x <;> simp [h, h2]
theorem bst_min {A : List Cand} {med : Bool} {f : Int → Int} : ∀ (xs : List Int) (x : Int), (∀ k ∈ x :: xs, 0 ≤ k) → (x :: xs).Pairwise (fun a b => f a < f b) → (med = true → ∀ a ∈ x :: xs, ∀ b ∈ x :: xs, nb (cd A a) = nb (cd A b)) →
    bst A med x xs ∈ x :: xs ∧ ∀ k ∈ x :: xs, k = bst A med x xs ∨ L A med f (bst A med x xs) k < 0
  | [], x, _, _, _ => ⟨by simp [bst], fun k hk => .inl (by simpa [bst] using hk)⟩
  | k :: xs, x, h0, hp, hn => by
    have hx0 := h0 x (by simp)
    have hpw := List.pairwise_cons.1 hp
    have hfk : f x < f k := hpw.1 k (by simp)
    have e0 : bst A med x (k :: xs) = bst A med (if (cmp med (cd A k) (cd A x)).1 < 0 then k else x) xs := by
      show bst A med (bs A med x k) xs = _
      unfold bs
      rw [if_neg (by omega)]
    have key : ∀ (s g : Int), (s = k ∧ g = x) ∨ (s = x ∧ g = k) → L A med f s g < 0 → bst A med x (k :: xs) = bst A med s xs → bst A med x (k :: xs) ∈ x :: k :: xs ∧ ∀ j ∈ x :: k :: xs, j = bst A med x (k :: xs) ∨ L A med f (bst A med x (k :: xs)) j < 0 := by
      intro s g hsg hlt he
      have hs : s ∈ x :: k :: xs := by rcases hsg with ⟨rfl, rfl⟩ | ⟨rfl, rfl⟩ <;> simp
      have hsub : ∀ j ∈ s :: xs, j ∈ x :: k :: xs := by
        intro j hj
        rcases List.mem_cons.1 hj with rfl | hj
        · exact hs
        · simp [hj]
      have hp2 : (s :: xs).Pairwise (fun a b => f a < f b) := by
        rcases hsg with ⟨rfl, rfl⟩ | ⟨rfl, rfl⟩
        · exact hpw.2
        · exact List.pairwise_cons.2 ⟨fun j hj => hpw.1 j (by simp [hj]), (List.pairwise_cons.1 hpw.2).2⟩
      obtain ⟨i1, i2⟩ := bst_min xs s (fun j hj => h0 j (hsub j hj)) hp2 (fun hm a ha b hb => hn hm a (hsub a ha) b (hsub b hb))
      rw [he]
      refine ⟨hsub _ i1, fun j hj => ?_⟩
      have hj2 : j ∈ s :: xs ∨ j = g := by
        simp only [List.mem_cons] at hj ⊢
        rcases hsg with ⟨rfl, rfl⟩ | ⟨rfl, rfl⟩ <;> rcases hj with h | h | h <;> simp [h]
      rcases hj2 with hj2 | rfl
      · exact i2 j hj2
      · right
        rcases i2 s (by simp) with h | h
        · rw [← h]; exact hlt
        · exact L_trans h hlt
    have hnk : med = true → nb (cd A k) = nb (cd A x) := fun hm => hn hm k (by simp) x (by simp)
    by_cases h : (cmp med (cd A k) (cd A x)).1 < 0
    · refine key k x (.inl ⟨rfl, rfl⟩) ?_ (by rw [e0, if_pos h])
      rw [L_eq hnk, if_neg (by omega)]; exact h
    · refine key x k (.inr ⟨rfl, rfl⟩) ?_ (by rw [e0, if_neg h])
      rw [L_eq (fun hm => (hnk hm).symm)]
      have ht := turned med (cd A k) (cd A x)
      rw [ht]
      simp only
      by_cases hz : (cmp med (cd A k) (cd A x)).1 = 0
      · rw [if_pos (by omega)]; exact c3_pos.2 hfk
      · rw [if_neg (by omega)]; omega
/-! ### A Neighbour's best one; the best of all -/
def isW (A : List Cand) (ps : List Int) (p : Int) : Prop := p ∈ ps ∧ ∀ k ∈ ps, nb (cd A k) = nb (cd A p) → k = p ∨ L A true id p k < 0
def Asc (ps : List Int) : Prop := ps.Pairwise (· < ·)
theorem win_of {A : List Cand} {ps : List Int} (hok : Ok A ps) (ha : Asc ps) {n : Int} (hn : n ∈ nms A ps) : isW A ps (bst A true (-1) (grp A ps n)) ∧ nb (cd A (bst A true (-1) (grp A ps n))) = n := by
  have hne : grp A ps n ≠ [] := fun e => (grp_nil A ps n).1 e hn
  have hmem : ∀ k ∈ grp A ps n, k ∈ ps ∧ nb (cd A k) = n := fun k hk => ⟨(List.mem_filter.1 hk).1, of_decide_eq_true (List.mem_filter.1 hk).2⟩
  have hpw : (grp A ps n).Pairwise (· < ·) := List.Pairwise.sublist List.filter_sublist ha
  have hin : ∀ k ∈ ps, nb (cd A k) = n → k ∈ grp A ps n := fun k hk e => List.mem_filter.2 ⟨hk, decide_eq_true e⟩
  generalize grp A ps n = g at *
  cases g with
  | nil => exact absurd rfl hne
  | cons x xs =>
    obtain ⟨h1, h2⟩ := bst_min (A := A) (med := true) (f := id) xs x (fun k hk => (hok k (hmem k hk).1).1) hpw (fun _ a ha b hb => by rw [(hmem a ha).2, (hmem b hb).2])
    have e : bst A true (-1) (x :: xs) = bst A true x xs := rfl
    rw [e]
    refine ⟨⟨(hmem _ h1).1, fun k hk hkn => h2 k (hin k hk (by rw [hkn, (hmem _ h1).2]))⟩, (hmem _ h1).2⟩
theorem win_one {A : List Cand} {ps : List Int} {p q : Int} (hp : isW A ps p) (hq : isW A ps q) (h : nb (cd A p) = nb (cd A q)) : p = q := by
  rcases hp.2 q hq.1 h.symm with e | e
  · exact e.symm
  · rcases hq.2 p hp.1 h with e2 | e2
    · exact e2
    · rw [L_neg] at e2; omega
theorem wins_iff {A : List Cand} {ps : List Int} (hok : Ok A ps) (ha : Asc ps) (p : Int) : p ∈ wins A ps ↔ isW A ps p := by
  constructor
  · intro h
    obtain ⟨n, hn, rfl⟩ := List.mem_map.1 h
    exact (win_of hok ha hn).1
  · intro h
    have hn : nb (cd A p) ∈ nms A ps := (nms_mem A ps _).2 ⟨p, h.1, rfl⟩
    obtain ⟨h1, h2⟩ := win_of hok ha hn
    have := win_one h1 h h2
    exact List.mem_map.2 ⟨_, hn, this⟩
/-- The first place of a Neighbour's. -/
def fs (A : List Cand) (ps : List Int) (n : Int) : Int := (grp A ps n).headD 0
def fo (A : List Cand) (ps : List Int) (p : Int) : Int := fs A ps (nb (cd A p))
def isB (A : List Cand) (ps : List Int) (b : Int) : Prop := isW A ps b ∧ ∀ w, isW A ps w → w = b ∨ L A false (fo A ps) b w < 0
theorem best_one {A : List Cand} {ps : List Int} {p q : Int} (hp : isB A ps p) (hq : isB A ps q) : p = q := by
  rcases hp.2 q hq.1 with e | e
  · exact e.symm
  · rcases hq.2 p hp.1 with e2 | e2
    · exact e2
    · rw [L_neg] at e2; omega
theorem grp_snoc (A : List Cand) (ps : List Int) (k n : Int) : grp A (ps ++ [k]) n = grp A ps n ++ (if nb (cd A k) = n then [k] else []) := by
  unfold grp
  rw [List.filter_append]
  by_cases h : nb (cd A k) = n <;> simp [h]
theorem nms_fs (A : List Cand) (ps : List Int) : Asc ps → (nms A ps).Pairwise (fun n m => fs A ps n < fs A ps m) := by
  refine snoc_ind (P := fun ps => Asc ps → (nms A ps).Pairwise (fun n m => fs A ps n < fs A ps m)) (fun _ => List.Pairwise.nil) (fun ps k ih ha => ?_) ps
  unfold Asc at ha
  rw [List.pairwise_append] at ha
  obtain ⟨ha1, _, ha2⟩ := ha
  have hold : ∀ n ∈ nms A ps, fs A (ps ++ [k]) n = fs A ps n ∧ fs A ps n < k := by
    intro n hn
    have hne : grp A ps n ≠ [] := fun e => (grp_nil A ps n).1 e hn
    unfold fs
    rw [grp_snoc]
    cases hg : grp A ps n with
    | nil => exact absurd hg hne
    | cons x xs =>
      refine ⟨rfl, ?_⟩
      have hx : x ∈ grp A ps n := by rw [hg]; simp
      exact ha2 x (List.mem_filter.1 hx).1 k (by simp)
  have ih := ih ha1
  rw [nms_snoc]
  split
  · exact List.Pairwise.imp_of_mem (fun {a b} h1 h2 h => by rw [(hold a h1).1, (hold b h2).1]; exact h) ih
  · rename_i hnew
    rw [List.pairwise_append]
    refine ⟨List.Pairwise.imp_of_mem (fun {a b} h1 h2 h => by rw [(hold a h1).1, (hold b h2).1]; exact h) ih, by simp, fun a ha3 b hb => ?_⟩
    simp only [List.mem_singleton] at hb
    subst hb
    have e : fs A (ps ++ [k]) (nb (cd A k)) = k := by
      unfold fs
      rw [grp_snoc, (grp_nil A ps _).2 hnew]
      simp
    rw [e, (hold a ha3).1]
    exact (hold a ha3).2
theorem amg_best {A : List Cand} {ps : List Int} (hok : Ok A ps) (ha : Asc ps) (hne : ps ≠ []) : isB A ps (amg A ps) := by
  have hw0 : ∀ k ∈ wins A ps, 0 ≤ k := fun k hk => (hok k (wins_sub k hk)).1
  have hpw : (wins A ps).Pairwise (fun a b => fo A ps a < fo A ps b) := by
    unfold wins
    rw [List.pairwise_map]
    refine List.Pairwise.imp_of_mem (fun {n m} hn hm h => ?_) (nms_fs A ps ha)
    unfold fo
    rw [(win_of hok ha hn).2, (win_of hok ha hm).2]
    exact h
  have hiff := wins_iff hok ha
  have hwne : wins A ps ≠ [] := by
    intro e
    have h1 : nms A ps = [] := List.map_eq_nil_iff.1 e
    cases ps with
    | nil => exact hne rfl
    | cons x xs =>
      have : nb (cd A x) ∈ nms A (x :: xs) := (nms_mem A _ _).2 ⟨x, by simp, rfl⟩
      rw [h1] at this
      simp at this
  unfold amg
  generalize wins A ps = W at *
  cases W with
  | nil => exact absurd rfl hwne
  | cons x xs =>
    obtain ⟨h1, h2⟩ := bst_min (A := A) (med := false) (f := fo A ps) xs x hw0 hpw (fun h => by cases h)
    have e : bst A false (-1) (x :: xs) = bst A false x xs := rfl
    rw [e]
    exact ⟨(hiff _).1 h1, fun w hw => h2 w ((hiff w).2 hw)⟩
/-! ### The document's -/
theorem stage (x y k : Int) (X : Option ((Int × Int) × Unit)) (r : List (Int × Int)) (h : X = some (fst r, ())) : (bif x != y then bif decide (x < y) then some ((-1, k), PUnit.unit) else some ((1, k), PUnit.unit) else X) = some (fst ((c3 x y, k) :: r), ()) := by
  by_cases e : x = y
  · subst e
    rw [show (x != x) = false by simp, cond_false, h]
    simp only [fst, c3_eq, if_true]
  · rw [show (x != y) = true by simpa using e, cond_true]
    by_cases g : x < y
    · rw [decide_eq_true g, cond_true]
      simp only [fst, c3_lt g]
      rfl
    · rw [decide_eq_false g, cond_false]
      simp only [fst, c3_gt (show y < x by omega)]
      rfl
theorem stage' (x y k : Int) (X : Option ((Int × Int) × Unit)) (r : List (Int × Int)) (h : X = some (fst r, ())) : (bif x != y then bif decide (x > y) then some ((-1, k), PUnit.unit) else some ((1, k), PUnit.unit) else X) = some (fst ((c3 y x, k) :: r), ()) := by
  rw [← stage y x k X r h]
  have e : (x != y) = (y != x) := by rw [bne_comm]
  rw [e]
theorem clsR (n : Int) : F30.f n = some (cls n, ()) := by
  show F30.fP _ = _
  unfold F30.fP cls
  by_cases h0 : n = 0
  · subst h0; rfl
  by_cases h3 : n = 3
  · subst h3; rfl
  by_cases h2 : n = 2
  · subst h2; rfl
  by_cases h1 : n = 1
  · subst h1; rfl
  rw [if_neg h0, if_neg h3, if_neg h2, if_neg h1]
  simp only [beq_eq_false_iff_ne.2 h0, beq_eq_false_iff_ne.2 h3, beq_eq_false_iff_ne.2 h2, beq_eq_false_iff_ne.2 h1, cond_false]
theorem compareR (a b : Cand) (med : Bool) : F12.f (a, b, med) = some (cmp med a b, ()) := by
  obtain ⟨a0, a1, a2, a3, a4, a5, a6, a7, a8⟩ := a
  obtain ⟨b0, b1, b2, b3, b4, b5, b6, b7, b8⟩ := b
  show F12.fP _ _ = _
  unfold F12.fP cmp parts
  simp only [clsR, Option.bind_some]
  have tail := stage (cls a5) (cls b5) 5 _ _ (stage a6 b6 6 _ _ (stage a7 b7 7 _ _ (stage a8 b8 8 _ _ (show some ((0, 0), PUnit.unit) = some (fst [], ()) from rfl))))
  refine stage' a0 b0 1 _ _ (stage a1 b1 2 _ _ (stage a2 b2 3 _ _ ?_))
  cases med with
  | false =>
    simp only [cond_false, Bool.false_eq_true, false_and, if_false]
    rw [tail]
    rfl
  | true =>
    simp only [cond_true, true_and]
    by_cases h : a4 = b4
    · subst h
      simp only [beq_self_eq_true, cond_true, if_true]
      exact stage a3 b3 4 _ _ tail
    · simp only [beq_eq_false_iff_ne.2 h, cond_false, if_neg h]
      rw [tail]
      rfl
/-- The places that are left. -/
def gn (G : List Bool) (p : Int) : Bool := G.getD (0 + p.toNat) false
def rs (A : List Cand) (G : List Bool) : List Int := (pls A.length).filter fun p => !gn G p
theorem pls_mem {n : Nat} {p : Int} : p ∈ pls n ↔ 0 ≤ p ∧ p < (n : Int) := by
  unfold pls
  rw [List.mem_map]
  constructor
  · rintro ⟨i, hi, rfl⟩
    rw [List.mem_range] at hi
    omega
  · rintro ⟨h1, h2⟩
    exact ⟨p.toNat, by rw [List.mem_range]; omega, by omega⟩
theorem pls_asc (n : Nat) : Asc (pls n) := by
  unfold Asc pls
  rw [List.pairwise_map]
  exact List.Pairwise.imp (fun {a b} h => by omega) (List.pairwise_lt_range (n := n))
theorem rs_mem {A : List Cand} {G : List Bool} {p : Int} : p ∈ rs A G ↔ (0 ≤ p ∧ p < (A.length : Int)) ∧ gn G p = false := by
  unfold rs
  rw [List.mem_filter, pls_mem]
  simp
theorem rs_asc (A : List Cand) (G : List Bool) : Asc (rs A G) := List.Pairwise.sublist List.filter_sublist (pls_asc _)
theorem rs_ok (A : List Cand) (G : List Bool) : Ok A (rs A G) := fun k hk => (rs_mem.1 hk).1
section
variable {A : List Cand} {G : List Bool} (hA : A.length ≤ 1000000) (hG : G.length = A.length)
theorem fo_min {ps : List Int} (ha : Asc ps) {k : Int} (hk : k ∈ ps) : fo A ps k ∈ ps ∧ nb (cd A (fo A ps k)) = nb (cd A k) ∧ ∀ p ∈ ps, nb (cd A p) = nb (cd A k) → fo A ps k ≤ p := by
  have hkg : k ∈ grp A ps (nb (cd A k)) := List.mem_filter.2 ⟨hk, decide_eq_true rfl⟩
  have hpw : (grp A ps (nb (cd A k))).Pairwise (· < ·) := List.Pairwise.sublist List.filter_sublist ha
  have hmem : ∀ p ∈ grp A ps (nb (cd A k)), p ∈ ps ∧ nb (cd A p) = nb (cd A k) := fun p hp => ⟨(List.mem_filter.1 hp).1, of_decide_eq_true (List.mem_filter.1 hp).2⟩
  have hin : ∀ p ∈ ps, nb (cd A p) = nb (cd A k) → p ∈ grp A ps (nb (cd A k)) := fun p hp e => List.mem_filter.2 ⟨hp, decide_eq_true e⟩
  unfold fo fs
  generalize grp A ps (nb (cd A k)) = g at *
  cases g with
  | nil => simp at hkg
  | cons x xs =>
    refine ⟨(hmem x (by simp)).1, (hmem x (by simp)).2, fun p hp e => ?_⟩
    show x ≤ p
    rcases List.mem_cons.1 (hin p hp e) with rfl | h
    · omega
    · have := (List.pairwise_cons.1 hpw).1 p h
      omega
include hA hG in
theorem first {k : Int} (hk : k ∈ rs A G) : F31.f (A, G, k) = some (fo A (rs A G) k, ()) := by
  obtain ⟨g1, g2, g3⟩ := fo_min (A := A) (rs_asc A G) hk
  have hkk := (rs_mem.1 hk).1
  have hff := rs_mem.1 g1
  obtain ⟨j, hj⟩ := Int.eq_ofNat_of_zero_le hff.1.1
  have key : F31.l1 (A, G, k) (OfNat.ofNat 0) = some ((1, fo A (rs A G) k), ()) := by
    refine loopN (S := fun i => (i : Int)) j (fun i hi => ?_) ?_
    · show F31.r1P (A, G, k) (i : Int) = _
      unfold F31.r1P
      have hil : i < A.length := by omega
      have c1 : decide ((i : Int) < (A.length : Int)) = true := decide_eq_true (by omega)
      have hiG : i < G.length := by omega
      simp only [c1, cond_true, (at_ok hiG).1, (at_ok hiG).2]
      rw [wrap64_id (n := (i : Int) + 1) (by omega)]
      by_cases hg : G.getD (0 + (i : Int).toNat) false = true
      · simp only [hg, Bool.not_true, cond_false]; rfl
      · have hg : G.getD (0 + (i : Int).toNat) false = false := by simpa using hg
        simp only [hg, Bool.not_false, cond_true, (at_ok hil).1, (at_ok hil).2, (in_ok hkk).1, (in_ok hkk).2]
        have hne : nb (cd A (i : Int)) ≠ nb (cd A k) := by
          intro e
          have := g3 (i : Int) (rs_mem.2 ⟨by omega, hg⟩) e
          omega
        have hne2 : ((A.getD (0 + (i : Int).toNat) (0, 0, 0, 0, 0, 0, 0, 0, 0)).2.2.2.2.1 == (A.getD (0 + k.toNat) (0, 0, 0, 0, 0, 0, 0, 0, 0)).2.2.2.2.1) = false := beq_eq_false_iff_ne.2 hne
        simp only [hne2, cond_false]
        rfl
    · show F31.r1P (A, G, k) (j : Int) = _
      unfold F31.r1P
      have hil : j < A.length := by omega
      have c1 : decide ((j : Int) < (A.length : Int)) = true := decide_eq_true (by omega)
      have hiG : j < G.length := by omega
      have hg : G.getD (0 + (j : Int).toNat) false = false := by have := hff.2; rw [hj] at this; exact this
      have he2 : ((A.getD (0 + (j : Int).toNat) (0, 0, 0, 0, 0, 0, 0, 0, 0)).2.2.2.2.1 == (A.getD (0 + k.toNat) (0, 0, 0, 0, 0, 0, 0, 0, 0)).2.2.2.2.1) = true := by
        rw [beq_iff_eq]
        have := g2
        rw [hj] at this
        exact this
      simp only [c1, cond_true, (at_ok hiG).1, (at_ok hiG).2, hg, Bool.not_false, (at_ok hil).1, (at_ok hil).2, (in_ok hkk).1, (in_ok hkk).2, he2, hj]
  unfold F31.f F31.fP
  simp only [le_all, cond_true, Bool.and_true, List.take_length, key, Option.bind_some]
  rfl
theorem LT_bad {i k : Int} (hn : nb (cd A k) = nb (cd A i)) (hki : k ≠ i) : (L A true id i k < 0 ↔ ¬ L A true id k i < 0) := by
  rw [L_neg A true id k i]
  have h0 : L A true id k i ≠ 0 := by
    rw [L_eq (fun _ => hn)]
    split
    · intro e; exact hki (c3_0 e)
    · assumption
  omega
include hA hG in
theorem winB {i : Int} (hi : i ∈ rs A G) : ∃ b, F17.l4 (A, G, i) (true, 0) = some (b, ()) ∧ (b = true ↔ isW A (rs A G) i) := by
  have hii := (rs_mem.1 hi).1
  obtain ⟨r, e, b, hb, rfl⟩ := iterO_inv (f := F17.r4 (A, G, i)) (fun z => ∃ k : Nat, z.2 = (k : Int) ∧ k ≤ A.length ∧ (z.1 = true ↔ ∀ p ∈ rs A G, p < (k : Int) → nb (cd A p) = nb (cd A i) → p = i ∨ L A true id i p < 0)) (fun z => A.length - z.2.toNat)
    (fun r => ∃ b : Bool, (b = true ↔ isW A (rs A G) i) ∧ r = (b, ())) (by
    rintro ⟨w, t⟩ ⟨k, h1, h2, h3⟩
    simp only at h1 h3
    subst h1
    show (∃ a', F17.r4P F12.f F31.f F17.l1 F17.l2 F17.l3 (A, G, i) (w, (k : Int)) = some (.inl a') ∧ _) ∨ ∃ b, F17.r4P F12.f F31.f F17.l1 F17.l2 F17.l3 (A, G, i) (w, (k : Int)) = some (.inr b) ∧ _
    unfold F17.r4P
    by_cases hk : k < A.length
    · left
      have hkG : k < G.length := by omega
      have c1 : decide ((k : Int) < (A.length : Int)) = true := decide_eq_true (by omega)
      -- is this place asked at all?
      have hl1 : ∃ s : Bool, F17.l1 (A, G, i, (k : Int)) () = some (s, ()) ∧ (s = false ↔ ((k : Int) ∈ rs A G ∧ nb (cd A (k : Int)) = nb (cd A i) ∧ (k : Int) ≠ i)) := by
        unfold F17.l1 F17.r1 F17.r1P
        by_cases hg : G.getD (0 + (k : Int).toNat) false = true
        · refine ⟨true, by simp only [(at_ok hkG).1, (at_ok hkG).2, cond_true, hg], by
            constructor
            · intro h; cases h
            · rintro ⟨h, _, _⟩; have := (rs_mem.1 h).2; unfold gn at this; rw [hg] at this; cases this⟩
        · have hg : G.getD (0 + (k : Int).toNat) false = false := by simpa using hg
          have hmem : (k : Int) ∈ rs A G := rs_mem.2 ⟨by omega, hg⟩
          by_cases hn : nb (cd A (k : Int)) = nb (cd A i)
          · have hn2 : ((A.getD (0 + (k : Int).toNat) (0, 0, 0, 0, 0, 0, 0, 0, 0)).2.2.2.2.1 != (A.getD (0 + i.toNat) (0, 0, 0, 0, 0, 0, 0, 0, 0)).2.2.2.2.1) = false := by rw [bne_eq_false_iff_eq]; exact hn
            refine ⟨(k : Int) == i, by simp only [(at_ok hkG).1, (at_ok hkG).2, cond_true, cond_false, hg, (at_ok hk).1, (at_ok hk).2, (in_ok hii).1, (in_ok hii).2, hn2], ?_⟩
            rw [beq_eq_false_iff_ne]
            exact ⟨fun h => ⟨hmem, hn, h⟩, fun h => h.2.2⟩
          · have hn2 : ((A.getD (0 + (k : Int).toNat) (0, 0, 0, 0, 0, 0, 0, 0, 0)).2.2.2.2.1 != (A.getD (0 + i.toNat) (0, 0, 0, 0, 0, 0, 0, 0, 0)).2.2.2.2.1) = true := by rw [bne_iff_ne]; exact hn
            refine ⟨true, by simp only [(at_ok hkG).1, (at_ok hkG).2, cond_true, cond_false, hg, (at_ok hk).1, (at_ok hk).2, (in_ok hii).1, (in_ok hii).2, hn2], ?_⟩
            exact ⟨fun h => (by cases h), fun h => absurd h.2.1 hn⟩
      obtain ⟨s, hs1, hs2⟩ := hl1
      have hw1 : IntKind.i64.wrap ((k : Int) + 1) = ((k + 1 : Nat) : Int) := by rw [wrap64_id (n := (k : Int) + 1) (by omega)]; rfl
      cases s with
      | true =>
        refine ⟨(w, ((k + 1 : Nat) : Int)), by simp only [c1, le_all, cond_true, Bool.and_true, List.take_length, hs1, Option.bind_some, hw1], ⟨k + 1, rfl, by omega, ?_⟩, by simp only [Int.toNat_natCast]; omega⟩
        simp only
        rw [h3]
        constructor
        · intro h p hp hlt hn
          by_cases hpk : p = (k : Int)
          · by_cases hpi : p = i
            · exact .inl hpi
            · exact absurd (hs2.2 ⟨by rw [← hpk]; exact hp, by rw [← hpk]; exact hn, by rw [← hpk]; exact hpi⟩) (by simp)
          · exact h p hp (by omega) hn
        · intro h p hp hlt hn; exact h p hp (by omega) hn
      | false =>
        obtain ⟨k1, k2, k3⟩ := hs2.1 rfl
        have hl2 : F17.l2 (A, i, (k : Int)) () = some ((cmp true (cd A (k : Int)) (cd A i)).1, ()) := by
          unfold F17.l2 F17.r2 F17.r2P
          simp only [(at_ok hk).1, (at_ok hk).2, (in_ok hii).1, (in_ok hii).2, cond_true]
          show (F12.f (cd A (k : Int), cd A i, true)).bind _ = _
          rw [compareR]
          rfl
        have hl3 : F17.l3 (i, (k : Int), (cmp true (cd A (k : Int)) (cd A i)).1) () = some (decide (L A true id (k : Int) i < 0), ()) := by
          unfold F17.l3 F17.r3 F17.r3P
          rw [L_eq (fun _ => k2)]
          by_cases hz : (cmp true (cd A (k : Int)) (cd A i)).1 = 0
          · rw [if_pos hz]
            simp only [hz, beq_self_eq_true, cond_true, show decide ((0 : Int) < 0) = false from rfl, cond_false]
            congr 2
            simp only [id]
            rw [Bool.eq_iff_iff]
            simp only [decide_eq_true_eq]
            exact c3_pos.symm
          · rw [if_neg hz]
            have hz2 : ((cmp true (cd A (k : Int)) (cd A i)).1 == 0) = false := beq_eq_false_iff_ne.2 hz
            by_cases hlt : (cmp true (cd A (k : Int)) (cd A i)).1 < 0
            · simp only [decide_eq_true hlt, cond_true]
            · simp only [decide_eq_false hlt, cond_false, hz2]
        have hbad := LT_bad (A := A) k2 k3
        by_cases hL : L A true id (k : Int) i < 0
        · refine ⟨(false, ((k + 1 : Nat) : Int)), by simp only [c1, le_all, cond_true, cond_false, Bool.and_true, List.take_length, hs1, hl2, hl3, decide_eq_true hL, Option.bind_some, hw1], ⟨k + 1, rfl, by omega, ?_⟩, by simp only [Int.toNat_natCast]; omega⟩
          simp only
          constructor
          · intro h; cases h
          · intro h
            rcases h (k : Int) k1 (by omega) k2 with g | g
            · exact absurd g k3
            · exact absurd hL (hbad.1 g)
        · refine ⟨(w, ((k + 1 : Nat) : Int)), by simp only [c1, le_all, cond_true, cond_false, Bool.and_true, List.take_length, hs1, hl2, hl3, decide_eq_false hL, Option.bind_some, hw1], ⟨k + 1, rfl, by omega, ?_⟩, by simp only [Int.toNat_natCast]; omega⟩
          simp only
          rw [h3]
          constructor
          · intro h p hp hlt hn
            by_cases hpk : p = (k : Int)
            · right; rw [hpk]; exact hbad.2 hL
            · exact h p hp (by omega) hn
          · intro h p hp hlt hn; exact h p hp (by omega) hn
    · right
      have c1 : decide ((k : Int) < (A.length : Int)) = false := decide_eq_false (by omega)
      refine ⟨(w, ()), by simp only [c1, cond_false], w, ?_, rfl⟩
      rw [h3]
      constructor
      · intro h; exact ⟨hi, fun p hp hn => h p hp (by have := (rs_mem.1 hp).1; omega) hn⟩
      · intro h p hp _ hn; exact h.2 p hp hn) (true, 0) ⟨0, rfl, by omega, by
        simp only [true_iff]
        intro p hp hlt
        have := (rs_mem.1 hp).1
        omega⟩
  exact ⟨b, e, hb⟩
include hA hG in
theorem bestR : F17.f (A, G) = some (amg A (rs A G), ()) := by
  have key : F17.l5 (A, G) (-1, 0) = some (amg A (rs A G), ()) := by
    obtain ⟨r, e, rfl⟩ := iterO_inv (f := F17.r5 (A, G)) (fun z => ∃ k : Nat, z.2 = (k : Int) ∧ k ≤ A.length ∧ ((z.1 = -1 ∧ ∀ w, isW A (rs A G) w → (k : Int) ≤ w) ∨ (isW A (rs A G) z.1 ∧ ∀ w, isW A (rs A G) w → w < (k : Int) → w = z.1 ∨ L A false (fo A (rs A G)) z.1 w < 0))) (fun z => A.length - z.2.toNat)
      (fun r => r = (amg A (rs A G), ())) (by
      rintro ⟨at0, t⟩ ⟨i, h1, h2, h3⟩
      simp only at h1 h3
      subst h1
      show (∃ a', F17.r5P F12.f F31.f F17.l4 (A, G) (at0, (i : Int)) = some (.inl a') ∧ _) ∨ ∃ b, F17.r5P F12.f F31.f F17.l4 (A, G) (at0, (i : Int)) = some (.inr b) ∧ _
      unfold F17.r5P
      by_cases hi : i < A.length
      · left
        have hiG : i < G.length := by omega
        have hii : 0 ≤ (i : Int) ∧ (i : Int) < (A.length : Int) := by omega
        have c1 : decide ((i : Int) < (A.length : Int)) = true := decide_eq_true (by omega)
        have hw1 : IntKind.i64.wrap ((i : Int) + 1) = ((i + 1 : Nat) : Int) := by rw [wrap64_id (n := (i : Int) + 1) (by omega)]; rfl
        have skip : (¬ isW A (rs A G) (i : Int)) → ((at0 = -1 ∧ ∀ w, isW A (rs A G) w → ((i + 1 : Nat) : Int) ≤ w) ∨ (isW A (rs A G) at0 ∧ ∀ w, isW A (rs A G) w → w < ((i + 1 : Nat) : Int) → w = at0 ∨ L A false (fo A (rs A G)) at0 w < 0)) := by
          intro hn
          rcases h3 with ⟨g1, g2⟩ | ⟨g1, g2⟩
          · refine .inl ⟨g1, fun w hw => ?_⟩
            have := g2 w hw
            by_cases e : w = (i : Int)
            · rw [e] at hw; exact absurd hw hn
            · omega
          · refine .inr ⟨g1, fun w hw hlt => ?_⟩
            by_cases e : w = (i : Int)
            · rw [e] at hw; exact absurd hw hn
            · exact g2 w hw (by omega)
        by_cases hg : G.getD (0 + (i : Int).toNat) false = true
        · refine ⟨(at0, ((i + 1 : Nat) : Int)), by simp only [c1, cond_true, (at_ok hiG).1, (at_ok hiG).2, hg, hw1], ⟨i + 1, rfl, by omega, skip ?_⟩, by simp only [Int.toNat_natCast]; omega⟩
          intro hw
          have := (rs_mem.1 hw.1).2
          unfold gn at this
          rw [hg] at this
          cases this
        · have hg : G.getD (0 + (i : Int).toNat) false = false := by simpa using hg
          have hmem : (i : Int) ∈ rs A G := rs_mem.2 ⟨hii, hg⟩
          obtain ⟨b, hb1, hb2⟩ := winB hA hG hmem
          cases b with
          | false =>
            refine ⟨(at0, ((i + 1 : Nat) : Int)), by simp only [c1, cond_true, cond_false, (at_ok hiG).1, (at_ok hiG).2, hg, le_all, Bool.and_true, List.take_length, hb1, Option.bind_some, Bool.not_false, hw1], ⟨i + 1, rfl, by omega, skip ?_⟩, by simp only [Int.toNat_natCast]; omega⟩
            intro hw
            have := hb2.2 hw
            cases this
          | true =>
            have hwi := hb2.1 rfl
            rcases h3 with ⟨g1, g2⟩ | ⟨g1, g2⟩
            · subst g1
              refine ⟨((i : Int), ((i + 1 : Nat) : Int)), by simp only [c1, cond_true, cond_false, (at_ok hiG).1, (at_ok hiG).2, hg, le_all, Bool.and_true, List.take_length, hb1, Option.bind_some, Bool.not_true, hw1, show decide ((-1 : Int) < 0) = true from rfl], ⟨i + 1, rfl, by omega, .inr ⟨hwi, fun w hw hlt => ?_⟩⟩, by simp only [Int.toNat_natCast]; omega⟩
              have := g2 w hw
              exact .inl (show w = (i : Int) by omega)
            · have hat := (rs_mem.1 g1.1).1
              have c2 : decide (at0 < 0) = false := decide_eq_false (by omega)
              have hcmp : (F12.f (cd A (i : Int), cd A at0, false)) = some (cmp false (cd A (i : Int)) (cd A at0), ()) := compareR _ _ _
              have hfi := first hA hG hmem
              have hfa := first hA hG g1.1
              have hnew : ∃ x, (x = if L A false (fo A (rs A G)) (i : Int) at0 < 0 then (i : Int) else at0) ∧ F17.r5P F12.f F31.f F17.l4 (A, G) (at0, (i : Int)) = some (.inl (x, ((i + 1 : Nat) : Int))) := by
                refine ⟨_, rfl, ?_⟩
                unfold F17.r5P
                simp only [c1, cond_true, cond_false, (at_ok hiG).1, (at_ok hiG).2, hg, le_all, Bool.and_true, List.take_length, hb1, Option.bind_some, Bool.not_true, hw1, c2, (at_ok hi).1, (at_ok hi).2, (in_ok hat).1, (in_ok hat).2]
                show (F12.f (cd A (i : Int), cd A at0, false)).bind _ = _
                rw [hcmp]
                simp only [Option.bind_some, hfi, hfa]
                rw [L_eq (fun h => by cases h)]
                by_cases hz : (cmp false (cd A (i : Int)) (cd A at0)).1 = 0
                · rw [if_pos hz]
                  simp only [hz, beq_self_eq_true, cond_true, show decide ((0 : Int) < 0) = false from rfl, cond_false]
                  by_cases hfo : fo A (rs A G) (i : Int) < fo A (rs A G) at0
                  · simp only [decide_eq_true hfo, cond_true, if_pos (c3_pos.2 hfo)]
                  · simp only [decide_eq_false hfo, cond_false, if_neg (fun h => hfo (c3_pos.1 h))]
                · rw [if_neg hz]
                  have hz2 : ((cmp false (cd A (i : Int)) (cd A at0)).1 == 0) = false := beq_eq_false_iff_ne.2 hz
                  by_cases hlt : (cmp false (cd A (i : Int)) (cd A at0)).1 < 0
                  · simp only [decide_eq_true hlt, cond_true, if_pos hlt]
                  · simp only [decide_eq_false hlt, cond_false, hz2, if_neg hlt]
              obtain ⟨x, hx, hstep⟩ := hnew
              unfold F17.r5P at hstep
              refine ⟨(x, ((i + 1 : Nat) : Int)), hstep, ⟨i + 1, rfl, by omega, .inr ?_⟩, by simp only [Int.toNat_natCast]; omega⟩
              by_cases hL : L A false (fo A (rs A G)) (i : Int) at0 < 0
              · rw [if_pos hL] at hx
                subst hx
                refine ⟨hwi, fun w hw hlt => ?_⟩
                by_cases e : w = (i : Int)
                · exact .inl e
                · rcases g2 w hw (by omega) with h | h
                  · right; rw [h]; exact hL
                  · exact .inr (L_trans hL h)
              · rw [if_neg hL] at hx
                show isW A (rs A G) x ∧ ∀ w, isW A (rs A G) w → w < ((i + 1 : Nat) : Int) → w = x ∨ L A false (fo A (rs A G)) x w < 0
                rw [hx]
                refine ⟨g1, fun w hw hlt => ?_⟩
                by_cases e : w = (i : Int)
                · by_cases e2 : at0 = (i : Int)
                  · exact .inl (show w = at0 by rw [e, e2])
                  · right
                    subst e
                    rw [L_neg A false (fo A (rs A G)) (i : Int) at0]
                    have h0 : L A false (fo A (rs A G)) (i : Int) at0 ≠ 0 := by
                      rw [L_eq (fun h => by cases h)]
                      split
                      · intro e0
                        have hff := c3_0 e0
                        have m1 := fo_min (A := A) (rs_asc A G) hmem
                        have m2 := fo_min (A := A) (rs_asc A G) g1.1
                        rw [hff] at m1
                        exact e2 (win_one g1 hwi (by rw [← m1.2.1, ← m2.2.1]))
                      · assumption
                    omega
                · exact g2 w hw (by omega)
      · right
        have c1 : decide ((i : Int) < (A.length : Int)) = false := decide_eq_false (by omega)
        refine ⟨(at0, ()), by simp only [c1, cond_false], ?_⟩
        by_cases hne : rs A G = []
        · rcases h3 with ⟨g1, _⟩ | ⟨g1, _⟩
          · rw [hne, g1]; rfl
          · have := g1.1; rw [hne] at this; simp at this
        · have hb := amg_best (rs_ok A G) (rs_asc A G) hne
          rcases h3 with ⟨g1, g2⟩ | ⟨g1, g2⟩
          · have := g2 _ hb.1
            have := (rs_mem.1 hb.1.1).1
            omega
          · rw [best_one (p := at0) ⟨g1, fun w hw => g2 w hw (by have := (rs_mem.1 hw.1).1; omega)⟩ hb]) (-1, 0) ⟨0, rfl, by omega, .inl ⟨rfl, fun w hw => by have := (rs_mem.1 hw.1).1; omega⟩⟩
    exact e
  unfold F17.f F17.fP
  simp only [le_all, cond_true, Bool.and_true, List.take_length, key, Option.bind_some]
end
/-! ### Ranks -/
theorem rs_set {A : List Cand} {G : List Bool} (hG : G.length = A.length) {k : Int} (hk : k ∈ rs A G) : rs A (G.set (0 + k.toNat) true) = (rs A G).filter (nx k) := by
  have hkk := (rs_mem.1 hk).1
  unfold rs
  rw [List.filter_filter]
  refine List.filter_congr fun p hp => ?_
  have hpp := pls_mem.1 hp
  unfold gn
  by_cases h : p = k
  · subst h
    rw [nx_self, List.getD_eq_getElem?_getD, List.getElem?_set_self (by omega)]
    rfl
  · rw [nx_ne h, List.getD_eq_getElem?_getD, List.getElem?_set_ne (by omega), ← List.getD_eq_getElem?_getD]
    simp
theorem rankedR {A : List Cand} (hA : A.length ≤ 1000000) : F18.f A = some (rnk A (pls A.length), ()) := by
  have hpl : (pls A.length).length = A.length := by simp [pls]
  have hrep : rs A (List.replicate A.length false) = pls A.length := by
    unfold rs
    rw [List.filter_eq_self]
    intro p hp
    have := pls_mem.1 hp
    unfold gn
    rw [List.getD_eq_getElem?_getD, List.getElem?_replicate]
    split <;> rfl
  have key : ∀ (n : Nat) (out : List Int) (G : List Bool), (rs A G).length ≤ n → G.length = A.length → out.length + (rs A G).length = A.length → F18.l1 A (out, G) = some (out ++ rnk A (rs A G), ()) := by
    intro n
    induction n with
    | zero =>
      intro out G hn hG hl
      have he : rs A G = [] := List.eq_nil_of_length_eq_zero (by omega)
      rw [he, rnk_nil, List.append_nil]
      refine iterO_done (f := F18.r1 A) ?_
      show F18.r1P F17.f A (out, G) = _
      unfold F18.r1P
      have c1 : decide ((out.length : Int) < (A.length : Int)) = false := decide_eq_false (by rw [he] at hl; simp at hl; omega)
      simp only [c1, cond_false, cond_true, le_all, Bool.and_true, List.take_length]
    | succ n ih =>
      intro out G hn hG hl
      by_cases he : rs A G = []
      · exact ih out G (by rw [he]; simp) hG hl
      · have hpos : 0 < (rs A G).length := by
          cases h : rs A G with
          | nil => exact absurd h he
          | cons _ _ => simp
        have hlt := rest_lt A he
        have hm := amg_mem (A := A) he
        have hmm := (rs_mem.1 hm).1
        have hset := rs_set hG hm
        have hfl : (rs A G).length = ((rs A G).filter (nx (amg A (rs A G)))).length + 1 := by
          have h1 := List.perm_cons_erase hm
          have hnd : (rs A G).Nodup := List.Pairwise.imp (fun h => by omega) (rs_asc A G)
          rw [hnd.erase_eq_filter] at h1
          have e : (rs A G).filter (nx (amg A (rs A G))) = (rs A G).filter fun x => x != amg A (rs A G) := by
            refine List.filter_congr fun p _ => ?_
            by_cases h : p = amg A (rs A G)
            · rw [h, nx_self]; simp
            · rw [nx_ne h]; simpa using h
          rw [← e] at h1
          simpa using h1.length_eq
        have hstep : F18.r1 A (out, G) = some (.inl (out ++ [amg A (rs A G)], G.set (0 + (amg A (rs A G)).toNat) true)) := by
          show F18.r1P F17.f A (out, G) = _
          unfold F18.r1P
          have c1 : decide ((out.length : Int) < (A.length : Int)) = true := decide_eq_true (by omega)
          have ha := app_ok (l := out) (x := amg A (rs A G)) (by omega)
          have c2 : decide (0 ≤ amg A (rs A G) ∧ amg A (rs A G) < (G.length : Int) ∧ 0 < G.length) = true := decide_eq_true (by omega)
          have c3 : decide (0 + (amg A (rs A G)).toNat < G.length) = true := decide_eq_true (by omega)
          have c4 : decide (0 + G.length ≤ (G.set (0 + (amg A (rs A G)).toNat) true).length) = true := decide_eq_true (by simp)
          have e4 : List.take G.length (List.drop 0 (G.set (0 + (amg A (rs A G)).toNat) true)) = G.set (0 + (amg A (rs A G)).toNat) true := by rw [List.drop_zero, List.take_of_length_le (by simp)]
          simp only [c1, le_all, cond_true, Bool.and_true, List.take_length, bestR hA hG, Option.bind_some, show (1 : Nat) / OfNat.ofNat (1 : Nat) = 1 from rfl, ha.1, ha.2.1, ha.2.2, c2, c3, c4, e4]
        show iterO (F18.r1 A) (out, G) = _
        rw [iterO_step hstep]
        have := ih (out ++ [amg A (rs A G)]) (G.set (0 + (amg A (rs A G)).toNat) true) (by rw [hset]; omega) (by simp [hG]) (by rw [hset, List.length_append]; simp only [List.length_singleton]; omega)
        rw [hset, List.append_assoc] at this
        rw [rnk_cons A he]
        exact this
  unfold F18.f F18.fP
  have e1 : (A.length : Int).toNat = A.length := by omega
  have c1 : decide ((0 : Int) ≤ (A.length : Int) ∧ (A.length : Int) ≤ (A.length : Int) ∧ (A.length : Int) ≤ 1073741824 ∧ (↑(OfNat.ofNat (1 : Nat)) : Int) * (A.length : Int) ≤ 281474976710656) = true := decide_eq_true (by
    have : (↑(OfNat.ofNat (1 : Nat)) : Int) = 1 := rfl
    rw [this]; omega)
  have c2 : decide (0 + A.length ≤ (List.replicate A.length false).length) = true := decide_eq_true (by simp)
  have e2 : List.take A.length (List.drop 0 (List.replicate A.length false)) = List.replicate A.length false := by rw [List.drop_zero, List.take_of_length_le (by simp)]
  have hk := key _ [] (List.replicate A.length false) (Nat.le_refl _) (by simp) (by rw [hrep, hpl]; simp)
  rw [hrep, List.nil_append] at hk
  simp only [c1, e1, c2, e2, hk, cond_true, Bool.and_true, le_all, List.take_length, Option.bind_some, take_all]
end Go.Proofs.YtaniibilgdhdiaaDoor.PG

/- Chapter 21: ChooseTells: the document's calls and the program's answer alike. -/
namespace Go.Proofs.YtaniibilgdhdiaaDoor.PH
open Go Go.Proofs Go.Proofs.YtaniibilgdhdiaaDoor.PA Go.Proofs.YtaniibilgdhdiaaDoor.PO Go.Proofs.YtaniibilgdhdiaaDoor.PCB Go.Proofs.YtaniibilgdhdiaaDoor.PDB Go.Proofs.YtaniibilgdhdiaaDoor.PG Go.Proofs.YtaniibilgdhdiaaDoor.Sx
set_option linter.unusedSimpArgs false
set_option linter.unusedVariables false
/-- The origin's class is a byte. -/
def U8 (c : Cand) : Prop := 0 ≤ c.2.2.1 ∧ c.2.2.1 ≤ 255
theorem ofR {c : Cand} (h : U8 c) : F13.f c = some (c, ()) := by
  obtain ⟨c0, c1, c2, c3, c4, c5, c6, c7, c8⟩ := c
  unfold U8 at h
  show F13.fP _ = _
  unfold F13.fP
  simp only at h ⊢
  rw [wrap64_id (n := c2) (by omega)]
theorem whyR (y : Int) : ∃ s, F8.f y = some (s, ()) ∧ F14.f y = some (s, ()) := by
  by_cases h0 : y < 0
  · refine ⟨ByteArray.mk (Array.mk []), ?_, ?_⟩
    · show F8.fP y = _
      unfold F8.fP
      rw [decide_eq_true (show y < 1 by omega), cond_true]
    · show F14.fP y = _
      unfold F14.fP
      rw [decide_eq_true h0, cond_true]
  by_cases h8 : y > 8
  · refine ⟨ByteArray.mk (Array.mk []), ?_, ?_⟩
    · show F8.fP y = _
      unfold F8.fP
      rw [decide_eq_false (show ¬ y < 1 by omega), cond_false, decide_eq_true h8, cond_true]
    · show F14.fP y = _
      unfold F14.fP
      rw [decide_eq_false h0, cond_false, decide_eq_true h8, cond_true]
  have : y = 0 ∨ y = 1 ∨ y = 2 ∨ y = 3 ∨ y = 4 ∨ y = 5 ∨ y = 6 ∨ y = 7 ∨ y = 8 := by omega
  rcases this with h | h | h | h | h | h | h | h | h <;> subst h <;> exact ⟨_, rfl, rfl⟩
theorem eqs (c : Cand) : (c.1 == c.1 && (c.2.1 == c.2.1 && (c.2.2.1 == c.2.2.1 && (c.2.2.2.1 == c.2.2.2.1 && (c.2.2.2.2.1 == c.2.2.2.2.1 && (c.2.2.2.2.2.1 == c.2.2.2.2.2.1 && (c.2.2.2.2.2.2.1 == c.2.2.2.2.2.2.1 && (c.2.2.2.2.2.2.2.1 == c.2.2.2.2.2.2.2.1 && (c.2.2.2.2.2.2.2.2 == c.2.2.2.2.2.2.2.2 && true))))))))) = true := by simp
theorem same {x : List Int} (hx : x.length ≤ 1000000) : F11.f (x, x) = some (true, ()) := by
  have key : F11.l1 (x, x, (x.length : Int)) (OfNat.ofNat 0) = some ((0, false), ()) := by
    refine loopN (S := fun i => (i : Int)) x.length (fun i hi => ?_) ?_
    · show F11.r1P _ (i : Int) = _
      unfold F11.r1P
      have c1 : decide ((i : Int) < (x.length : Int)) = true := decide_eq_true (by omega)
      simp only [c1, cond_true, (at_ok hi).1, (at_ok hi).2, bne_self_eq_false, cond_false]
      rw [wrap64_id (n := (i : Int) + 1) (by omega)]
      rfl
    · show F11.r1P _ (x.length : Int) = _
      unfold F11.r1P
      have c1 : decide ((x.length : Int) < (x.length : Int)) = false := decide_eq_false (by omega)
      simp only [c1, cond_false]
  unfold F11.f F11.fP
  simp only [bne_self_eq_false, cond_false, le_all, cond_true, Bool.and_true, List.take_length, key, Option.bind_some]
  rfl
theorem same9 {x : List Cand} (hx : x.length ≤ 1000000) : F19.f (x, x) = some (true, ()) := by
  have key : F19.l1 (x, x, (x.length : Int)) (OfNat.ofNat 0) = some ((0, false), ()) := by
    refine loopN (S := fun i => (i : Int)) x.length (fun i hi => ?_) ?_
    · show F19.r1P _ (i : Int) = _
      unfold F19.r1P
      have c1 : decide ((i : Int) < (x.length : Int)) = true := decide_eq_true (by omega)
      simp only [c1, cond_true, (at_ok hi).1, (at_ok hi).2, eqs, Bool.not_true, cond_false]
      rw [wrap64_id (n := (i : Int) + 1) (by omega)]
      rfl
    · show F19.r1P _ (x.length : Int) = _
      unfold F19.r1P
      have c1 : decide ((x.length : Int) < (x.length : Int)) = false := decide_eq_false (by omega)
      simp only [c1, cond_false]
  unfold F19.f F19.fP
  simp only [bne_self_eq_false, cond_false, le_all, cond_true, Bool.and_true, List.take_length, key, Option.bind_some]
  rfl
theorem clone {A : List Cand} (hA : A.length ≤ 1000000) : F15.f A = some (A, ()) := by
  unfold F15.f
  by_cases h0 : 0 < A.length
  · rw [if_pos h0]
    unfold F15.fP
    have c1 : decide (0 < A.length) = true := decide_eq_true h0
    have c2 : decide (0 + A.length ≤ 1073741824) = true := decide_eq_true (by omega)
    have c3 : decide (A.length ≤ 1073741824) = true := decide_eq_true (by omega)
    simp only [c1, cond_true, le_all, List.take_length, c2, c3, Nat.zero_add, List.nil_append, decide_true, Bool.and_true, Nat.le_refl, List.drop_zero]
  · rw [if_neg h0]
    have : A = [] := List.eq_nil_of_length_eq_zero (by omega)
    rw [this]
theorem n1 (a b : Cand) (med : Bool) : F5.l1 (a, b, med) () = some (cmp med a b, ()) := by
  unfold F5.l1 F5.r1 F5.r1P
  show (F7.f (a, b, med)).bind _ = _
  rw [compare]
  rfl
theorem n2 {a b : Cand} (ha : U8 a) (hb : U8 b) (med : Bool) : F5.l2 (a, b, med) () = some (cmp med a b, ()) := by
  unfold F5.l2 F5.r2 F5.r2P
  show (F13.f a).bind _ = _
  rw [ofR ha, Option.bind_some]
  show (F13.f b).bind _ = _
  rw [ofR hb, Option.bind_some]
  show (F12.f (a, b, med)).bind _ = _
  rw [compareR]
  rfl
theorem n3 (x y : Int) : F5.l3 (x, y, x, y) () = some (false, ()) := by
  obtain ⟨s, h1, h2⟩ := whyR y
  unfold F5.l3 F5.r3 F5.r3P
  simp only [bne_self_eq_false, cond_false, h1, h2, Option.bind_some, beq_self_eq_true, Bool.not_true]
theorem n4 {c : Cand} {w : List Cand} (hc : U8 c) (hw : w.length ≤ 1000000) : F5.l4 c w = some (w ++ [c], ()) := by
  unfold F5.l4 F5.r4 F5.r4P
  show (F13.f c).bind _ = _
  rw [ofR hc, Option.bind_some]
  have e9 : w.length + 9 / OfNat.ofNat 9 = w.length + 1 := rfl
  have c1 : decide (w.length + 1 ≤ 1073741824) = true := decide_eq_true (by omega)
  simp only [e9, c1, cond_true, le_all, List.take_length]
  show (bif decide (0 + (w.length + 1) ≤ (w ++ [c]).length) && true then some (List.take (w.length + 1) (List.drop 0 (w ++ [c])), ()) else none) = _
  rw [(app_ok hw).2.1, (app_ok hw).2.2]
  rfl
theorem n5 {L : List Cand} (hL : L.length ≤ 1000000) (hu : ∀ c ∈ L, U8 c) : F5.l5 (L, (L.length : Int)) ([], 0) = some (L, ()) := by
  refine loopN (S := fun k => (L.take k, (k : Int))) L.length (fun k hk => ?_) ?_
  · show F5.r5P F7.f F13.f F12.f F8.f F14.f F15.f F16.f F17.f F10.f F18.f F11.f F19.f F5.l4 (L, (L.length : Int)) (L.take k, (k : Int)) = _
    unfold F5.r5P
    have c1 : decide ((k : Int) < (L.length : Int)) = true := decide_eq_true (by omega)
    have e : L.getD (0 + (k : Int).toNat) z0 = L[k] := by
      rw [show 0 + (k : Int).toNat = k by omega, List.getD_eq_getElem?_getD, List.getElem?_eq_getElem hk]
      rfl
    have e' := e
    simp only [z0] at e'
    have h4 := n4 (c := L[k]) (w := L.take k) (hu _ (List.getElem_mem hk)) (by rw [List.length_take]; omega)
    simp only [c1, cond_true, (at_ok hk).1, (at_ok hk).2, le_all, Bool.and_true, e', List.take_length]
    have h4' : F5.l4 (L[k].1, L[k].2.1, L[k].2.2.1, L[k].2.2.2.1, L[k].2.2.2.2.1, L[k].2.2.2.2.2.1, L[k].2.2.2.2.2.2.1, L[k].2.2.2.2.2.2.2.1, L[k].2.2.2.2.2.2.2.2) (L.take k) = some (L.take k ++ [L[k]], ()) := h4
    rw [h4', Option.bind_some]
    simp only [le_all, cond_true, take_all]
    rw [wrap64_id (n := (k : Int) + 1) (by omega), List.take_append_getElem hk]
    rfl
  · show F5.r5P F7.f F13.f F12.f F8.f F14.f F15.f F16.f F17.f F10.f F18.f F11.f F19.f F5.l4 (L, (L.length : Int)) (L.take L.length, (L.length : Int)) = _
    unfold F5.r5P
    have c1 : decide ((L.length : Int) < (L.length : Int)) = false := decide_eq_false (by omega)
    simp only [c1, cond_false, le_all, cond_true, Bool.and_true, List.take_length]
theorem rnk_len (A : List Cand) : ∀ (n : Nat) (rest : List Int), (rnkN A n rest).length ≤ n
  | 0, _ => by simp [rnkN]
  | n + 1, rest => by
    unfold rnkN
    split
    · simp
    · have := rnk_len A n
      simp only [List.length_cons]
      exact Nat.succ_le_succ (this _)
theorem n6 {L : List Cand} (hL : L.length ≤ 1000000) (a : Cand) : F5.l6 (L, a) (L, L) = some (true, ()) := by
  obtain ⟨s, h1, h2⟩ := whyR a.2.1
  have hrep : rs L (List.replicate L.length false) = pls L.length := by
    unfold rs
    rw [List.filter_eq_self]
    intro p hp
    have := pls_mem.1 hp
    unfold gn
    rw [List.getD_eq_getElem?_getD, List.getElem?_replicate]
    split <;> rfl
  have e1 : (L.length : Int).toNat = L.length := by omega
  have c1 : decide ((0 : Int) ≤ (L.length : Int) ∧ (L.length : Int) ≤ (L.length : Int) ∧ (L.length : Int) ≤ 1073741824 ∧ (↑(OfNat.ofNat (1 : Nat)) : Int) * (L.length : Int) ≤ 281474976710656) = true := decide_eq_true (by
    have : (↑(OfNat.ofNat (1 : Nat)) : Int) = 1 := rfl
    rw [this]; omega)
  have c2 : decide (0 + L.length ≤ (List.replicate L.length false).length) = true := decide_eq_true (by simp)
  have e3 : List.take L.length (List.drop 0 (List.replicate L.length false)) = List.replicate L.length false := by
    rw [List.drop_zero, List.take_of_length_le (by simp)]
  have hb := bestR (A := L) (G := List.replicate L.length false) hL (by simp)
  rw [hrep] at hb
  have hrl : (rnk L (pls L.length)).length ≤ 1000000 := by
    have h := rnk_len L (pls L.length).length (pls L.length)
    have h2 : (pls L.length).length = L.length := by simp [pls]
    unfold rnk
    omega
  obtain ⟨a0, a1, a2, a3, a4, a5, a6, a7, a8⟩ := a
  unfold F5.l6 F5.r6 F5.r6P
  simp only at h1 h2
  simp only [le_all, cond_true, Bool.and_true, List.take_length, bestF hL, Option.bind_some, c1, e1, c2, e3, hb, beq_self_eq_true, ranked hL, rankedR hL, take_all, same hrl, same9 hL, h1, h2]
theorem law {a b : Cand} {l : List Cand} (ha : U8 a) (hb : U8 b) (hl : ∀ c ∈ l, U8 c) : F5.f (a, b, l) = some (true, ()) := by
  have h0 : ∀ med, F5.l3 ((cmp med a b).1, (cmp med a b).2, (cmp med a b).1, (cmp med a b).2) () = some (false, ()) := fun med => n3 _ _
  have he : ∃ k : Nat, (if 12 < (l.length : Int) then (12 : Int) else (l.length : Int)) = (k : Int) ∧ k ≤ l.length ∧ k ≤ 12 := by
    by_cases h : 12 < (l.length : Int)
    · exact ⟨12, by rw [if_pos h]; rfl, by omega, by omega⟩
    · exact ⟨l.length, by rw [if_neg h], by omega, by omega⟩
  obtain ⟨k, hk, hkl, hk12⟩ := he
  have c1 : decide ((0 : Int) ≤ (k : Int) ∧ (k : Int) ≤ (l.length : Int) ∧ 0 + l.length ≤ l.length) = true := decide_eq_true (by omega)
  have c2 : decide (0 + k ≤ l.length) = true := decide_eq_true (by omega)
  have hL : (l.take k).length = k := by rw [List.length_take]; omega
  have hL2 : (l.take k).length ≤ 1000000 := by omega
  have hlk : ∀ c ∈ l.take k, U8 c := fun c hc => hl c (List.mem_of_mem_take hc)
  have h5 := n5 hL2 hlk
  rw [hL] at h5
  have h6 := n6 hL2 a
  obtain ⟨a0, a1, a2, a3, a4, a5, a6, a7, a8⟩ := a
  obtain ⟨b0, b1, b2, b3, b4, b5, b6, b7, b8⟩ := b
  unfold F5.f F5.fP
  simp only [n1, n2 ha hb, Option.bind_some, h0, cond_false, Option.getD_some, hk, c1, c2, Int.toNat_natCast, Bool.and_true, cond_true, clone hL2, h5, le_all, List.take_length, take_all, h6]
theorem tells (d : Den F5.i) (hd : wfD F5.i d) : ∃ q, F5.f d = some (true, q) := by
  obtain ⟨a, b, l⟩ := d
  exact ⟨(), law hd.1.2.2.1 hd.2.1.2.2.1 (fun c hc => (hd.2.2.1.2 c hc).2.2.1)⟩
end Go.Proofs.YtaniibilgdhdiaaDoor.PH
