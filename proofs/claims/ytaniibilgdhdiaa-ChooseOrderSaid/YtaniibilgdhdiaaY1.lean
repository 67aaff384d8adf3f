/- Chapter 21: what Compare answers. -/
import Derived.Test.YtaniibilgdhdiaaX1
import Derived.Test.YtaniibilgdhdiaaZP
import Derived.Test.YtaniibilgdhdiaaZK
namespace Go.Proofs.Ytaniibilgdhdiaa.PA
open Go Go.Proofs Go.Proofs.Ytaniibilgdhdiaa.Sx
set_option linter.unusedSimpArgs false
set_option linter.unusedVariables false
/-- One number ahead of another. -/
def c3 (x y : Int) : Int := if x < y then -1 else if y < x then 1 else 0
def cls (n : Int) : Int := if n = 0 then 0 else if n = 3 then 1 else if n = 2 then 2 else if n = 1 then 2 else 3
theorem c3_lt {x y : Int} (h : x < y) : c3 x y = -1 := if_pos h
theorem c3_gt {x y : Int} (h : y < x) : c3 x y = 1 := by unfold c3; rw [if_neg (by omega), if_pos h]
theorem c3_eq {x : Int} : c3 x x = 0 := by unfold c3; rw [if_neg (by omega), if_neg (by omega)]
theorem c3_0 {x y : Int} (h : c3 x y = 0) : x = y := by
  unfold c3 at h
  split at h
  · cases h
  · split at h
    · cases h
    · omega
theorem c3_neg (x y : Int) : c3 y x = - c3 x y := by
  unfold c3
  repeat' split
  all_goals first | rfl | omega
theorem cmp16 (x y : Int) : F16.f (x, y) = some (c3 x y, ()) := by
  show F16.fP _ = _
  unfold F16.fP c3
  have e1 : (x != x) = false := by simp
  have e2 : (y != y) = false := by simp
  simp only [e1, e2, cond_false]
  by_cases h : x < y
  · rw [decide_eq_true h, if_pos h]; rfl
  · rw [decide_eq_false h, if_neg h]
    by_cases h2 : y < x
    · rw [decide_eq_true (show x > y from h2), if_pos h2]; rfl
    · rw [decide_eq_false (show ¬ x > y from h2), if_neg h2]; rfl
theorem cmp17 (x y : Int) : F17.f (x, y) = some (c3 x y, ()) := cmp16 x y
theorem cmp18 (x y : Int) : F18.f (x, y) = some (c3 x y, ()) := cmp16 x y
theorem cmp20 (x y : Int) : F20.f (x, y) = some (c3 x y, ()) := cmp16 x y
theorem cmp21 (x y : Int) : F21.f (x, y) = some (c3 x y, ()) := cmp16 x y
theorem clsF (n : Int) : F19.f n = some (cls n, ()) := by
  show F19.fP _ = _
  unfold F19.fP cls
  by_cases h0 : n = 0
  · subst h0; rfl
  by_cases h3 : n = 3
  · subst h3; rfl
  by_cases h2 : n = 2
  · subst h2; rfl
  by_cases h1 : n = 1
  · subst h1; rfl
  rw [if_neg h0, if_neg h3, if_neg h2, if_neg h1, beq_eq_false_iff_ne.2 h0, beq_eq_false_iff_ne.2 h3, beq_eq_false_iff_ne.2 h2, beq_eq_false_iff_ne.2 h1]
  rfl
abbrev Cand := Int × Int × Int × Int × Int × Int × Int × Int × Int
/-- The first that differs. -/
def fst : List (Int × Int) → Int × Int
  | [] => (0, 0)
  | (o, k) :: l => if o = 0 then fst l else (o, k)
def parts (med : Bool) (a b : Cand) : List (Int × Int) :=
  [(c3 b.1 a.1, 1), (c3 a.2.1 b.2.1, 2), (c3 a.2.2.1 b.2.2.1, 3), (if med = true ∧ a.2.2.2.2.1 = b.2.2.2.2.1 then c3 a.2.2.2.1 b.2.2.2.1 else 0, 4),
   (c3 (cls a.2.2.2.2.2.1) (cls b.2.2.2.2.2.1), 5), (c3 a.2.2.2.2.2.2.1 b.2.2.2.2.2.2.1, 6), (c3 a.2.2.2.2.2.2.2.1 b.2.2.2.2.2.2.2.1, 7), (c3 a.2.2.2.2.2.2.2.2 b.2.2.2.2.2.2.2.2, 8)]
def cmp (med : Bool) (a b : Cand) : Int × Int := fst (parts med a b)
theorem bne0 (o : Int) {α : Type} (x y : α) : (bif o != 0 then x else y) = if o = 0 then y else x := by
  by_cases h : o = 0
  · subst h; rfl
  · rw [if_neg h, show (o != 0) = true from by simpa using h]; rfl
theorem ite_some (c : Prop) [Decidable c] (x y : Int × Int) : (if c then some (x, ()) else some (y, ())) = some (if c then x else y, ()) := by split <;> rfl
theorem compare (a b : Cand) (med : Bool) : F10.f (a, b, med) = some (cmp med a b, ()) := by
  obtain ⟨a0, a1, a2, a3, a4, a5, a6, a7, a8⟩ := a
  obtain ⟨b0, b1, b2, b3, b4, b5, b6, b7, b8⟩ := b
  show F10.fP _ _ _ _ _ _ _ = _
  unfold F10.fP
  simp only [cmp16, cmp17, cmp18, cmp20, cmp21, clsF, Option.bind_some, bne0]
  unfold cmp parts
  simp only [fst]
  cases med with
  | false => simp only [Bool.not_false, cond_true, Bool.false_eq_true, false_and, if_false, if_true, ite_some]
  | true =>
    simp only [Bool.not_true, cond_false]
    by_cases h4 : a4 = b4
    · subst h4
      have e : (a4 != a4) = false := by simp
      simp only [e, cond_false, true_and, if_true, ite_some]
    · have e : (a4 != b4) = true := by simpa using h4
      simp only [e, cond_true, true_and, if_neg h4, if_true, ite_some]
end Go.Proofs.Ytaniibilgdhdiaa.PA

/- Chapter 21: an order: better goes on from one to the next. -/
namespace Go.Proofs.Ytaniibilgdhdiaa.PO
open Go Go.Proofs Go.Proofs.Ytaniibilgdhdiaa.PA
set_option linter.unusedSimpArgs false
set_option linter.unusedVariables false
theorem c3_cases (x y : Int) : (x < y ∧ c3 x y = -1) ∨ (x = y ∧ c3 x y = 0) ∨ (y < x ∧ c3 x y = 1) := by
  unfold c3
  by_cases h : x < y
  · exact .inl ⟨h, if_pos h⟩
  · by_cases h2 : y < x
    · exact .inr (.inr ⟨h2, by rw [if_neg h, if_pos h2]⟩)
    · exact .inr (.inl ⟨by omega, by rw [if_neg h, if_neg h2]⟩)
def lex : List Int → List Int → Int
  | x :: a, y :: b => if c3 x y = 0 then lex a b else c3 x y
  | _, _ => 0
theorem lex_le : ∀ (a b c : List Int), a.length = b.length → b.length = c.length → lex a b ≤ 0 → lex b c ≤ 0 → lex a c ≤ 0
  | [], _, _, _, _, _, _ => by simp [lex]
  | x :: a, [], _, h, _, _, _ => by simp at h
  | x :: a, y :: b, [], _, h, _, _ => by simp at h
  | x :: a, y :: b, z :: c, h1, h2, h3, h4 => by
    simp only [lex] at h3 h4 ⊢
    have ih := lex_le a b c (by simpa using h1) (by simpa using h2)
    rcases c3_cases x y with ⟨g, e⟩ | ⟨g, e⟩ | ⟨g, e⟩ <;> rcases c3_cases y z with ⟨g', e'⟩ | ⟨g', e'⟩ | ⟨g', e'⟩ <;> rcases c3_cases x z with ⟨g'', e''⟩ | ⟨g'', e''⟩ | ⟨g'', e''⟩ <;> simp [e, e', e''] at h3 h4 ⊢ <;> first | omega | exact ih h3 h4
theorem lex_eq : ∀ (a b c : List Int), a.length = b.length → b.length = c.length → lex a b = 0 → lex b c = 0 → lex a c = 0
  | [], _, _, _, _, _, _ => by simp [lex]
  | x :: a, [], _, h, _, _, _ => by simp at h
  | x :: a, y :: b, [], _, h, _, _ => by simp at h
  | x :: a, y :: b, z :: c, h1, h2, h3, h4 => by
    simp only [lex] at h3 h4 ⊢
    have ih := lex_eq a b c (by simpa using h1) (by simpa using h2)
    rcases c3_cases x y with ⟨g, e⟩ | ⟨g, e⟩ | ⟨g, e⟩ <;> rcases c3_cases y z with ⟨g', e'⟩ | ⟨g', e'⟩ | ⟨g', e'⟩ <;> rcases c3_cases x z with ⟨g'', e''⟩ | ⟨g'', e''⟩ | ⟨g'', e''⟩ <;> simp [e, e', e''] at h3 h4 ⊢ <;> first | omega | exact ih h3 h4
/-- What is compared of a candidate. -/
def K (med : Bool) (a : Cand) : List Int := [-a.1, a.2.1, a.2.2.1, if med = true then a.2.2.2.1 else 0, cls a.2.2.2.2.2.1, a.2.2.2.2.2.2.1, a.2.2.2.2.2.2.2.1, a.2.2.2.2.2.2.2.2]
theorem c3_flip (x y : Int) : c3 (-x) (-y) = c3 y x := by
  unfold c3
  by_cases h : y < x
  · rw [if_pos h, if_pos (by omega)]
  · by_cases h2 : x < y
    · rw [if_neg (by omega), if_pos (by omega), if_neg h, if_pos h2]
    · rw [if_neg (by omega), if_neg (by omega), if_neg h, if_neg h2]
theorem cmp_lex (med : Bool) (a b : Cand) (h : med = true → a.2.2.2.2.1 = b.2.2.2.2.1) : (cmp med a b).1 = lex (K med a) (K med b) := by
  unfold cmp parts K
  simp only [fst, lex, c3_flip]
  cases med with
  | false => simp only [Bool.false_eq_true, false_and, if_false, c3_eq, if_true]; repeat' split
             all_goals rfl
  | true => simp only [true_and, h rfl, if_true]; repeat' split
            all_goals rfl
theorem fst_neg : ∀ (l : List (Int × Int)), fst (l.map fun x => (-x.1, x.2)) = (-(fst l).1, (fst l).2)
  | [] => rfl
  | (o, k) :: l => by
    simp only [List.map_cons, fst]
    by_cases h : o = 0
    · subst h; simp [fst_neg l]
    · have h' : ¬ -o = 0 := by omega
      simp [h, h']
theorem turned (med : Bool) (a b : Cand) : cmp med b a = (-(cmp med a b).1, (cmp med a b).2) := by
  have e : parts med b a = (parts med a b).map fun x => (-x.1, x.2) := by
    unfold parts
    simp only [List.map_cons, List.map_nil]
    rw [c3_neg b.1 a.1, c3_neg a.2.1 b.2.1, c3_neg a.2.2.1 b.2.2.1, c3_neg (cls a.2.2.2.2.2.1), c3_neg a.2.2.2.2.2.2.1, c3_neg a.2.2.2.2.2.2.2.1, c3_neg a.2.2.2.2.2.2.2.2]
    by_cases h : med = true ∧ a.2.2.2.2.1 = b.2.2.2.2.1
    · have h' : med = true ∧ b.2.2.2.2.1 = a.2.2.2.2.1 := ⟨h.1, h.2.symm⟩
      rw [if_pos h, if_pos h', c3_neg a.2.2.2.1]
    · have h' : ¬ (med = true ∧ b.2.2.2.2.1 = a.2.2.2.2.1) := fun g => h ⟨g.1, g.2.symm⟩
      rw [if_neg h, if_neg h']
      rfl
  unfold cmp
  rw [e, fst_neg]
theorem same (med : Bool) (a : Cand) : cmp med a a = (0, 0) := by
  unfold cmp parts
  simp only [fst, c3_eq, if_true, ite_self]
theorem zero : ∀ (l : List (Int × Int)), (∀ x ∈ l, 1 ≤ x.2 ∧ x.2 ≤ 8) → ((fst l).1 = 0 ↔ (fst l).2 = 0) ∧ 0 ≤ (fst l).2 ∧ (fst l).2 ≤ 8
  | [], _ => by simp [fst]
  | (o, k) :: l, h => by
    have h1 := h (o, k) (by simp)
    have ih := zero l (fun x hx => h x (by simp [hx]))
    simp only at h1
    simp only [fst]
    by_cases h0 : o = 0
    · rw [if_pos h0]; exact ih
    · rw [if_neg h0]; simp only; omega
theorem reason (med : Bool) (a b : Cand) : ((cmp med a b).1 = 0 ↔ (cmp med a b).2 = 0) ∧ 0 ≤ (cmp med a b).2 ∧ (cmp med a b).2 ≤ 8 := by
  refine zero _ (fun x hx => ?_)
  unfold parts at hx
  simp only [List.mem_cons, List.not_mem_nil, or_false] at hx
  rcases hx with rfl | rfl | rfl | rfl | rfl | rfl | rfl | rfl <;> simp
/-- What stands ahead of the reason is alike. -/
theorem ahead (med : Bool) (a b : Cand) : (1 < (cmp med a b).2 → a.1 = b.1) ∧ (2 < (cmp med a b).2 → a.2.1 = b.2.1) ∧ (3 < (cmp med a b).2 → a.2.2.1 = b.2.2.1) ∧
    (med = true → a.2.2.2.2.1 = b.2.2.2.2.1 → 4 < (cmp med a b).2 → a.2.2.2.1 = b.2.2.2.1) ∧ (6 < (cmp med a b).2 → a.2.2.2.2.2.2.1 = b.2.2.2.2.2.2.1) := by
  unfold cmp parts
  simp only [fst]
  by_cases h1 : c3 b.1 a.1 = 0
  case neg => simp only [h1, if_false]; exact ⟨fun g => by simp at g, fun g => by simp at g, fun g => by simp at g, fun _ _ g => by simp at g, fun g => by simp at g⟩
  by_cases h2 : c3 a.2.1 b.2.1 = 0
  case neg => simp only [h1, h2, if_true, if_false]; exact ⟨fun _ => (c3_0 h1).symm, fun g => by simp at g, fun g => by simp at g, fun _ _ g => by simp at g, fun g => by simp at g⟩
  by_cases h3 : c3 a.2.2.1 b.2.2.1 = 0
  case neg => simp only [h1, h2, h3, if_true, if_false]; exact ⟨fun _ => (c3_0 h1).symm, fun _ => c3_0 h2, fun g => by simp at g, fun _ _ g => by simp at g, fun g => by simp at g⟩
  by_cases h4 : (if med = true ∧ a.2.2.2.2.1 = b.2.2.2.2.1 then c3 a.2.2.2.1 b.2.2.2.1 else 0) = 0
  case neg => simp only [h1, h2, h3, h4, if_true, if_false]; refine ⟨fun _ => (c3_0 h1).symm, fun _ => c3_0 h2, fun _ => c3_0 h3, fun _ _ g => by simp at g, fun g => by simp at g⟩
  have m4 : med = true → a.2.2.2.2.1 = b.2.2.2.2.1 → a.2.2.2.1 = b.2.2.2.1 := fun g g' => c3_0 (by rw [if_pos ⟨g, g'⟩] at h4; exact h4)
  simp only [h1, h2, h3, h4, if_true]
  refine ⟨fun _ => (c3_0 h1).symm, fun _ => c3_0 h2, fun _ => c3_0 h3, fun g g' _ => m4 g g', fun g => ?_⟩
  by_cases h5 : c3 (cls a.2.2.2.2.2.1) (cls b.2.2.2.2.2.1) = 0
  case neg => rw [if_neg h5] at g; simp at g
  rw [if_pos h5] at g
  by_cases h6 : c3 a.2.2.2.2.2.2.1 b.2.2.2.2.2.2.1 = 0
  · exact c3_0 h6
  · rw [if_neg h6] at g; simp at g
end Go.Proofs.Ytaniibilgdhdiaa.PO

/- Chapter 21: the best one of some places, groups by neighbours, ranks: what the calls come to. -/
namespace Go.Proofs.Ytaniibilgdhdiaa.PC
open Go Go.Proofs Go.Proofs.Ytaniibilgdhdiaa.PA Go.Proofs.Ytaniibilgdhdiaa.PO Go.Proofs.Ytaniibilgdhdiaa.Sx
set_option linter.unusedSimpArgs false
set_option linter.unusedVariables false
theorem le_all (n : Nat) : decide (0 + n ≤ n) = true := decide_eq_true (by omega)
theorem take_all {α : Type} (l : List α) : List.take l.length (List.drop 0 l) = l := by simp
/-- A loop over places. -/
theorem loopN {α β : Type} {f : α → Option (α ⊕ β)} (S : Nat → α) (n : Nat) {r : β} (h1 : ∀ i, i < n → f (S i) = some (.inl (S (i + 1)))) (h2 : f (S n) = some (.inr r)) : iterO f (S 0) = some r := by
  have key : ∀ k i, i + k = n → iterO f (S i) = some r := by
    intro k
    induction k with
    | zero => intro i hi; rw [show i = n by omega]; exact iterO_done h2
    | succ k ih => intro i hi; rw [iterO_step (h1 i (by omega))]; exact ih (i + 1) (by omega)
  exact key n 0 (by omega)
abbrev z0 : Cand := (0, 0, 0, 0, 0, 0, 0, 0, 0)
def cd (A : List Cand) (k : Int) : Cand := A.getD (0 + k.toNat) z0
def nb (a : Cand) : Int := a.2.2.2.2.1
def Ok (A : List Cand) (ps : List Int) : Prop := ∀ k ∈ ps, 0 ≤ k ∧ k < (A.length : Int)
theorem Ok.sub {A : List Cand} {ps qs : List Int} (h : Ok A ps) (hs : ∀ k ∈ qs, k ∈ ps) : Ok A qs := fun k hk => h k (hs k hk)
theorem getI {ps : List Int} {i : Nat} (h : i < ps.length) : ps.getD (0 + (i : Int).toNat) 0 = ps[i] := by
  rw [show 0 + (i : Int).toNat = i by omega, List.getD_eq_getElem?_getD, List.getElem?_eq_getElem h]
  rfl
theorem in_ok {A : List Cand} {k : Int} (h : 0 ≤ k ∧ k < (A.length : Int)) : decide (0 ≤ k ∧ k < (A.length : Int) ∧ 0 < A.length) = true ∧ decide (0 + k.toNat < A.length) = true := ⟨decide_eq_true (by omega), decide_eq_true (by omega)⟩
theorem at_ok {α : Type} {ps : List α} {i : Nat} (h : i < ps.length) : decide ((0 : Int) ≤ (i : Int) ∧ (i : Int) < (ps.length : Int) ∧ 0 < ps.length) = true ∧ decide (0 + (i : Int).toNat < ps.length) = true := ⟨decide_eq_true (by omega), decide_eq_true (by omega)⟩
theorem app_ok {α : Type} {l : List α} {x : α} (h : l.length ≤ 1000000) : decide (l.length + 1 ≤ 1073741824) = true ∧ decide (0 + (l.length + 1) ≤ (l ++ [x]).length) = true ∧ List.take (l.length + 1) (List.drop 0 (l ++ [x])) = l ++ [x] := by
  refine ⟨decide_eq_true (by omega), decide_eq_true (by simp), ?_⟩
  rw [List.drop_zero, List.take_of_length_le (by simp)]

/-! ### The best one of some places -/
def bs (A : List Cand) (med : Bool) (x k : Int) : Int := if x < 0 then k else if (cmp med (cd A k) (cd A x)).1 < 0 then k else x
def bst (A : List Cand) (med : Bool) (x : Int) (ps : List Int) : Int := ps.foldl (bs A med) x
theorem bst_snoc (A : List Cand) (med : Bool) (x : Int) (ps : List Int) (k : Int) : bst A med x (ps ++ [k]) = bs A med (bst A med x ps) k := by simp [bst]
theorem bst_mem (A : List Cand) (med : Bool) : ∀ (ps : List Int) (x : Int), bst A med x ps = x ∨ bst A med x ps ∈ ps
  | [], x => .inl rfl
  | k :: ps, x => by
    show bst A med (bs A med x k) ps = x ∨ _
    have h1 : bs A med x k = x ∨ bs A med x k = k := by
      unfold bs
      split
      · exact .inr rfl
      · split
        · exact .inr rfl
        · exact .inl rfl
    rcases bst_mem A med ps (bs A med x k) with h | h
    · rcases h1 with h1 | h1
      · left; rw [h1] at h ⊢; exact h
      · right; show bst A med (bs A med x k) ps ∈ _; rw [h, h1]; simp
    · right; exact List.mem_cons_of_mem _ h
theorem take_snoc {α : Type} {l : List α} {i : Nat} (h : i < l.length) : l.take (i + 1) = l.take i ++ [l[i]] := by rw [List.take_succ_eq_append_getElem h]
theorem one24 {A : List Cand} {med : Bool} {x k : Int} (hk : 0 ≤ k ∧ k < (A.length : Int)) (hx : 0 ≤ x ∧ x < (A.length : Int)) : F24.l1 (A, med, x, k) () = some ((cmp med (cd A k) (cd A x)).1, ()) := by
  unfold F24.l1 F24.r1 F24.r1P
  simp only [(in_ok hk).1, (in_ok hk).2, (in_ok hx).1, (in_ok hx).2, cond_true]
  show (F10.f (cd A k, cd A x, med)).bind _ = _
  rw [compare]
  rfl
theorem best {A : List Cand} {med : Bool} {ps : List Int} (h : Ok A ps) (hl : ps.length ≤ 1000000) : F24.f (A, ps, med) = some (bst A med (-1) ps, ()) := by
  have key : F24.l2 (A, med, ps, (ps.length : Int)) (-1, 0) = some (bst A med (-1) ps, ()) := by
    refine loopN (S := fun i => (bst A med (-1) (ps.take i), (i : Int))) ps.length (fun i hi => ?_) ?_
    · have hp := h ps[i] (List.getElem_mem hi)
      show F24.r2P F10.f F24.l1 (A, med, ps, (ps.length : Int)) (bst A med (-1) (ps.take i), (i : Int)) = _
      unfold F24.r2P
      have hb : bst A med (-1) (ps.take (i + 1)) = bs A med (bst A med (-1) (ps.take i)) ps[i] := by rw [take_snoc hi, bst_snoc]
      have hm := bst_mem A med (ps.take i) (-1)
      rw [hb]
      generalize bst A med (-1) (ps.take i) = x at *
      have c1 : decide ((i : Int) < (ps.length : Int)) = true := decide_eq_true (by omega)
      simp only [c1, (at_ok hi).1, (at_ok hi).2, cond_true, getI hi, le_all, Bool.and_true, List.take_length]
      rw [wrap64_id (n := (i : Int) + 1) (by omega)]
      unfold bs
      by_cases hx : x < 0
      · rw [decide_eq_true hx, if_pos hx]; rfl
      · have hxo : 0 ≤ x ∧ x < (A.length : Int) := by
          rcases hm with hm | hm
          · omega
          · exact h x (List.mem_of_mem_take hm)
        rw [decide_eq_false hx, if_neg hx, cond_false, one24 hp hxo, Option.bind_some]
        by_cases hc : (cmp med (cd A ps[i]) (cd A x)).1 < 0
        · simp only [decide_eq_true hc, if_pos hc, cond_true]; rfl
        · simp only [decide_eq_false hc, if_neg hc, cond_false]; rfl
    · show F24.r2P F10.f F24.l1 (A, med, ps, (ps.length : Int)) (bst A med (-1) (ps.take ps.length), (ps.length : Int)) = _
      unfold F24.r2P
      have c1 : decide ((ps.length : Int) < (ps.length : Int)) = false := decide_eq_false (by omega)
      simp only [c1, cond_false, List.take_length]
  unfold F24.f F24.fP
  simp only [le_all, cond_true, Bool.and_true, List.take_length, key, Option.bind_some]

/-! ### Places -/
def pls (n : Nat) : List Int := (List.range n).map fun (i : Nat) => (i : Int)
theorem places {A : List Cand} (hA : A.length ≤ 1000000) : F15.f A = some (pls A.length, ()) := by
  have key : F15.l1 (A.length : Int) ([], 0) = some (pls A.length, ()) := by
    refine loopN (S := fun i => (pls i, (i : Int))) A.length (fun i hi => ?_) ?_
    · show F15.r1P (A.length : Int) (pls i, (i : Int)) = _
      unfold F15.r1P
      have hpl : (pls i).length = i := by simp [pls]
      have c1 : decide ((i : Int) < (A.length : Int)) = true := decide_eq_true (by omega)
      have ha := app_ok (l := pls i) (x := (i : Int)) (by omega)
      simp only [c1, List.take_length, ha.1, ha.2.1, ha.2.2, le_all, cond_true, Bool.and_true]
      rw [wrap64_id (n := (i : Int) + 1) (by omega), show pls i ++ [(i : Int)] = pls (i + 1) by simp [pls, List.range_succ]]
      rfl
    · show F15.r1P (A.length : Int) (pls A.length, (A.length : Int)) = _
      unfold F15.r1P
      have c1 : decide ((A.length : Int) < (A.length : Int)) = false := decide_eq_false (by omega)
      simp only [c1, cond_false, cond_true, le_all, Bool.and_true, List.take_length]
  show F15.fP F15.l1 A = _
  unfold F15.fP
  simp only [key, Option.bind_some, le_all, cond_true, Bool.and_true, take_all]
theorem pls_ok (A : List Cand) : Ok A (pls A.length) := by
  intro k hk
  simp only [pls, List.mem_map, List.mem_range] at hk
  obtain ⟨i, hi, rfl⟩ := hk
  omega

/-! ### Maps -/
theorem eqI_eq (a b : Int) : (keyB (Sh.sc (Ck.int IntKind.u32) Sh.nil)) a b = decide (a = b) := rfl
theorem hasK_cons {β : Type} (a : Int) (b : β) (l : List (Int × β)) (x : Int) : hasK (keyB (Sh.sc (Ck.int IntKind.u32) Sh.nil)) ((a, b) :: l) x = (decide (a = x) || hasK (keyB (Sh.sc (Ck.int IntKind.u32) Sh.nil)) l x) := rfl
theorem posK_cons {β : Type} (a : Int) (b : β) (l : List (Int × β)) (x : Int) : posK (keyB (Sh.sc (Ck.int IntKind.u32) Sh.nil)) ((a, b) :: l) x = if a = x then 0 else posK (keyB (Sh.sc (Ck.int IntKind.u32) Sh.nil)) l x + 1 := by
  unfold posK
  rw [List.findIdx_cons]
  simp only [eqI_eq]
  by_cases h : a = x <;> simp [h]
theorem getK_cons {β : Type} (a : Int) (b : β) (l : List (Int × β)) (x : Int) (d : β) : getK (keyB (Sh.sc (Ck.int IntKind.u32) Sh.nil)) ((a, b) :: l) x d = if a = x then b else getK (keyB (Sh.sc (Ck.int IntKind.u32) Sh.nil)) l x d := by
  unfold getK
  rw [posK_cons]
  by_cases h : a = x <;> simp [h]
theorem putK_cons {β : Type} (a : Int) (b : β) (l : List (Int × β)) (x : Int) (y : β) : putK (keyB (Sh.sc (Ck.int IntKind.u32) Sh.nil)) ((a, b) :: l) x y = if a = x then (x, y) :: l else (a, b) :: putK (keyB (Sh.sc (Ck.int IntKind.u32) Sh.nil)) l x y := by
  unfold putK
  rw [hasK_cons, posK_cons]
  by_cases h : a = x
  · simp [h]
  · simp only [h, decide_false, Bool.false_or, if_false]
    cases hasK (keyB (Sh.sc (Ck.int IntKind.u32) Sh.nil)) l x <;> simp
theorem getK_put {β : Type} (d y : β) (n m : Int) : ∀ (l : List (Int × β)), getK (keyB (Sh.sc (Ck.int IntKind.u32) Sh.nil)) (putK (keyB (Sh.sc (Ck.int IntKind.u32) Sh.nil)) l n y) m d = if n = m then y else getK (keyB (Sh.sc (Ck.int IntKind.u32) Sh.nil)) l m d
  | [] => by
    show getK (keyB (Sh.sc (Ck.int IntKind.u32) Sh.nil)) [(n, y)] m d = _
    rw [getK_cons]
  | (a, b) :: l => by
    rw [putK_cons]
    by_cases h : a = n
    · subst h
      rw [if_pos rfl, getK_cons, getK_cons]
      by_cases h2 : a = m <;> simp [h2]
    · rw [if_neg h, getK_cons, getK_cons, getK_put d y n m l]
      by_cases h2 : a = m
      · subst h2
        simp [show ¬ n = a from fun g => h g.symm]
      · simp [h2]
theorem set_put {β : Type} (d y : β) (n : Int) (z : Int × β) : ∀ (l : List (Int × β)), hasK (keyB (Sh.sc (Ck.int IntKind.u32) Sh.nil)) l n = true → l.set (posK (keyB (Sh.sc (Ck.int IntKind.u32) Sh.nil)) l n) ((l.getD (posK (keyB (Sh.sc (Ck.int IntKind.u32) Sh.nil)) l n) z).1, y) = putK (keyB (Sh.sc (Ck.int IntKind.u32) Sh.nil)) l n y
  | [], h => by simp [hasK] at h
  | (a, b) :: l, h => by
    rw [putK_cons, posK_cons]
    by_cases h2 : a = n
    · subst h2; simp
    · rw [if_neg h2, if_neg h2]
      rw [hasK_cons, decide_eq_false h2, Bool.false_or] at h
      have := set_put d y n z l h
      simp only [List.set_cons_succ, List.getD_cons_succ]
      rw [this]
theorem getK_no {β : Type} (d : β) (n : Int) : ∀ (l : List (Int × β)), hasK (keyB (Sh.sc (Ck.int IntKind.u32) Sh.nil)) l n = false → getK (keyB (Sh.sc (Ck.int IntKind.u32) Sh.nil)) l n d = d
  | [], _ => rfl
  | (a, b) :: l, h => by
    rw [hasK_cons, Bool.or_eq_false_iff] at h
    rw [getK_cons, if_neg (of_decide_eq_false h.1), getK_no d n l h.2]
/-! ### Groups -/
abbrev Gr := List (Int × List Int)
def nms (A : List Cand) (ps : List Int) : List Int := ps.foldl (fun ns k => if nb (cd A k) ∈ ns then ns else ns ++ [nb (cd A k)]) []
def grs (A : List Cand) (ps : List Int) : Gr := ps.foldl (fun g k => putK (keyB (Sh.sc (Ck.int IntKind.u32) Sh.nil)) g (nb (cd A k)) (getK (keyB (Sh.sc (Ck.int IntKind.u32) Sh.nil)) g (nb (cd A k)) [] ++ [k])) []
theorem nms_snoc (A : List Cand) (ps : List Int) (k : Int) : nms A (ps ++ [k]) = if nb (cd A k) ∈ nms A ps then nms A ps else nms A ps ++ [nb (cd A k)] := by
  unfold nms; rw [List.foldl_append]; rfl
theorem grs_snoc (A : List Cand) (ps : List Int) (k : Int) : grs A (ps ++ [k]) = putK (keyB (Sh.sc (Ck.int IntKind.u32) Sh.nil)) (grs A ps) (nb (cd A k)) (getK (keyB (Sh.sc (Ck.int IntKind.u32) Sh.nil)) (grs A ps) (nb (cd A k)) [] ++ [k]) := by
  unfold grs; rw [List.foldl_append]; rfl
def grp (A : List Cand) (ps : List Int) (n : Int) : List Int := ps.filter fun k => decide (nb (cd A k) = n)
theorem snoc_ind {α : Type} {P : List α → Prop} (h0 : P []) (h1 : ∀ l x, P l → P (l ++ [x])) : ∀ l, P l := by
  intro l
  have : ∀ n, P (l.take n) := by
    intro n
    induction n with
    | zero => simpa using h0
    | succ n ih =>
      by_cases hn : n < l.length
      · rw [take_snoc hn]; exact h1 _ _ ih
      · rw [List.take_of_length_le (by omega)]; rw [List.take_of_length_le (by omega)] at ih; exact ih
  have h := this l.length
  rwa [List.take_length] at h
theorem grs_get (A : List Cand) (ps : List Int) : ∀ n, getK (keyB (Sh.sc (Ck.int IntKind.u32) Sh.nil)) (grs A ps) n [] = grp A ps n := by
  refine snoc_ind (P := fun ps => ∀ n, getK (keyB (Sh.sc (Ck.int IntKind.u32) Sh.nil)) (grs A ps) n [] = grp A ps n) (fun n => rfl) (fun ps k ih n => ?_) ps
  rw [grs_snoc, getK_put, ih (nb (cd A k))]
  by_cases h : nb (cd A k) = n
  · rw [if_pos h, h]; simp [grp, List.filter_append, h]
  · rw [if_neg h, ih n]; simp [grp, List.filter_append, h]
theorem nms_mem (A : List Cand) (ps : List Int) : ∀ n, n ∈ nms A ps ↔ ∃ k ∈ ps, nb (cd A k) = n := by
  refine snoc_ind (P := fun ps => ∀ n, n ∈ nms A ps ↔ ∃ k ∈ ps, nb (cd A k) = n) (fun n => by simp [nms]) (fun ps k ih n => ?_) ps
  rw [nms_snoc]
  have e : (∃ j ∈ ps ++ [k], nb (cd A j) = n) ↔ (∃ j ∈ ps, nb (cd A j) = n) ∨ nb (cd A k) = n := by
    constructor
    · rintro ⟨j, hj, h⟩
      rcases List.mem_append.1 hj with hj | hj
      · exact .inl ⟨j, hj, h⟩
      · simp only [List.mem_singleton] at hj; subst hj; exact .inr h
    · rintro (⟨j, hj, h⟩ | h)
      · exact ⟨j, by simp [hj], h⟩
      · exact ⟨k, by simp, h⟩
  rw [e]
  split
  · rename_i h
    rw [ih]
    constructor
    · exact .inl
    · rintro (h2 | h2)
      · exact h2
      · rw [← h2]; exact (ih _).1 h
  · rw [List.mem_append, List.mem_singleton, ih]
    constructor
    · rintro (h2 | h2)
      · exact .inl h2
      · exact .inr h2.symm
    · rintro (h2 | h2)
      · exact .inl h2
      · exact .inr h2.symm
theorem nms_nodup (A : List Cand) (ps : List Int) : (nms A ps).Nodup := by
  refine snoc_ind (P := fun ps => (nms A ps).Nodup) List.nodup_nil (fun ps k ih => ?_) ps
  rw [nms_snoc]
  split
  · exact ih
  · rename_i h
    rw [List.nodup_append]
    refine ⟨ih, by simp, fun a ha b hb e => ?_⟩
    simp only [List.mem_singleton] at hb
    subst e; subst hb
    exact h ha
theorem nms_len (A : List Cand) (ps : List Int) : (nms A ps).length ≤ ps.length := by
  refine snoc_ind (P := fun ps => (nms A ps).length ≤ ps.length) (Nat.le_refl _) (fun ps k ih => ?_) ps
  rw [nms_snoc]
  split
  · simp; omega
  · simp; omega
theorem grp_nil (A : List Cand) (ps : List Int) (n : Int) : grp A ps n = [] ↔ n ∉ nms A ps := by
  rw [nms_mem]
  unfold grp
  rw [List.filter_eq_nil_iff]
  constructor
  · rintro h ⟨k, hk, e⟩; exact h k hk (by simpa using e)
  · intro h k hk e; exact h ⟨k, hk, by simpa using e⟩
def wins (A : List Cand) (ps : List Int) : List Int := (nms A ps).map fun n => bst A true (-1) (grp A ps n)
def amg (A : List Cand) (ps : List Int) : Int := bst A false (-1) (wins A ps)
section
variable {A : List Cand} {ps : List Int} (h : Ok A ps) (hl : ps.length ≤ 1000000)
theorem m1 {k : Int} (hk : 0 ≤ k ∧ k < (A.length : Int)) : F14.l1 (A, k) () = some (nb (cd A k), ()) := by
  unfold F14.l1 F14.r1 F14.r1P
  simp only [(in_ok hk).1, (in_ok hk).2, cond_true]
  rfl
theorem m2 (g : Gr) (n : Int) : F14.l2 (g, n) () = some (((getK (keyB (Sh.sc (Ck.int IntKind.u32) Sh.nil)) g n []).length : Int) == 0, ()) := by
  unfold F14.l2 F14.r2 F14.r2P
  cases hh : hasK (keyB (Sh.sc (Ck.int IntKind.u32) Sh.nil)) g n with
  | true => simp only [hh, cond_true]
  | false => rw [getK_no [] n g hh]; simp only [hh, cond_false]; rfl
theorem m3 {ns : List Int} {n : Int} (hn : ns.length ≤ 1000000) : F14.l3 n ns = some (ns ++ [n], ()) := by
  unfold F14.l3 F14.r3 F14.r3P
  have ha := app_ok (x := n) hn
  simp only [show (1 : Nat) / OfNat.ofNat (1 : Nat) = 1 from rfl, List.take_length, ha.1, ha.2.1, ha.2.2, le_all, cond_true, Bool.and_true]
theorem m4 {g : Gr} {k n : Int} (hn : (getK (keyB (Sh.sc (Ck.int IntKind.u32) Sh.nil)) g n []).length ≤ 1000000) : F14.l4 (k, n) g = some (putK (keyB (Sh.sc (Ck.int IntKind.u32) Sh.nil)) g n (getK (keyB (Sh.sc (Ck.int IntKind.u32) Sh.nil)) g n [] ++ [k]), ()) := by
  unfold F14.l4 F14.r4 F14.r4P
  have ha := app_ok (x := k) hn
  cases hh : hasK (keyB (Sh.sc (Ck.int IntKind.u32) Sh.nil)) g n with
  | true =>
    simp only [show (1 : Nat) / OfNat.ofNat (1 : Nat) = 1 from rfl, hh, cond_true, ha.1, le_all, Bool.and_true, Bool.true_and, Nat.beq_refl]
    have e := ha.2.1
    have e2 := ha.2.2
    simp only [List.take_length, List.drop_zero] at e e2 ⊢
    simp only [e, e2, cond_true]
    rw [set_put [] _ n _ g hh]
  | false =>
    simp only [hh, cond_false]
    rw [getK_no [] n g hh]
    rfl
include h hl in
theorem m5 : F14.l5 (A, ps, (ps.length : Int)) ([], [], 0) = some ((grs A ps, nms A ps), ()) := by
  refine loopN (S := fun i => (grs A (ps.take i), nms A (ps.take i), (i : Int))) ps.length (fun i hi => ?_) ?_
  · have hp := h ps[i] (List.getElem_mem hi)
    show F14.r5P F24.f F14.l1 F14.l2 F14.l3 F14.l4 (A, ps, (ps.length : Int)) (grs A (ps.take i), nms A (ps.take i), (i : Int)) = _
    unfold F14.r5P
    rw [take_snoc hi, grs_snoc, nms_snoc]
    have hg := grs_get A (ps.take i) (nb (cd A ps[i]))
    have hgl : (grp A (ps.take i) (nb (cd A ps[i]))).length ≤ 1000000 := by
      have := List.length_filter_le (fun k => decide (nb (cd A k) = nb (cd A ps[i]))) (ps.take i)
      rw [List.length_take] at this
      unfold grp
      omega
    have hnl := nms_len A (ps.take i)
    rw [List.length_take] at hnl
    have hnil := grp_nil A (ps.take i) (nb (cd A ps[i]))
    have c1 : decide ((i : Int) < (ps.length : Int)) = true := decide_eq_true (by omega)
    simp only [c1, (at_ok hi).1, (at_ok hi).2, cond_true, getI hi, le_all, Bool.and_true, List.take_length, m1 hp, Option.bind_some, m2, hg, m4 (by rw [hg]; exact hgl)]
    rw [wrap64_id (n := (i : Int) + 1) (by omega)]
    by_cases hm : nb (cd A ps[i]) ∈ nms A (ps.take i)
    · have hne : (((grp A (ps.take i) (nb (cd A ps[i]))).length : Int) == 0) = false := by
        rw [beq_eq_false_iff_ne]
        intro e
        exact hnil.1 (List.eq_nil_of_length_eq_zero (by omega)) hm
      rw [if_pos hm]
      simp only [hne, cond_false]
      rfl
    · have hne : (((grp A (ps.take i) (nb (cd A ps[i]))).length : Int) == 0) = true := by
        rw [beq_iff_eq, hnil.2 hm]; rfl
      rw [if_neg hm]
      simp only [hne, cond_true, m3 (n := nb (cd A ps[i])) (show (nms A (ps.take i)).length ≤ 1000000 by omega), Option.bind_some, take_all, le_all, Bool.and_true]
      rfl
  · show F14.r5P F24.f F14.l1 F14.l2 F14.l3 F14.l4 (A, ps, (ps.length : Int)) (grs A (ps.take ps.length), nms A (ps.take ps.length), (ps.length : Int)) = _
    unfold F14.r5P
    have c1 : decide ((ps.length : Int) < (ps.length : Int)) = false := decide_eq_false (by omega)
    simp only [c1, cond_false, cond_true, le_all, Bool.and_true, List.take_length]
include h hl in
theorem m6 {n : Int} {ws : List Int} (hw : ws.length ≤ 1000000) : F14.l6 (A, grs A ps, n) ws = some (ws ++ [bst A true (-1) (grp A ps n)], ()) := by
  unfold F14.l6 F14.r6 F14.r6P
  have hg := grs_get A ps n
  have hok : Ok A (grp A ps n) := h.sub fun k hk => (List.mem_filter.1 hk).1
  have hgl : (grp A ps n).length ≤ 1000000 := by
    have := List.length_filter_le (fun k => decide (nb (cd A k) = n)) ps
    unfold grp
    omega
  have hb := best (med := true) hok hgl
  have ha := app_ok (x := bst A true (-1) (grp A ps n)) hw
  cases hh : hasK (keyB (Sh.sc (Ck.int IntKind.u32) Sh.nil)) (grs A ps) n with
  | true => simp only [show (1 : Nat) / OfNat.ofNat (1 : Nat) = 1 from rfl, hh, hg, cond_true, le_all, Bool.and_true, List.take_length, take_all, hb, Option.bind_some, ha.1, ha.2.1, ha.2.2]
  | false =>
    have e : grp A ps n = [] := by rw [← hg]; exact getK_no [] n _ hh
    rw [e] at hb ha ⊢
    simp only [show (1 : Nat) / OfNat.ofNat (1 : Nat) = 1 from rfl, hh, cond_true, cond_false, le_all, Bool.and_true, List.take_length, take_all, hb, Option.bind_some, ha.1, ha.2.1, ha.2.2]
include h hl in
theorem m7 : F14.l7 (A, grs A ps, nms A ps, ((nms A ps).length : Int)) ([], 0) = some (wins A ps, ()) := by
  have hnl := nms_len A ps
  refine loopN (S := fun i => (((nms A ps).take i).map fun n => bst A true (-1) (grp A ps n), (i : Int))) (nms A ps).length (fun i hi => ?_) ?_
  · show F14.r7P F24.f F14.l6 (A, grs A ps, nms A ps, ((nms A ps).length : Int)) (((nms A ps).take i).map fun n => bst A true (-1) (grp A ps n), (i : Int)) = _
    unfold F14.r7P
    have c1 : decide ((i : Int) < ((nms A ps).length : Int)) = true := decide_eq_true (by omega)
    have hml : (((nms A ps).take i).map fun n => bst A true (-1) (grp A ps n)).length ≤ 1000000 := by rw [List.length_map, List.length_take]; omega
    have h6 := m6 h hl (n := (nms A ps)[i]) hml
    rw [take_snoc hi, List.map_append]
    simp only [c1, (at_ok hi).1, (at_ok hi).2, cond_true, getI hi, le_all, Bool.and_true, List.take_length, h6, Option.bind_some, take_all]
    rw [wrap64_id (n := (i : Int) + 1) (by omega)]
    rfl
  · show F14.r7P F24.f F14.l6 (A, grs A ps, nms A ps, ((nms A ps).length : Int)) (((nms A ps).take (nms A ps).length).map fun n => bst A true (-1) (grp A ps n), ((nms A ps).length : Int)) = _
    unfold F14.r7P
    have c1 : decide (((nms A ps).length : Int) < ((nms A ps).length : Int)) = false := decide_eq_false (by omega)
    simp only [c1, cond_false, cond_true, le_all, Bool.and_true, List.take_length]
    rfl
theorem wins_sub : ∀ k ∈ wins A ps, k ∈ ps := by
  intro k hk
  simp only [wins, List.mem_map] at hk
  obtain ⟨n, hn, rfl⟩ := hk
  have hne : grp A ps n ≠ [] := fun e => (grp_nil A ps n).1 e hn
  have hsub : ∀ k ∈ grp A ps n, k ∈ ps := fun k hk => (List.mem_filter.1 hk).1
  cases hg : grp A ps n with
  | nil => exact absurd hg hne
  | cons x xs =>
    rw [hg] at hsub
    have e : bst A true (-1) (x :: xs) = bst A true x xs := rfl
    rw [e]
    rcases bst_mem A true xs x with h1 | h1
    · rw [h1]; exact hsub x (by simp)
    · exact hsub _ (by simp [h1])
include h hl in
theorem among : F14.f (A, ps) = some (amg A ps, ()) := by
  have hw : Ok A (wins A ps) := h.sub wins_sub
  have hwl : (wins A ps).length ≤ 1000000 := by
    have := nms_len A ps
    unfold wins
    rw [List.length_map]; omega
  unfold F14.f F14.fP
  simp only [le_all, cond_true, Bool.and_true, List.take_length, m5 h hl, Option.bind_some, take_all, m7 h hl, best hw hwl]
  rfl
theorem amg_mem (hne : ps ≠ []) : amg A ps ∈ ps := by
  have hw : wins A ps ≠ [] := by
    cases ps with
    | nil => exact absurd rfl hne
    | cons x xs =>
      intro e
      have hm : nb (cd A x) ∈ nms A (x :: xs) := (nms_mem A _ _).2 ⟨x, by simp, rfl⟩
      simp only [wins, List.map_eq_nil_iff] at e
      rw [e] at hm
      simp at hm
  cases hx : wins A ps with
  | nil => exact absurd hx hw
  | cons x xs =>
    have hsub := wins_sub (A := A) (ps := ps)
    rw [hx] at hsub
    have e : amg A ps = bst A false x xs := by unfold amg; rw [hx]; rfl
    rw [e]
    rcases bst_mem A false xs x with h1 | h1
    · rw [h1]; exact hsub x (by simp)
    · exact hsub _ (by simp [h1])
end
theorem bestF {A : List Cand} (hA : A.length ≤ 1000000) : F7.f A = some (amg A (pls A.length), ()) := by
  have hl : (pls A.length).length ≤ 1000000 := by simp [pls]; exact hA
  unfold F7.f F7.fP
  simp only [le_all, cond_true, Bool.and_true, List.take_length, places hA, Option.bind_some, take_all, among (pls_ok A) hl]
end Go.Proofs.Ytaniibilgdhdiaa.PC

/- Chapter 21: one taken out of a row; ranks. -/
namespace Go.Proofs.Ytaniibilgdhdiaa.PD
open Go Go.Proofs Go.Proofs.Ytaniibilgdhdiaa.PA Go.Proofs.Ytaniibilgdhdiaa.PO Go.Proofs.Ytaniibilgdhdiaa.PC Go.Proofs.Ytaniibilgdhdiaa.Sx
set_option linter.unusedSimpArgs false
set_option linter.unusedVariables false
def nx (x y : Int) : Bool := decide (y ≠ x)
theorem nx_self (x : Int) : nx x x = false := by simp [nx]
theorem nx_ne {x y : Int} (h : ¬ y = x) : nx x y = true := by simp [nx, h]
section
variable {s : List Int} {x : Int} (hl : s.length ≤ 1000000)
def fi (s : List Int) (x : Int) : Nat := s.findIdx fun y => decide (y = x)
include hl in
theorem index : F30.f (s, x) = some (if fi s x < s.length then (fi s x : Int) else -1, ()) := by
  have hle : fi s x ≤ s.length := List.findIdx_le_length
  have step : ∀ i : Nat, i < fi s x → F30.r1P (s, x, (s.length : Int)) (i : Int) = some (.inl ((i + 1 : Nat) : Int)) := by
    intro i hi
    unfold F30.r1P
    have hil : i < s.length := by omega
    have c1 : decide ((i : Int) < (s.length : Int)) = true := decide_eq_true (by omega)
    have hne : ¬ s[i] = x := by
      have := List.not_of_lt_findIdx hi
      simpa using this
    have e : (s[i] == x) = false := by simpa using hne
    simp only [c1, (at_ok hil).1, (at_ok hil).2, cond_true, getI hil, e, cond_false]
    rw [wrap64_id (n := (i : Int) + 1) (by omega)]
    rfl
  have key : F30.l1 (s, x, (s.length : Int)) (OfNat.ofNat (0 : Nat)) = some (if fi s x < s.length then ((1, (fi s x : Int)), ()) else ((0, 0), ())) := by
    refine loopN (S := fun i => (i : Int)) (fi s x) (fun i hi => step i hi) ?_
    show F30.r1P (s, x, (s.length : Int)) ((fi s x : Nat) : Int) = _
    unfold F30.r1P
    by_cases h : fi s x < s.length
    · have c1 : decide (((fi s x : Nat) : Int) < (s.length : Int)) = true := decide_eq_true (by omega)
      have he : s[fi s x] = x := of_decide_eq_true (List.findIdx_getElem (p := fun y => decide (y = x)) (xs := s) (w := h))
      have e : (s[fi s x] == x) = true := by simpa using he
      simp only [c1, (at_ok h).1, (at_ok h).2, cond_true, getI h, e, if_pos h]
    · have c1 : decide (((fi s x : Nat) : Int) < (s.length : Int)) = false := decide_eq_false (by omega)
      simp only [c1, cond_false, if_neg h]
  unfold F30.f F30.fP
  simp only [le_all, cond_true, Bool.and_true, List.take_length, key, Option.bind_some]
  by_cases h : fi s x < s.length
  · rw [if_pos h, if_pos h]; rfl
  · rw [if_neg h, if_neg h]; rfl
def Inv (s0 : List Int) (x : Int) (z : List Int × Int × Int) : Prop :=
  ∃ J : Nat, z.2.2 = (J : Int) ∧ J ≤ s0.length ∧ z.1.length = s0.length ∧ z.2.1 = (((s0.take J).filter (nx x)).length : Int) ∧ z.1.take ((s0.take J).filter (nx x)).length = (s0.take J).filter (nx x) ∧ z.1.drop J = s0.drop J
theorem set_take {α : Type} {l : List α} {i : Nat} {v : α} (h : i < l.length) : (l.set i v).take (i + 1) = l.take i ++ [v] := by
  rw [take_snoc (by rw [List.length_set]; exact h), List.take_set_of_le (Nat.le_refl _)]
  simp
include hl in
theorem moves {I J : Nat} (h1 : J ≤ s.length) (h2 : I = ((s.take J).filter (nx x)).length) (hz : s.take I = (s.take J).filter (nx x)) : ∃ t : List Int, F22.l1 x (s, (I : Int), (J : Int)) = some ((t, ((s.filter (nx x)).length : Int)), ()) ∧ t.length = s.length ∧ t.take ((s.filter (nx x)).length) = s.filter (nx x) := by
  obtain ⟨r, e, t, k1, k2, k3⟩ := iterO_inv (f := F22.r1 x) (Inv s x) (fun z => s.length - z.2.2.toNat) (fun r => ∃ t : List Int, r = ((t, ((s.filter (nx x)).length : Int)), ()) ∧ t.length = s.length ∧ t.take ((s.filter (nx x)).length) = s.filter (nx x)) (by
    rintro ⟨r, i, j⟩ ⟨J, g1, g2, g3, g4, g5, g6⟩
    simp only at g1 g3 g4 g5 g6
    subst g1
    show (∃ a', F22.r1P F30.f x (r, i, (J : Int)) = some (.inl a') ∧ _) ∨ ∃ b, F22.r1P F30.f x (r, i, (J : Int)) = some (.inr b) ∧ _
    unfold F22.r1P
    by_cases hJ : J < s.length
    · left
      have hJr : J < r.length := by omega
      have hv : r[J] = s[J] := by
        have e1 : r.drop J = r[J] :: r.drop (J + 1) := List.drop_eq_getElem_cons hJr
        have e2 : s.drop J = s[J] :: s.drop (J + 1) := List.drop_eq_getElem_cons hJ
        rw [e1, e2] at g6
        exact (List.cons.inj g6).1
      have hd : r.drop (J + 1) = s.drop (J + 1) := by
        have := congrArg (List.drop 1) g6
        rwa [List.drop_drop, List.drop_drop] at this
      have c1 : decide ((J : Int) < (r.length : Int)) = true := decide_eq_true (by omega)
      have hts := take_snoc hJ
      have hfl : ((s.take J).filter (nx x)).length ≤ J := by
        have := List.length_filter_le (nx x) (s.take J)
        rw [List.length_take] at this
        omega
      generalize hI : ((s.take J).filter (nx x)).length = I' at *
      subst g4
      by_cases hx : s[J] = x
      · have e : (!s[J] == x) = false := by simp [hx]
        refine ⟨(r, (I' : Int), ((J + 1 : Nat) : Int)), ?_, ⟨J + 1, rfl, by omega, g3, ?_, ?_, hd⟩, by simp only [Int.toNat_natCast]; omega⟩
        · simp only [c1, (at_ok hJr).1, (at_ok hJr).2, cond_true, getI hJr, hv, e, cond_false, le_all, Bool.and_true, List.take_length]
          rw [wrap64_id (n := (J : Int) + 1) (by omega)]
          rfl
        · rw [hts, List.filter_append]; simp [hx, nx_self, hI]
        · rw [hts, List.filter_append]; simp [hx, nx_self, hI]; exact g5
      · have e : (!s[J] == x) = true := by simpa using hx
        have hIr : I' < r.length := by omega
        refine ⟨(r.set I' s[J], ((I' + 1 : Nat) : Int), ((J + 1 : Nat) : Int)), ?_, ⟨J + 1, rfl, by omega, by simp [g3], ?_, ?_, ?_⟩, by simp only [Int.toNat_natCast]; omega⟩
        · have c2 : decide (0 + r.length ≤ (r.set (0 + (I' : Int).toNat) s[J]).length) = true := decide_eq_true (by simp)
          have e3 : List.take r.length (List.drop 0 (r.set (0 + (I' : Int).toNat) s[J])) = r.set I' s[J] := by
            rw [List.drop_zero, List.take_of_length_le (by simp), show 0 + (I' : Int).toNat = I' by omega]
          simp only [c1, (at_ok hJr).1, (at_ok hJr).2, cond_true, getI hJr, hv, e, (at_ok hIr).1, (at_ok hIr).2, c2, e3, Bool.and_true]
          rw [wrap64_id (n := (J : Int) + 1) (by omega), wrap64_id (n := (I' : Int) + 1) (by omega)]
          rfl
        · rw [hts, List.filter_append, List.length_append, hI]; simp [nx_ne hx]
        · rw [hts, List.filter_append, List.length_append, hI]
          have e5 : (List.filter (nx x) [s[J]]) = [s[J]] := by simp [nx_ne hx]
          rw [e5]
          show (r.set I' s[J]).take (I' + 1) = _
          rw [set_take hIr, g5]
        · show (r.set I' s[J]).drop (J + 1) = _
          rw [List.drop_set_of_lt (by omega)]
          exact hd
    · right
      have hJe : J = s.length := by omega
      subst hJe
      have c1 : decide ((s.length : Int) < (r.length : Int)) = false := decide_eq_false (by omega)
      rw [List.take_length] at g4 g5
      refine ⟨((r, i), ()), by simp only [c1, cond_false, le_all, cond_true, Bool.and_true, List.take_length], r, by rw [g4], g3, g5⟩) (s, (I : Int), (J : Int)) ⟨J, rfl, h1, rfl, by rw [h2], by rw [← h2]; exact hz, rfl⟩
  exact ⟨t, by rw [← k1]; exact e, k2, k3⟩
include hl in
theorem deleted : F22.f (s, x) = some (s.filter (nx x), ()) := by
  unfold F22.f F22.fP
  simp only [le_all, cond_true, Bool.and_true, List.take_length, index hl, Option.bind_some]
  by_cases h : fi s x < s.length
  · rw [if_pos h]
    have c0 : (((fi s x : Nat) : Int) == -1) = false := by rw [beq_eq_false_iff_ne]; omega
    have hpre : (s.take (fi s x)).filter (nx x) = s.take (fi s x) := by
      rw [List.filter_eq_self]
      intro y hy
      obtain ⟨i, hi, rfl⟩ := List.getElem_of_mem hy
      rw [List.length_take] at hi
      rw [List.getElem_take]
      have := List.not_of_lt_findIdx (p := fun y => decide (y = x)) (xs := s) (i := i) (by unfold fi at hi; omega)
      exact nx_ne (by simpa using this)
    have hat : s[fi s x] = x := of_decide_eq_true (List.findIdx_getElem (p := fun y => decide (y = x)) (xs := s) (w := h))
    have hpre2 : (s.take (fi s x + 1)).filter (nx x) = s.take (fi s x) := by
      rw [take_snoc h, List.filter_append, hpre, hat]; simp [nx_self]
    have hle : (s.take (fi s x)).length = fi s x := by rw [List.length_take]; omega
    obtain ⟨t, k1, k2, k3⟩ := moves hl (x := x) (I := fi s x) (J := fi s x + 1) (by omega) (by rw [hpre2, hle]) (by rw [hpre2])
    have hfl := List.length_filter_le (nx x) s
    rw [wrap64_id (n := ((fi s x : Nat) : Int) + 1) (by omega)]
    simp only [c0, cond_false]
    rw [show ((fi s x : Nat) : Int) + 1 = ((fi s x + 1 : Nat) : Int) by omega, k1]
    simp only [Option.bind_some, Option.getD_some, Option.getD_none]
    generalize hf : s.filter (nx x) = f at *
    have c1 : decide ((0 : Int) ≤ (f.length : Int) ∧ (f.length : Int) ≤ (t.length : Int) ∧ (t.length : Int) ≤ (t.length : Int) ∧ 0 + t.length ≤ t.length) = true := decide_eq_true (by omega)
    have e0 : (f.length : Int).toNat = f.length := by omega
    by_cases hft : (f.length : Int) = (t.length : Int)
    · have c3 : decide ((0 : Int) ≤ (f.length : Int) ∧ (f.length : Int) ≤ (t.length : Int) ∧ 0 + t.length ≤ t.length) = true := decide_eq_true (by omega)
      have c4 : decide (0 + f.length ≤ t.length) = true := decide_eq_true (by omega)
      simp only [c1, cond_true, decide_eq_true hft, c3, e0, c4, Bool.and_true, List.drop_zero, k3]
    · have hr : (List.replicate ((t.length : Int) - (f.length : Int)).toNat (0 : Int)).length = t.length - f.length := by rw [List.length_replicate]; omega
      have e1 : 0 + f.length + (t.length - f.length) = t.length := by omega
      have c3 : decide (0 + f.length + (t.length - f.length) ≤ t.length) = true := decide_eq_true (by omega)
      have e2 : t.drop (0 + f.length + (t.length - f.length)) = [] := by rw [e1]; simp
      have e3 : t.take (0 + f.length) = f := by rw [Nat.zero_add]; exact k3
      have e4 : (f ++ List.replicate ((t.length : Int) - (f.length : Int)).toNat (0 : Int) ++ []).length = t.length := by rw [List.append_nil, List.length_append, hr]; omega
      have c5 : decide ((0 : Int) ≤ (f.length : Int) ∧ (f.length : Int) ≤ (t.length : Int) ∧ 0 + t.length ≤ t.length) = true := decide_eq_true (by omega)
      have c6 : decide (0 + f.length ≤ t.length) = true := decide_eq_true (by omega)
      have e5 : (f ++ List.replicate ((t.length : Int) - (f.length : Int)).toNat (0 : Int) ++ []).take f.length = f := by rw [List.append_nil, List.take_left]
      simp only [c1, cond_true, cond_false, decide_eq_false hft, e0, hr, c3, e2, e3, e4, c5, c6, Bool.and_true, List.drop_zero, e5]
  · rw [if_neg h]
    have hall : s.filter (nx x) = s := by
      rw [List.filter_eq_self]
      intro y hy
      obtain ⟨i, hi, rfl⟩ := List.getElem_of_mem hy
      have := List.not_of_lt_findIdx (p := fun y => decide (y = x)) (xs := s) (i := i) (by unfold fi at h; omega)
      exact nx_ne (by simpa using this)
    rw [hall]
    rfl
end
theorem rest_lt (A : List Cand) {rest : List Int} (h : rest ≠ []) : (rest.filter (nx (amg A rest))).length < rest.length := by
  rw [List.length_filter_lt_length_iff_exists]
  exact ⟨amg A rest, amg_mem h, by simp [nx_self]⟩
/-- All places, ranked. -/
def rnkN (A : List Cand) : Nat → List Int → List Int
  | 0, _ => []
  | n + 1, rest => match rest with
    | [] => []
    | k :: ks => amg A (k :: ks) :: rnkN A n ((k :: ks).filter (nx (amg A (k :: ks))))
def rnk (A : List Cand) (rest : List Int) : List Int := rnkN A rest.length rest
theorem rnkN_nil (A : List Cand) (n : Nat) : rnkN A n [] = [] := by cases n <;> rfl
theorem rnkN_cons (A : List Cand) (n : Nat) {rest : List Int} (h : rest ≠ []) : rnkN A (n + 1) rest = amg A rest :: rnkN A n (rest.filter (nx (amg A rest))) := by
  cases rest with
  | nil => exact absurd rfl h
  | cons k ks => rfl
theorem rnkN_any (A : List Cand) : ∀ (n m : Nat) (rest : List Int), rest.length ≤ n → rest.length ≤ m → rnkN A n rest = rnkN A m rest := by
  intro n
  induction n with
  | zero =>
    intro m rest h _
    have he : rest = [] := List.eq_nil_of_length_eq_zero (by omega)
    subst he; rw [rnkN_nil, rnkN_nil]
  | succ n ih =>
    intro m rest h h2
    by_cases he : rest = []
    · subst he; rw [rnkN_nil, rnkN_nil]
    · have hlt := rest_lt A he
      cases m with
      | zero => omega
      | succ m => rw [rnkN_cons A n he, rnkN_cons A m he, ih m _ (by omega) (by omega)]
theorem rnk_nil (A : List Cand) : rnk A [] = [] := rfl
theorem rnk_cons (A : List Cand) {rest : List Int} (h : rest ≠ []) : rnk A rest = amg A rest :: rnk A (rest.filter (nx (amg A rest))) := by
  have hlt := rest_lt A h
  unfold rnk
  cases hm : rest.length with
  | zero => omega
  | succ m => rw [rnkN_cons A m h, rnkN_any A m _ _ (by omega) (Nat.le_refl _)]
theorem ranks {A : List Cand} : ∀ (n : Nat) (out rest : List Int), rest.length ≤ n → Ok A rest → out.length + rest.length ≤ 1000000 → F13.l4 A (out, rest) = some (out ++ rnk A rest, ()) := by
  intro n
  induction n with
  | zero =>
    intro out rest hn hok hl
    have he : rest = [] := List.eq_nil_of_length_eq_zero (by omega)
    subst he
    refine iterO_done (f := F13.r4 A) ?_
    show F13.r4P F15.f F14.f F22.f F13.l1 F13.l2 F13.l3 A (out, []) = _
    unfold F13.r4P
    have c1 : decide ((([] : List Int).length : Int) > 0) = false := rfl
    simp only [c1, cond_false, cond_true, le_all, Bool.and_true, List.take_length, rnk_nil, List.append_nil]
  | succ n ih =>
    intro out rest hn hok hl
    by_cases he : rest = []
    · subst he; exact ih out [] (by simp) hok hl
    · have hlt := rest_lt A he
      have hpos : 0 < rest.length := by
        cases rest with
        | nil => exact absurd rfl he
        | cons _ _ => simp
      have hn1 : F13.l1 A rest = some ((rest, amg A rest), ()) := by
        unfold F13.l1 F13.r1 F13.r1P
        simp only [le_all, cond_true, Bool.and_true, List.take_length, among hok (by omega), Option.bind_some]
      have hn2 : F13.l2 (amg A rest) out = some (out ++ [amg A rest], ()) := by
        unfold F13.l2 F13.r2 F13.r2P
        have ha := app_ok (l := out) (x := amg A rest) (by omega)
        simp only [show (1 : Nat) / OfNat.ofNat (1 : Nat) = 1 from rfl, List.take_length, ha.1, ha.2.1, ha.2.2, le_all, cond_true, Bool.and_true]
      have hn3 : F13.l3 () (rest, amg A rest) = some (rest.filter (nx (amg A rest)), amg A rest) := by
        unfold F13.l3 F13.r3 F13.r3P
        simp only [le_all, cond_true, Bool.and_true, List.take_length, deleted (s := rest) (x := amg A rest) (by omega), Option.bind_some, take_all]
      have hstep : F13.r4 A (out, rest) = some (.inl (out ++ [amg A rest], rest.filter (nx (amg A rest)))) := by
        show F13.r4P F15.f F14.f F22.f F13.l1 F13.l2 F13.l3 A (out, rest) = _
        unfold F13.r4P
        have c1 : decide ((rest.length : Int) > 0) = true := decide_eq_true (by omega)
        simp only [c1, cond_true, le_all, Bool.and_true, List.take_length, hn1, hn2, hn3, Option.bind_some, take_all]
      show iterO (F13.r4 A) (out, rest) = _
      rw [iterO_step hstep]
      have := ih (out ++ [amg A rest]) (rest.filter (nx (amg A rest))) (by omega) (hok.sub fun k hk => (List.mem_filter.1 hk).1) (by rw [List.length_append]; simp only [List.length_singleton]; omega)
      rw [rnk_cons A he]
      rw [List.append_assoc] at this
      exact this
theorem ranked {A : List Cand} (hA : A.length ≤ 1000000) : F13.f A = some (rnk A (pls A.length), ()) := by
  have hl : (pls A.length).length = A.length := by simp [pls]
  unfold F13.f F13.fP
  simp only [le_all, cond_true, Bool.and_true, List.take_length, places hA, Option.bind_some, take_all, ranks _ [] _ (Nat.le_refl _) (pls_ok A) (by rw [hl]; simpa using hA), List.nil_append]
end Go.Proofs.Ytaniibilgdhdiaa.PD

/- Chapter 21: of candidates of unlike peers, in whatever order, one is the best; so are they ranked. -/
namespace Go.Proofs.Ytaniibilgdhdiaa.PE
open Go Go.Proofs Go.Proofs.Ytaniibilgdhdiaa.PA Go.Proofs.Ytaniibilgdhdiaa.PO Go.Proofs.Ytaniibilgdhdiaa.PC Go.Proofs.Ytaniibilgdhdiaa.PD Go.Proofs.Ytaniibilgdhdiaa.Sx
set_option linter.unusedSimpArgs false
set_option linter.unusedVariables false
def peer (a : Cand) : Int := a.2.2.2.2.2.2.2.2
/-- The better one. -/
def lt (med : Bool) (a b : Cand) : Prop := (cmp med a b).1 < 0
theorem fst_zero : ∀ (l : List (Int × Int)), (fst l).1 = 0 → ∀ x ∈ l, x.1 = 0
  | [], _, x, hx => by simp at hx
  | (o, k) :: l, h, x, hx => by
    simp only [fst] at h
    by_cases ho : o = 0
    · rw [if_pos ho] at h
      rcases List.mem_cons.1 hx with rfl | hx
      · exact ho
      · exact fst_zero l h x hx
    · rw [if_neg ho] at h; exact absurd h ho
theorem cmp_zero {med : Bool} {a b : Cand} (h : (cmp med a b).1 = 0) : peer a = peer b := by
  have := fst_zero _ h (c3 a.2.2.2.2.2.2.2.2 b.2.2.2.2.2.2.2.2, 8) (by simp [parts])
  exact c3_0 this
theorem lt_anti {med : Bool} {a b : Cand} (h : lt med a b) : ¬ lt med b a := by
  unfold lt at h ⊢
  rw [turned med a b]
  simp only
  omega
theorem lt_total {med : Bool} {a b : Cand} (h : peer a ≠ peer b) : lt med a b ∨ lt med b a := by
  unfold lt
  rw [turned med a b]
  simp only
  have : (cmp med a b).1 ≠ 0 := fun e => h (cmp_zero e)
  omega
/-- All of one Neighbour, where Med counts. -/
def Nb (med : Bool) (cs : List Cand) : Prop := med = true → ∀ a ∈ cs, ∀ b ∈ cs, nb a = nb b
theorem lt_trans {med : Bool} {a b c : Cand} (h1 : med = true → nb a = nb b) (h2 : med = true → nb b = nb c) (hab : lt med a b) (hbc : lt med b c) : lt med a c := by
  unfold lt at *
  have tca := turned med a c
  have tcb := turned med b c
  rw [cmp_lex med a b h1] at hab
  have e1 := cmp_lex med b c h2
  have e2 := cmp_lex med a c (fun h => (h1 h).trans (h2 h))
  have e3 := cmp_lex med c a (fun h => ((h1 h).trans (h2 h)).symm)
  have e4 := cmp_lex med c b (fun h => (h2 h).symm)
  have hle := lex_le (K med a) (K med b) (K med c) rfl rfl (by omega) (by rw [← e1]; omega)
  rw [← e2] at hle
  by_cases h0 : (cmp med a c).1 = 0
  · rw [tca] at e3
    have := lex_le (K med c) (K med a) (K med b) rfl rfl (by rw [← e3]; simp only; omega) (by omega)
    rw [← e4, tcb] at this
    simp only at this
    omega
  · omega
def Dis (cs : List Cand) : Prop := (cs.map peer).Nodup
theorem Dis.inj : ∀ {cs : List Cand}, Dis cs → ∀ {a b : Cand}, a ∈ cs → b ∈ cs → peer a = peer b → a = b
  | [], _, a, b, ha, _, _ => by simp at ha
  | c :: cs, h, a, b, ha, hb, e => by
    unfold Dis at h
    rw [List.map_cons, List.nodup_cons] at h
    rcases List.mem_cons.1 ha with h1 | h1 <;> rcases List.mem_cons.1 hb with h2 | h2
    · rw [h1, h2]
    · exact absurd (List.mem_map.2 ⟨b, h2, by rw [← e, h1]⟩) h.1
    · exact absurd (List.mem_map.2 ⟨a, h1, by rw [e, h2]⟩) h.1
    · exact Dis.inj h.2 h1 h2 e
theorem Dis.perm {cs ds : List Cand} (h : Dis cs) (hp : cs.Perm ds) : Dis ds := (hp.map peer).nodup_iff.1 h
theorem Dis.filter {cs : List Cand} (h : Dis cs) (p : Cand → Bool) : Dis (cs.filter p) := by
  have hs : (cs.filter p).Sublist cs := List.filter_sublist
  exact List.Nodup.sublist (hs.map peer) h
theorem Nb.perm {med : Bool} {cs ds : List Cand} (h : Nb med cs) (hp : cs.Perm ds) : Nb med ds := fun hm a ha b hb => h hm a (hp.mem_iff.2 ha) b (hp.mem_iff.2 hb)
def cb (med : Bool) (c : Cand) (cs : List Cand) : Cand := cs.foldl (fun x k => if (cmp med k x).1 < 0 then k else x) c
def cbest (med : Bool) : List Cand → Cand
  | [] => z0
  | c :: cs => cb med c cs
theorem cb_min {med : Bool} : ∀ (cs : List Cand) (c : Cand), Dis (c :: cs) → Nb med (c :: cs) → cb med c cs ∈ c :: cs ∧ ∀ k ∈ c :: cs, k = cb med c cs ∨ lt med (cb med c cs) k
  | [], c, _, _ => ⟨by simp [cb], fun k hk => .inl (by simpa [cb] using hk)⟩
  | k :: cs, c, hd, hn => by
    have hkc : peer k ≠ peer c := by
      intro e
      unfold Dis at hd
      simp only [List.map_cons, List.nodup_cons, List.mem_cons, not_or] at hd
      exact hd.1.1 e.symm
    -- the one that stays, and the one that goes
    have key : ∀ (s g : Cand), (s = k ∧ g = c) ∨ (s = c ∧ g = k) → lt med s g → cb med c (k :: cs) = cb med s cs → cb med c (k :: cs) ∈ c :: k :: cs ∧ ∀ j ∈ c :: k :: cs, j = cb med c (k :: cs) ∨ lt med (cb med c (k :: cs)) j := by
      intro s g hsg hlt he
      have hmem : s ∈ c :: k :: cs ∧ g ∈ c :: k :: cs := by rcases hsg with ⟨rfl, rfl⟩ | ⟨rfl, rfl⟩ <;> simp
      have hd2 : Dis (s :: cs) := by
        unfold Dis at hd ⊢
        simp only [List.map_cons, List.nodup_cons, List.mem_cons, not_or] at hd ⊢
        rcases hsg with ⟨rfl, rfl⟩ | ⟨rfl, rfl⟩
        · exact hd.2
        · exact ⟨hd.1.2, hd.2.2⟩
      have hsub : ∀ j ∈ s :: cs, j ∈ c :: k :: cs := by
        intro j hj
        rcases List.mem_cons.1 hj with rfl | hj
        · exact hmem.1
        · simp [hj]
      have hn2 : Nb med (s :: cs) := fun hm a ha b hb => hn hm a (hsub a ha) b (hsub b hb)
      obtain ⟨i1, i2⟩ := cb_min cs s hd2 hn2
      rw [he]
      refine ⟨hsub _ i1, fun j hj => ?_⟩
      have hj2 : j ∈ s :: cs ∨ j = g := by
        simp only [List.mem_cons] at hj ⊢
        rcases hsg with ⟨rfl, rfl⟩ | ⟨rfl, rfl⟩ <;> rcases hj with h | h | h <;> simp [h]
      rcases hj2 with hj2 | rfl
      · exact i2 j hj2
      · right
        rcases i2 s (by simp) with h | h
        · rw [← h]; exact hlt
        · exact lt_trans (fun hm => hn hm _ (hsub _ i1) _ hmem.1) (fun hm => hn hm _ hmem.1 _ hmem.2) h hlt
    by_cases h : (cmp med k c).1 < 0
    · exact key k c (.inl ⟨rfl, rfl⟩) h (by simp [cb, h])
    · have : lt med c k := by
        rcases lt_total (med := med) hkc with g | g
        · exact absurd g h
        · exact g
      exact key c k (.inr ⟨rfl, rfl⟩) this (by simp [cb, h])
theorem cbest_min {med : Bool} {cs : List Cand} (hne : cs ≠ []) (hd : Dis cs) (hn : Nb med cs) : cbest med cs ∈ cs ∧ ∀ k ∈ cs, k = cbest med cs ∨ lt med (cbest med cs) k := by
  cases cs with
  | nil => exact absurd rfl hne
  | cons c cs => exact cb_min cs c hd hn
theorem min_one {med : Bool} {cs : List Cand} {a b : Cand} (ha : a ∈ cs ∧ ∀ k ∈ cs, k = a ∨ lt med a k) (hb : b ∈ cs ∧ ∀ k ∈ cs, k = b ∨ lt med b k) : a = b := by
  rcases ha.2 b hb.1 with h | h
  · exact h.symm
  · rcases hb.2 a ha.1 with g | g
    · exact g
    · exact absurd g (lt_anti h)
theorem cbest_perm {med : Bool} {cs ds : List Cand} (hp : cs.Perm ds) (hd : Dis cs) (hn : Nb med cs) : cbest med cs = cbest med ds := by
  by_cases hne : cs = []
  · subst hne
    rw [List.nil_perm.1 hp]
  · have hne2 : ds ≠ [] := fun e => hne (by rw [e] at hp; exact List.perm_nil.1 hp)
    obtain ⟨h1, h2⟩ := cbest_min hne hd hn
    obtain ⟨g1, g2⟩ := cbest_min hne2 (hd.perm hp) (hn.perm hp)
    exact min_one ⟨h1, h2⟩ ⟨hp.mem_iff.2 g1, fun k hk => g2 k (hp.mem_iff.1 hk)⟩
/-! ### The best of all -/
def cnms (cs : List Cand) : List Int := cs.foldl (fun ns c => if nb c ∈ ns then ns else ns ++ [nb c]) []
def cgrp (cs : List Cand) (n : Int) : List Cand := cs.filter fun c => decide (nb c = n)
def cwins (cs : List Cand) : List Cand := (cnms cs).map fun n => cbest true (cgrp cs n)
def camg (cs : List Cand) : Cand := cbest false (cwins cs)
theorem cnms_snoc (cs : List Cand) (c : Cand) : cnms (cs ++ [c]) = if nb c ∈ cnms cs then cnms cs else cnms cs ++ [nb c] := by
  unfold cnms; rw [List.foldl_append]; rfl
theorem cnms_mem (cs : List Cand) : ∀ n, n ∈ cnms cs ↔ ∃ c ∈ cs, nb c = n := by
  refine snoc_ind (P := fun cs => ∀ n, n ∈ cnms cs ↔ ∃ c ∈ cs, nb c = n) (fun n => by simp [cnms]) (fun cs c ih n => ?_) cs
  rw [cnms_snoc]
  have e : (∃ j ∈ cs ++ [c], nb j = n) ↔ (∃ j ∈ cs, nb j = n) ∨ nb c = n := by
    constructor
    · rintro ⟨j, hj, h⟩
      rcases List.mem_append.1 hj with hj | hj
      · exact .inl ⟨j, hj, h⟩
      · simp only [List.mem_singleton] at hj; subst hj; exact .inr h
    · rintro (⟨j, hj, h⟩ | h)
      · exact ⟨j, by simp [hj], h⟩
      · exact ⟨c, by simp, h⟩
  rw [e]
  split
  · rename_i h
    rw [ih]
    constructor
    · exact .inl
    · rintro (h2 | h2)
      · exact h2
      · rw [← h2]; exact (ih _).1 h
  · rw [List.mem_append, List.mem_singleton, ih]
    constructor
    · rintro (h2 | h2)
      · exact .inl h2
      · exact .inr h2.symm
    · rintro (h2 | h2)
      · exact .inl h2
      · exact .inr h2.symm
theorem cnms_nodup (cs : List Cand) : (cnms cs).Nodup := by
  refine snoc_ind (P := fun cs => (cnms cs).Nodup) List.nodup_nil (fun cs c ih => ?_) cs
  rw [cnms_snoc]
  split
  · exact ih
  · rename_i h
    rw [List.nodup_append]
    refine ⟨ih, by simp, fun a ha b hb e => ?_⟩
    simp only [List.mem_singleton] at hb
    subst e; subst hb
    exact h ha
theorem cgrp_nb (cs : List Cand) (n : Int) : Nb true (cgrp cs n) := by
  intro _ a ha b hb
  rw [of_decide_eq_true (List.mem_filter.1 ha).2, of_decide_eq_true (List.mem_filter.1 hb).2]
theorem cgrp_ne {cs : List Cand} {n : Int} (h : n ∈ cnms cs) : cgrp cs n ≠ [] := by
  obtain ⟨c, hc, e⟩ := (cnms_mem cs n).1 h
  intro g
  have : c ∈ cgrp cs n := List.mem_filter.2 ⟨hc, decide_eq_true e⟩
  rw [g] at this
  simp at this
/-- A Neighbour's best one. -/
theorem cwin {cs : List Cand} (hd : Dis cs) {n : Int} (h : n ∈ cnms cs) : cbest true (cgrp cs n) ∈ cs ∧ nb (cbest true (cgrp cs n)) = n ∧ ∀ k ∈ cs, nb k = n → k = cbest true (cgrp cs n) ∨ lt true (cbest true (cgrp cs n)) k := by
  obtain ⟨h1, h2⟩ := cbest_min (cgrp_ne h) (hd.filter _) (cgrp_nb cs n)
  obtain ⟨g1, g2⟩ := List.mem_filter.1 h1
  exact ⟨g1, of_decide_eq_true g2, fun k hk e => h2 k (List.mem_filter.2 ⟨hk, decide_eq_true e⟩)⟩
theorem cwins_dis {cs : List Cand} (hd : Dis cs) : Dis (cwins cs) := by
  unfold Dis cwins
  rw [List.map_map]
  unfold List.Nodup
  rw [List.pairwise_map]
  refine List.Pairwise.imp_of_mem ?_ (cnms_nodup cs)
  intro n m hn hm hne e
  obtain ⟨a1, a2, _⟩ := cwin hd hn
  obtain ⟨b1, b2, _⟩ := cwin hd hm
  have := hd.inj a1 b1 e
  exact hne (by rw [← a2, ← b2, this])
theorem nb_false (cs : List Cand) : Nb false cs := fun h => by cases h
theorem cnms_ne {cs : List Cand} (h : cs ≠ []) : cnms cs ≠ [] := by
  cases cs with
  | nil => exact absurd rfl h
  | cons c cs =>
    intro e
    have : nb c ∈ cnms (c :: cs) := (cnms_mem _ _).2 ⟨c, by simp, rfl⟩
    rw [e] at this
    simp at this
theorem camg_mem {cs : List Cand} (hne : cs ≠ []) (hd : Dis cs) : camg cs ∈ cwins cs ∧ (∀ k ∈ cwins cs, k = camg cs ∨ lt false (camg cs) k) ∧ camg cs ∈ cs := by
  have hw : cwins cs ≠ [] := fun e => cnms_ne hne (List.map_eq_nil_iff.1 e)
  obtain ⟨h1, h2⟩ := cbest_min hw (cwins_dis hd) (nb_false _)
  refine ⟨h1, h2, ?_⟩
  obtain ⟨n, hn, e⟩ := List.mem_map.1 h1
  have := (cwin hd hn).1
  rw [e] at this
  exact this
theorem camg_perm {cs ds : List Cand} (hp : cs.Perm ds) (hd : Dis cs) : camg cs = camg ds := by
  have hnp : (cnms cs).Perm (cnms ds) := by
    rw [List.perm_ext_iff_of_nodup (cnms_nodup cs) (cnms_nodup ds)]
    intro n
    rw [cnms_mem, cnms_mem]
    constructor
    · rintro ⟨c, hc, e⟩; exact ⟨c, hp.mem_iff.1 hc, e⟩
    · rintro ⟨c, hc, e⟩; exact ⟨c, hp.mem_iff.2 hc, e⟩
  have he : (fun n => cbest true (cgrp cs n)) = fun n => cbest true (cgrp ds n) := by
    funext n
    exact cbest_perm (hp.filter _) (hd.filter _) (cgrp_nb cs n)
  have hw : (cwins cs).Perm (cwins ds) := by
    unfold cwins
    rw [← he]
    exact hnp.map _
  exact cbest_perm hw (cwins_dis hd) (nb_false _)
/-! ### Places and candidates -/
theorem cd_bst {A : List Cand} {med : Bool} : ∀ (ps : List Int) (x : Int), 0 ≤ x → (∀ k ∈ ps, 0 ≤ k) → cd A (bst A med x ps) = cb med (cd A x) (ps.map (cd A)) ∧ 0 ≤ bst A med x ps
  | [], x, hx, _ => ⟨rfl, hx⟩
  | k :: ps, x, hx, h => by
    have hk := h k (by simp)
    have e : bst A med x (k :: ps) = bst A med (bs A med x k) ps := rfl
    have h0 : 0 ≤ bs A med x k := by unfold bs; split; omega; split <;> omega
    have ih := cd_bst (A := A) (med := med) ps (bs A med x k) h0 (fun j hj => h j (by simp [hj]))
    rw [e]
    refine ⟨?_, ih.2⟩
    rw [ih.1]
    have e2 : cd A (bs A med x k) = if (cmp med (cd A k) (cd A x)).1 < 0 then cd A k else cd A x := by
      unfold bs
      rw [if_neg (by omega)]
      split <;> rfl
    rw [e2]
    rfl
theorem cd_best {A : List Cand} {med : Bool} {ps : List Int} (hne : ps ≠ []) (h : ∀ k ∈ ps, 0 ≤ k) : cd A (bst A med (-1) ps) = cbest med (ps.map (cd A)) := by
  cases ps with
  | nil => exact absurd rfl hne
  | cons x xs =>
    have e : bst A med (-1) (x :: xs) = bst A med x xs := rfl
    rw [e, (cd_bst xs x (h x (by simp)) (fun j hj => h j (by simp [hj]))).1]
    rfl
theorem nms_c (A : List Cand) (ps : List Int) : nms A ps = cnms (ps.map (cd A)) := by
  unfold nms cnms
  rw [List.foldl_map]
theorem grp_c (A : List Cand) (ps : List Int) (n : Int) : (grp A ps n).map (cd A) = cgrp (ps.map (cd A)) n := by
  unfold grp cgrp
  rw [List.filter_map]
  rfl
theorem cd_amg {A : List Cand} {ps : List Int} (hne : ps ≠ []) (hok : Ok A ps) : cd A (amg A ps) = camg (ps.map (cd A)) := by
  have hw : wins A ps ≠ [] := by
    intro e
    have h1 : nms A ps = [] := List.map_eq_nil_iff.1 e
    rw [nms_c] at h1
    exact cnms_ne (by simpa using hne) h1
  have hw0 : ∀ k ∈ wins A ps, 0 ≤ k := fun k hk => (hok k (wins_sub k hk)).1
  unfold amg
  rw [cd_best hw hw0]
  unfold camg cwins wins
  rw [List.map_map, ← nms_c]
  congr 1
  refine List.map_congr_left fun n hn => ?_
  have hg : grp A ps n ≠ [] := fun e => (grp_nil A ps n).1 e hn
  show cd A (bst A true (-1) (grp A ps n)) = _
  rw [cd_best hg (fun k hk => (hok k (List.mem_filter.1 hk).1).1), grp_c]
theorem pl_inj {A : List Cand} {p k : Int} : ∀ {ps : List Int}, Dis (ps.map (cd A)) → p ∈ ps → k ∈ ps → peer (cd A p) = peer (cd A k) → p = k
  | [], _, h, _, _ => by simp at h
  | x :: xs, h, hp, hk, e => by
    unfold Dis at h
    simp only [List.map_cons, List.nodup_cons] at h
    rcases List.mem_cons.1 hp with h1 | h1 <;> rcases List.mem_cons.1 hk with h2 | h2
    · rw [h1, h2]
    · exact absurd (List.mem_map.2 ⟨cd A k, List.mem_map.2 ⟨k, h2, rfl⟩, by rw [← e, h1]⟩) h.1
    · exact absurd (List.mem_map.2 ⟨cd A p, List.mem_map.2 ⟨p, h1, rfl⟩, by rw [e, h2]⟩) h.1
    · exact pl_inj h.2 h1 h2 e
theorem rest_c {A : List Cand} {ps : List Int} (hd : Dis (ps.map (cd A))) {k : Int} (hk : k ∈ ps) : (ps.filter (nx k)).map (cd A) = (ps.map (cd A)).filter fun c => decide (peer c ≠ peer (cd A k)) := by
  rw [List.filter_map]
  congr 1
  refine List.filter_congr fun p hp => ?_
  show nx k p = decide (peer (cd A p) ≠ peer (cd A k))
  by_cases h : p = k
  · subst h; rw [nx_self]; simp
  · rw [nx_ne h]
    have : peer (cd A p) ≠ peer (cd A k) := fun e => h (pl_inj hd hp hk e)
    simp [this]
/-- Whatever the order, the same ones are ranked alike. -/
theorem rnk_perm {A B : List Cand} : ∀ (n : Nat) (ps qs : List Int), ps.length ≤ n → Ok A ps → Ok B qs → (ps.map (cd A)).Perm (qs.map (cd B)) → Dis (ps.map (cd A)) → (rnk A ps).map (cd A) = (rnk B qs).map (cd B) := by
  intro n
  induction n with
  | zero =>
    intro ps qs hn _ _ hp _
    have he : ps = [] := List.eq_nil_of_length_eq_zero (by omega)
    subst he
    have : qs = [] := List.map_eq_nil_iff.1 (List.nil_perm.1 hp)
    subst this
    rfl
  | succ n ih =>
    intro ps qs hn hok hok2 hp hd
    by_cases he : ps = []
    · subst he; exact ih [] qs (by simp) hok hok2 hp hd
    · have he2 : qs ≠ [] := fun e => he (by rw [e] at hp; exact List.map_eq_nil_iff.1 (List.perm_nil.1 hp))
      have hc : cd A (amg A ps) = cd B (amg B qs) := by rw [cd_amg he hok, cd_amg he2 hok2, camg_perm hp hd]
      have hlt := rest_lt A he
      have hd2 := hd.perm hp
      rw [rnk_cons A he, rnk_cons B he2, List.map_cons, List.map_cons, hc]
      congr 1
      refine ih _ _ (by omega) (hok.sub fun k hk => (List.mem_filter.1 hk).1) (hok2.sub fun k hk => (List.mem_filter.1 hk).1) ?_ ?_
      · rw [rest_c hd (amg_mem he), rest_c hd2 (amg_mem he2), hc]
        exact hp.filter _
      · rw [rest_c hd (amg_mem he)]
        exact hd.filter _
theorem nodup_filter {ps : List Int} (h : ps.Nodup) (p : Int → Bool) : (ps.filter p).Nodup := List.Nodup.sublist List.filter_sublist h
/-- Each once. -/
theorem rnk_self {A : List Cand} : ∀ (n : Nat) (ps : List Int), ps.length ≤ n → ps.Nodup → (rnk A ps).Perm ps := by
  intro n
  induction n with
  | zero =>
    intro ps hn _
    have he : ps = [] := List.eq_nil_of_length_eq_zero (by omega)
    subst he
    exact List.Perm.refl _
  | succ n ih =>
    intro ps hn hnd
    by_cases he : ps = []
    · subst he; exact List.Perm.refl _
    · have hlt := rest_lt A he
      rw [rnk_cons A he]
      have h1 := List.perm_cons_erase (amg_mem (A := A) he)
      rw [hnd.erase_eq_filter] at h1
      have e : ps.filter (nx (amg A ps)) = ps.filter fun x => x != amg A ps := by
        refine List.filter_congr fun p _ => ?_
        by_cases h : p = amg A ps
        · rw [h, nx_self]; simp
        · rw [nx_ne h]; simpa using h
      rw [← e] at h1
      exact ((ih _ (by omega) (nodup_filter hnd _)).cons _).trans h1.symm
end Go.Proofs.Ytaniibilgdhdiaa.PE

/- Chapter 21: whatever the order in which candidates of unlike peers stand, the best one is the same, and so are they ranked. -/
namespace Go.Proofs.Ytaniibilgdhdiaa.PF
open Go Go.Proofs Go.Proofs.Ytaniibilgdhdiaa.PA Go.Proofs.Ytaniibilgdhdiaa.PO Go.Proofs.Ytaniibilgdhdiaa.PC Go.Proofs.Ytaniibilgdhdiaa.PD Go.Proofs.Ytaniibilgdhdiaa.PE Go.Proofs.Ytaniibilgdhdiaa.Sx
set_option linter.unusedSimpArgs false
set_option linter.unusedVariables false
/-- A candidate of another peer. -/
def setp (c : Cand) (i : Int) : Cand := (c.1, c.2.1, c.2.2.1, c.2.2.2.1, c.2.2.2.2.1, c.2.2.2.2.2.1, c.2.2.2.2.2.2.1, c.2.2.2.2.2.2.2.1, i)
def un (l : List Cand) (n : Nat) : List Cand := (List.range (min n 12)).map fun (j : Nat) => setp (cd l (j : Int)) (j : Int)
theorem un_len (l : List Cand) (n : Nat) : (un l n).length = min n 12 := by simp [un]
theorem unlike {l : List Cand} (hl : l.length ≤ 9223372036854775807) : F9.f l = some (un l l.length, ()) := by
  have key : F9.l1 (l, (l.length : Int)) ([], 0) = some (un l l.length, ()) := by
    refine loopN (S := fun i => (un l i, (i : Int))) l.length (fun i hi => ?_) ?_
    · show F9.r1P (l, (l.length : Int)) (un l i, (i : Int)) = _
      unfold F9.r1P
      have hul := un_len l i
      have c1 : decide ((i : Int) < (l.length : Int)) = true := decide_eq_true (by omega)
      simp only [c1, (at_ok hi).1, (at_ok hi).2, cond_true]
      rw [wrap64_id (n := (i : Int) + 1) (by omega)]
      by_cases h12 : i < 12
      · have c2 : decide ((i : Int) < 12) = true := decide_eq_true (by omega)
        have e : un l (i + 1) = un l i ++ [setp (cd l (i : Int)) (i : Int)] := by
          unfold un
          rw [show min (i + 1) 12 = min i 12 + 1 by omega, List.range_succ, List.map_append, show min i 12 = i by omega]
          rfl
        have ha := app_ok (l := un l i) (x := setp (cd l (i : Int)) (i : Int)) (by omega)
        have e2 : ((l.getD (0 + (i : Int).toNat) z0).fst, (l.getD (0 + (i : Int).toNat) z0).snd.fst, (l.getD (0 + (i : Int).toNat) z0).snd.snd.fst, (l.getD (0 + (i : Int).toNat) z0).snd.snd.snd.fst, (l.getD (0 + (i : Int).toNat) z0).snd.snd.snd.snd.fst, (l.getD (0 + (i : Int).toNat) z0).snd.snd.snd.snd.snd.fst, (l.getD (0 + (i : Int).toNat) z0).snd.snd.snd.snd.snd.snd.fst, (l.getD (0 + (i : Int).toNat) z0).snd.snd.snd.snd.snd.snd.snd.fst, (i : Int)) = setp (cd l (i : Int)) (i : Int) := rfl
        simp only [z0] at e2
        simp only [c2, cond_true, List.take_length, e2, ha.1, ha.2.1, ha.2.2, le_all, Bool.and_true]
        rw [e]
        rfl
      · have c2 : decide ((i : Int) < 12) = false := decide_eq_false (by omega)
        have e : un l (i + 1) = un l i := by unfold un; rw [show min (i + 1) 12 = min i 12 by omega]
        simp only [c2, cond_false, cond_true, le_all, Bool.and_true, List.take_length]
        rw [e]
        rfl
    · show F9.r1P (l, (l.length : Int)) (un l l.length, (l.length : Int)) = _
      unfold F9.r1P
      have c1 : decide ((l.length : Int) < (l.length : Int)) = false := decide_eq_false (by omega)
      simp only [c1, cond_false, cond_true, le_all, Bool.and_true, List.take_length]
  unfold F9.f F9.fP
  simp only [le_all, cond_true, Bool.and_true, List.take_length, key, Option.bind_some, take_all]
theorem clone {A : List Cand} (hA : A.length ≤ 1000000) : F12.f A = some (A, ()) := by
  unfold F12.f
  by_cases h0 : 0 < A.length
  · rw [if_pos h0]
    unfold F12.fP
    have c1 : decide (0 < A.length) = true := decide_eq_true h0
    have c2 : decide (0 + A.length ≤ 1073741824) = true := decide_eq_true (by omega)
    have c3 : decide (A.length ≤ 1073741824) = true := decide_eq_true (by omega)
    simp only [c1, cond_true, le_all, List.take_length, c2, c3, Nat.zero_add, List.nil_append, decide_true, Bool.and_true, Nat.le_refl, List.drop_zero]
  · rw [if_neg h0]
    have : A = [] := List.eq_nil_of_length_eq_zero (by omega)
    rw [this]
theorem un_peer (l : List Cand) (n : Nat) : (un l n).map peer = (List.range (min n 12)).map fun (j : Nat) => (j : Int) := by
  unfold un
  rw [List.map_map]
  rfl
theorem ints_nodup (n : Nat) : ((List.range n).map fun (j : Nat) => (j : Int)).Nodup := by
  unfold List.Nodup
  rw [List.pairwise_map]
  exact List.Pairwise.imp (fun h e => h (Int.ofNat.inj e)) List.nodup_range
theorem un_dis (l : List Cand) (n : Nat) : Dis (un l n) := by
  unfold Dis
  rw [un_peer]
  exact ints_nodup _
theorem pls_nodup (n : Nat) : (pls n).Nodup := ints_nodup n
theorem pls_map (A : List Cand) : (pls A.length).map (cd A) = A := by
  apply List.ext_getElem
  · simp [pls]
  · intro i h1 h2
    simp only [pls, List.map_map, List.getElem_map, List.getElem_range, Function.comp]
    unfold cd
    rw [show 0 + (i : Int).toNat = i by omega, List.getD_eq_getElem?_getD, List.getElem?_eq_getElem h2]
    rfl
theorem n1 {A : List Cand} (hA : A.length ≤ 1000000) : F5.l1 A () = some (A, ()) := by
  unfold F5.l1 F5.r1 F5.r1P
  simp only [le_all, cond_true, Bool.and_true, List.take_length, clone hA, Option.bind_some, take_all]
theorem swap_perm {m : List Cand} {i j : Nat} (hi : i < m.length) (hj : j < m.length) : ((m.set i m[j]).set j m[i]).Perm m := by
  have h := Array.perm_iff_toList_perm.1 (Array.swap_perm (xs := m.toArray) (i := i) (j := j) (by simpa using hi) (by simpa using hj))
  rw [Array.toList_swap] at h
  simpa using h
theorem cd_at {m : List Cand} {i : Nat} (hi : i < m.length) : cd m (i : Int) = m[i] := by
  unfold cd
  rw [show 0 + (i : Int).toNat = i by omega, List.getD_eq_getElem?_getD, List.getElem?_eq_getElem hi]
  rfl
theorem eta9 (c : Cand) : (c.1, c.2.1, c.2.2.1, c.2.2.2.1, c.2.2.2.2.1, c.2.2.2.2.2.1, c.2.2.2.2.2.2.1, c.2.2.2.2.2.2.2.1, c.2.2.2.2.2.2.2.2) = c := rfl
theorem n4 {m : List Cand} {i j : Nat} (hi : i < m.length) (hj : j < m.length) : F5.l4 ((i : Int), (j : Int)) m = some ((m.set i m[j]).set j m[i], ()) := by
  unfold F5.l4 F5.r4 F5.r4P
  have ei : 0 + (i : Int).toNat = i := by omega
  have ej : 0 + (j : Int).toNat = j := by omega
  have gi : m.getD i z0 = m[i] := by rw [List.getD_eq_getElem?_getD, List.getElem?_eq_getElem hi]; rfl
  have gj : m.getD j z0 = m[j] := by rw [List.getD_eq_getElem?_getD, List.getElem?_eq_getElem hj]; rfl
  simp only [z0] at gi gj
  have ci : decide ((0 : Int) ≤ (i : Int) ∧ (i : Int) < (m.length : Int) ∧ 0 < m.length) = true := (at_ok hi).1
  have cj : decide ((0 : Int) ≤ (j : Int) ∧ (j : Int) < (m.length : Int) ∧ 0 < m.length) = true := (at_ok hj).1
  have di : decide (i < m.length) = true := decide_eq_true hi
  have dj : decide (j < m.length) = true := decide_eq_true hj
  simp only [ei, ej, ci, cj, di, dj, gi, gj, eta9, List.length_set, cond_true, le_all, Bool.and_true, List.drop_zero]
  rw [List.take_of_length_le (by simp)]
theorem tm {x n : Int} (h0 : 0 ≤ x) (hn : 0 < n) : 0 ≤ x.tmod n ∧ x.tmod n < n := by
  rw [Int.tmod_eq_emod_of_nonneg h0]
  exact ⟨Int.emod_nonneg _ (by omega), Int.emod_lt_of_pos _ hn⟩
theorem n5 {A : List Cand} {sw : List Int} (hA : A.length ≤ 1000000) (hs : ∀ x ∈ sw, 0 ≤ x ∧ x ≤ 255) (hsl : sw.length ≤ 9223372036854775807) : ∃ m, F5.l5 (sw, (sw.length : Int)) (A, 0) = some (m, ()) ∧ m.Perm A := by
  obtain ⟨r, e, m, hp, rfl⟩ := iterO_inv (f := F5.r5 (sw, (sw.length : Int))) (fun z => ∃ i : Nat, z.2 = (i : Int) ∧ i ≤ sw.length ∧ z.1.Perm A) (fun z => sw.length - z.2.toNat) (fun r => ∃ m : List Cand, m.Perm A ∧ r = (m, ())) (by
    rintro ⟨m, t⟩ ⟨i, h1, h2, h3⟩
    simp only at h1 h3
    subst h1
    have hml : m.length ≤ 1000000 := by rw [h3.length_eq]; exact hA
    show (∃ a', F5.r5P F9.f F12.f F7.f F13.f F5.l2 F5.l3 F5.l4 (sw, (sw.length : Int)) (m, (i : Int)) = some (.inl a') ∧ _) ∨ ∃ b, F5.r5P F9.f F12.f F7.f F13.f F5.l2 F5.l3 F5.l4 (sw, (sw.length : Int)) (m, (i : Int)) = some (.inr b) ∧ _
    unfold F5.r5P
    by_cases hi : i < sw.length
    · have c1 : decide ((i : Int) < (sw.length : Int)) = true := decide_eq_true (by omega)
      have h2x : F5.l2 (m, (i : Int)) () = some (((i : Int) == 30) || ((m.length : Int) == 0), ()) := by
        unfold F5.l2 F5.r2 F5.r2P
        cases h30 : ((i : Int) == 30) <;> simp only [h30, cond_true, cond_false, Bool.true_or, Bool.false_or]
      by_cases hb : (((i : Int) == 30) || ((m.length : Int) == 0)) = true
      · right
        refine ⟨(m, ()), ?_, m, h3, rfl⟩
        simp only [c1, (at_ok hi).1, (at_ok hi).2, cond_true, getI hi, le_all, Bool.and_true, List.take_length, h2x, Option.bind_some, hb]
      · left
        have hb : (((i : Int) == 30) || ((m.length : Int) == 0)) = false := by simpa using hb
        have hm0 : 0 < m.length := by
          rw [Bool.or_eq_false_iff, beq_eq_false_iff_ne, beq_eq_false_iff_ne] at hb
          omega
        have hx := hs sw[i] (List.getElem_mem hi)
        obtain ⟨a, ha⟩ := Int.eq_ofNat_of_zero_le (tm (x := (i : Int)) (n := (m.length : Int)) (by omega) (by omega)).1
        obtain ⟨b, hbb⟩ := Int.eq_ofNat_of_zero_le (tm (x := sw[i]) (n := (m.length : Int)) (by omega) (by omega)).1
        have ha2 := (tm (x := (i : Int)) (n := (m.length : Int)) (by omega) (by omega)).2
        have hb2 := (tm (x := sw[i]) (n := (m.length : Int)) (by omega) (by omega)).2
        have hal : a < m.length := by omega
        have hbl : b < m.length := by omega
        have h3x : F5.l3 (m, (i : Int), sw[i]) () = some (((a : Int), (b : Int)), ()) := by
          unfold F5.l3 F5.r3 F5.r3P
          have c2 : decide ((m.length : Int) ≠ 0) = true := decide_eq_true (by omega)
          simp only [wrap64_id (n := sw[i]) (by omega), c2, cond_true, ha, hbb]
        refine ⟨((m.set a m[b]).set b m[a], ((i + 1 : Nat) : Int)), ?_, ⟨i + 1, rfl, by omega, (swap_perm hal hbl).trans h3⟩, by simp only [Int.toNat_natCast]; omega⟩
        simp only [c1, (at_ok hi).1, (at_ok hi).2, cond_true, cond_false, getI hi, le_all, Bool.and_true, List.take_length, h2x, Option.bind_some, hb, h3x, n4 hal hbl, take_all]
        rw [wrap64_id (n := (i : Int) + 1) (by omega)]
        rfl
    · right
      have c1 : decide ((i : Int) < (sw.length : Int)) = false := decide_eq_false (by omega)
      refine ⟨(m, ()), ?_, m, h3, rfl⟩
      simp only [c1, cond_true, cond_false, le_all, Bool.and_true, List.take_length]) (A, 0) ⟨0, rfl, by omega, List.Perm.refl _⟩
  exact ⟨m, e, hp⟩
theorem n6 {A m : List Cand} (hA : A.length ≤ 1000000) (hm : m.length ≤ 1000000) : F5.l6 A m = some ((m, amg A (pls A.length), amg m (pls m.length)), ()) := by
  unfold F5.l6 F5.r6 F5.r6P
  simp only [le_all, cond_true, Bool.and_true, List.take_length, bestF hA, bestF hm, Option.bind_some]
theorem eqs (c : Cand) : (c.1 == c.1 && (c.2.1 == c.2.1 && (c.2.2.1 == c.2.2.1 && (c.2.2.2.1 == c.2.2.2.1 && (c.2.2.2.2.1 == c.2.2.2.2.1 && (c.2.2.2.2.2.1 == c.2.2.2.2.2.1 && (c.2.2.2.2.2.2.1 == c.2.2.2.2.2.2.1 && (c.2.2.2.2.2.2.2.1 == c.2.2.2.2.2.2.2.1 && (c.2.2.2.2.2.2.2.2 == c.2.2.2.2.2.2.2.2 && true))))))))) = true := by simp
theorem n7 {A m : List Cand} {a b : Int} (ha : 0 ≤ a ∧ a < (A.length : Int)) (hb : 0 ≤ b ∧ b < (m.length : Int)) (he : cd A a = cd m b) : F5.l7 (A, m, a, b) () = some (false, ()) := by
  unfold F5.l7 F5.r7 F5.r7P
  unfold cd at he
  simp only [z0] at he
  have c1 : decide (a < 0) = false := decide_eq_false (by omega)
  have c2 : decide (a ≥ (A.length : Int)) = false := decide_eq_false (by omega)
  have c3 : decide (b < 0) = false := decide_eq_false (by omega)
  have c4 : decide (b ≥ (m.length : Int)) = false := decide_eq_false (by omega)
  simp only [c1, c2, c3, c4, cond_false, (in_ok ha).1, (in_ok ha).2, (in_ok hb).1, (in_ok hb).2, cond_true, he, eqs]
  rfl
theorem n8 {A m : List Cand} (hA : A.length ≤ 1000000) (hm : m.length ≤ 1000000) : F5.l8 A m = some ((m, rnk A (pls A.length), rnk m (pls m.length)), ()) := by
  unfold F5.l8 F5.r8 F5.r8P
  simp only [le_all, cond_true, Bool.and_true, List.take_length, ranked hA, ranked hm, Option.bind_some, take_all]
theorem n9 {A : List Cand} {x y : List Int} (hx : x.length = A.length) (hy : y.length = A.length) : F5.l9 (A, x, y) () = some (false, ()) := by
  unfold F5.l9 F5.r9 F5.r9P
  have c1 : ((x.length : Int) != (A.length : Int)) = false := by rw [hx]; simp
  have c2 : ((y.length : Int) != (A.length : Int)) = false := by rw [hy]; simp
  simp only [c1, c2, cond_false]
/-- What has been seen. -/
def sn (x : List Int) (n k : Nat) : List Bool := (List.range n).map fun (p : Nat) => decide ((p : Int) ∈ x.take k)
theorem n10 {A : List Cand} (hA : A.length ≤ 1000000) (x : List Int) : F5.l10 A () = some (sn x A.length 0, ()) := by
  unfold F5.l10 F5.r10 F5.r10P
  have e : sn x A.length 0 = List.replicate A.length false := by
    unfold sn
    rw [List.eq_replicate_iff]
    simp
  have e1 : (A.length : Int).toNat = A.length := by omega
  have c1 : decide ((0 : Int) ≤ (A.length : Int) ∧ (A.length : Int) ≤ (A.length : Int) ∧ (A.length : Int) ≤ 1073741824 ∧ (↑(OfNat.ofNat (1 : Nat)) : Int) * (A.length : Int) ≤ 281474976710656) = true := decide_eq_true (by
    have : (↑(OfNat.ofNat (1 : Nat)) : Int) = 1 := rfl
    rw [this]; omega)
  have c2 : decide (0 + A.length ≤ (List.replicate A.length false).length) = true := decide_eq_true (by simp)
  simp only [c1, e1, c2, cond_true, Bool.and_true, List.drop_zero]
  rw [List.take_of_length_le (by simp), e]
section
variable {A m : List Cand} {x y : List Int} (hA : A.length ≤ 1000000) (hxl : x.length = A.length) (hyl : y.length = A.length) (hml : m.length = A.length) (hx : Ok A x) (hy : Ok m y) (hnd : x.Nodup) (he : x.map (cd A) = y.map (cd m))
include hA hxl hyl hml hx hy hnd he
theorem n11 {k : Nat} (hk : k < x.length) : F5.l11 (A, m, x, y, sn x A.length k, (k : Int)) () = some (false, ()) := by
  have hky : k < y.length := by omega
  have hxk := hx x[k] (List.getElem_mem hk)
  have hyk := hy y[k] (List.getElem_mem hky)
  have hek : cd A x[k] = cd m y[k] := by
    have h1 : (x.map (cd A))[k]'(by simpa using hk) = (y.map (cd m))[k]'(by simpa using hky) := by simp only [he]
    simpa using h1
  unfold cd at hek
  simp only [z0] at hek
  have hsl : (sn x A.length k).length = A.length := by simp [sn]
  have hseen : (sn x A.length k).getD (0 + x[k].toNat) false = false := by
    have hlt : x[k].toNat < (sn x A.length k).length := by rw [hsl]; omega
    rw [Nat.zero_add, List.getD_eq_getElem?_getD, List.getElem?_eq_getElem hlt]
    simp only [sn, List.getElem_map, List.getElem_range, Option.getD_some, decide_eq_false_iff_not]
    rw [show ((x[k].toNat : Nat) : Int) = x[k] by omega]
    intro hmem
    obtain ⟨j, hj, hj2⟩ := List.getElem_of_mem hmem
    rw [List.length_take] at hj
    rw [List.getElem_take] at hj2
    have := (List.nodup_iff_pairwise_ne.1 hnd)
    have hne := List.pairwise_iff_getElem.1 hnd j k (by omega) hk (by omega)
    exact hne hj2
  unfold F5.l11 F5.r11 F5.r11P
  have c1 : decide (x[k] < 0) = false := decide_eq_false (by omega)
  have c2 : decide (x[k] ≥ (A.length : Int)) = false := decide_eq_false (by omega)
  have c3 : decide (y[k] < 0) = false := decide_eq_false (by omega)
  have c4 : decide (y[k] ≥ (A.length : Int)) = false := decide_eq_false (by omega)
  have c5 : decide (0 ≤ x[k] ∧ x[k] < ((sn x A.length k).length : Int) ∧ 0 < (sn x A.length k).length) = true := decide_eq_true (by rw [hsl]; omega)
  have c6 : decide (0 + x[k].toNat < (sn x A.length k).length) = true := decide_eq_true (by rw [hsl]; omega)
  simp only [(at_ok hk).1, (at_ok hk).2, (at_ok hky).1, (at_ok hky).2, getI hk, getI hky, c1, c2, c3, c4, c5, c6, hseen, cond_true, cond_false, (in_ok hxk).1, (in_ok hxk).2, (in_ok hyk).1, (in_ok hyk).2, hek, eqs]
  rfl
omit hyl hml hy hnd he in
theorem n12 {k : Nat} (hk : k < x.length) : F5.l12 (x, (k : Int)) (sn x A.length k) = some (sn x A.length (k + 1), ()) := by
  have hxk := hx x[k] (List.getElem_mem hk)
  have hsl : (sn x A.length k).length = A.length := by simp [sn]
  unfold F5.l12 F5.r12 F5.r12P
  have c5 : decide (0 ≤ x[k] ∧ x[k] < ((sn x A.length k).length : Int) ∧ 0 < (sn x A.length k).length) = true := decide_eq_true (by rw [hsl]; omega)
  have c6 : decide (0 + x[k].toNat < (sn x A.length k).length) = true := decide_eq_true (by rw [hsl]; omega)
  have c7 : decide (0 + (sn x A.length k).length ≤ ((sn x A.length k).set (0 + x[k].toNat) true).length) = true := decide_eq_true (by simp)
  simp only [(at_ok hk).1, (at_ok hk).2, getI hk, c5, c6, c7, cond_true, Bool.and_true, List.drop_zero]
  rw [List.take_of_length_le (by simp)]
  congr 2
  apply List.ext_getElem
  · simp [sn]
  · intro p h1 h2
    rw [List.getElem_set]
    simp only [sn, List.getElem_map, List.getElem_range]
    rw [take_snoc hk]
    simp only [List.mem_append, List.mem_singleton]
    by_cases h : 0 + x[k].toNat = p
    · rw [if_pos h]
      have : (p : Int) = x[k] := by omega
      simp [this]
    · rw [if_neg h]
      have : ¬ (p : Int) = x[k] := by omega
      simp [this]
theorem n13 : F5.l13 (A, m, x, y, (x.length : Int)) (sn x A.length 0, 0) = some ((0, false), ()) := by
  refine loopN (S := fun k => (sn x A.length k, (k : Int))) x.length (fun k hk => ?_) ?_
  · show F5.r13P F9.f F12.f F7.f F13.f F5.l11 F5.l12 (A, m, x, y, (x.length : Int)) (sn x A.length k, (k : Int)) = _
    unfold F5.r13P
    have c1 : decide ((k : Int) < (x.length : Int)) = true := decide_eq_true (by omega)
    simp only [c1, le_all, cond_true, Bool.and_true, List.take_length, n11 hA hxl hyl hml hx hy hnd he hk, Option.bind_some, cond_false, n12 hA hxl hx hk, take_all]
    rw [wrap64_id (n := (k : Int) + 1) (by omega)]
    rfl
  · show F5.r13P F9.f F12.f F7.f F13.f F5.l11 F5.l12 (A, m, x, y, (x.length : Int)) (sn x A.length x.length, (x.length : Int)) = _
    unfold F5.r13P
    have c1 : decide ((x.length : Int) < (x.length : Int)) = false := decide_eq_false (by omega)
    simp only [c1, cond_false]
end
theorem n14 {a : Int} {xs : List Int} : F5.l14 (a, a :: xs) () = some (true, ()) := by
  unfold F5.l14 F5.r14 F5.r14P
  have c1 : decide ((0 : Int) ≤ 0 ∧ (0 : Int) < (((a :: xs).length : Nat) : Int) ∧ 0 < (a :: xs).length) = true := decide_eq_true (by simp)
  have c2 : decide (0 < (a :: xs).length) = true := decide_eq_true (by simp)
  have c3 : ((a :: xs).getD 0 0 == a) = true := by simp
  simp only [c1, c2, c3, cond_true]
theorem law (l : List Cand) (sw : List Int) (hl : l.length ≤ 9223372036854775807) (hs : ∀ x ∈ sw, 0 ≤ x ∧ x ≤ 255) (hsl : sw.length ≤ 9223372036854775807) : F5.f (l, sw) = some (true, ()) := by
  have hun := unlike hl
  have hAl : (un l l.length).length ≤ 1000000 := by rw [un_len]; omega
  have hd := un_dis l l.length
  generalize un l l.length = A at *
  obtain ⟨m, hm5, hp⟩ := n5 hAl hs hsl
  have hml : m.length = A.length := hp.length_eq
  have hml2 : m.length ≤ 1000000 := by omega
  have hpm : ((pls A.length).map (cd A)).Perm ((pls m.length).map (cd m)) := by rw [pls_map, pls_map]; exact hp.symm
  have hdA : Dis ((pls A.length).map (cd A)) := by rw [pls_map]; exact hd
  unfold F5.f F5.fP
  simp only [le_all, cond_true, Bool.and_true, List.take_length, hun, Option.bind_some, take_all, n1 hAl, hm5, n6 hAl hml2]
  by_cases h0 : A = []
  · have hm0 : m = [] := List.eq_nil_of_length_eq_zero (by rw [hml, h0]; rfl)
    rw [h0, hm0]
    rfl
  · have hpos : 0 < A.length := by
      cases A with
      | nil => exact absurd rfl h0
      | cons _ _ => simp
    have hA0 : ((A.length : Int) == 0) = false := by rw [beq_eq_false_iff_ne]; omega
    have hne : pls A.length ≠ [] := by
      intro e
      have h5 : (pls A.length).length = A.length := by simp [pls]
      rw [e, List.length_nil] at h5
      omega
    have hne2 : pls m.length ≠ [] := by rw [hml]; exact hne
    have ha := pls_ok A _ (amg_mem (A := A) hne)
    have hb := pls_ok m _ (amg_mem (A := m) hne2)
    have hab : cd A (amg A (pls A.length)) = cd m (amg m (pls m.length)) := by
      rw [cd_amg hne (pls_ok A), cd_amg hne2 (pls_ok m), camg_perm hpm hdA]
    have hx := rnk_self (A := A) _ _ (Nat.le_refl (pls A.length).length) (pls_nodup _)
    have hy := rnk_self (A := m) _ _ (Nat.le_refl (pls m.length).length) (pls_nodup _)
    have hxy := rnk_perm (A := A) (B := m) _ (pls A.length) (pls m.length) (Nat.le_refl _) (pls_ok A) (pls_ok m) hpm hdA
    have hxl : (rnk A (pls A.length)).length = A.length := by rw [hx.length_eq]; simp [pls]
    have hyl : (rnk m (pls m.length)).length = A.length := by rw [hy.length_eq]; simp [pls, hml]
    have hxo : Ok A (rnk A (pls A.length)) := fun k hk => pls_ok A k (hx.mem_iff.1 hk)
    have hyo : Ok m (rnk m (pls m.length)) := fun k hk => pls_ok m k (hy.mem_iff.1 hk)
    have hxn : (rnk A (pls A.length)).Nodup := hx.nodup_iff.2 (pls_nodup _)
    have h14 : F5.l14 (amg A (pls A.length), rnk A (pls A.length)) () = some (true, ()) := by
      rw [rnk_cons A hne]; exact n14
    have hxl' := hxl
    simp only [hA0, cond_false, n7 ha hb hab, Option.bind_some, n8 hAl hml2, n9 hxl hyl, n10 hAl (rnk A (pls A.length)), le_all, cond_true, Bool.and_true, List.take_length, take_all,
      n13 hAl hxl hyl hml hxo hyo hxn hxy, h14]
    rfl
theorem orders (d : Den F5.i) (hd : wfD F5.i d) : ∃ q, F5.f d = some (true, q) := by
  obtain ⟨l, sw⟩ := d
  have h2 : ∀ x ∈ sw, 0 ≤ x ∧ x ≤ 255 := fun x hx => (hd.2.1.2 x hx).1
  exact ⟨(), law l sw (Nat.le_trans hd.1.1 (by decide)) h2 (Nat.le_trans hd.2.1.1 (by decide))⟩
end Go.Proofs.Ytaniibilgdhdiaa.PF
