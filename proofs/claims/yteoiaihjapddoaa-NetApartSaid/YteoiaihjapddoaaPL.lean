/- Chapter 29: links apart: the law. -/
import Derived.Test.YteoiaihjapddoaaPK
namespace Go.Proofs.Yteoiaihjapddoaa.PL
open Go Go.Proofs Go.Proofs.Yteoiaihjapddoaa.Sx Go.Proofs.Yteoiaihjapddoaa.PH Go.Proofs.Yteoiaihjapddoaa.PI Go.Proofs.Yteoiaihjapddoaa.PJ Go.Proofs.Yteoiaihjapddoaa.PK
set_option linter.unusedSimpArgs false
set_option linter.unusedVariables false
abbrev O : Lk := (false, 0, [], [])
abbrev U : Lk := (true, 0, [], [])
theorem a0 : F9.f ([], true) = some ((0, 0), [O], true) := PA.f9
theorem a1 : F9.f ([O], true) = some ((1, 0), [O, O], true) := by
  show F9.fP _ = _
  unfold F9.fP
  simp
  decide
theorem a2 : F9.f ([O, O], true) = some ((2, 0), [O, O, O], true) := by
  show F9.fP _ = _
  unfold F9.fP
  simp
  decide
theorem a3 : F9.f ([O, O, O], true) = some ((3, 0), [O, O, O, O], true) := by
  show F9.fP _ = _
  unfold F9.fP
  simp
  decide
theorem u0 : F10.f (([O, O, O, O], true), 0) = some (0, [U, O, O, O], true) := f10 ⟨rfl, by decide, by decide, rfl⟩
theorem u1 : F10.f (([U, O, O, O], true), 1) = some (0, [U, U, O, O], true) := f10 ⟨rfl, by decide, by decide, rfl⟩
theorem u2 : F10.f (([U, U, O, O], true), 2) = some (0, [U, U, U, O], true) := f10 ⟨rfl, by decide, by decide, rfl⟩
theorem u3 : F10.f (([U, U, U, O], true), 3) = some (0, [U, U, U, U], true) := f10 ⟨rfl, by decide, by decide, rfl⟩
theorem at4 (j : Int) (h0 : 0 ≤ j) (h4 : j < 4) : At [U, U, U, U] j U := by
  refine ⟨rfl, h0, h4, ?_⟩
  have : j = 0 ∨ j = 1 ∨ j = 2 ∨ j = 3 := by omega
  rcases this with rfl | rfl | rfl | rfl <;> rfl
theorem wellU : Well U ((0 : Nat) : Int) := ⟨⟨by decide, by decide⟩, by decide, by decide⟩
theorem apart (d : Den F4.i) (hd : wfD F4.i d) : ∃ q, F4.f d = some (true, q) := by
  obtain ⟨l, link⟩ := d
  have hl : 0 ≤ link ∧ link ≤ 255 := hd.2.1
  have hk : 0 ≤ IntKind.i64.wrap (link.tmod 4) ∧ IntKind.i64.wrap (link.tmod 4) < 4 := by
    rw [IntWalk.rem_in _ _ hl.1, IntWalk.i64_in _ (by omega)]
    omega
  refine ⟨(), ?_⟩
  show F4.fP F9.f F10.f F15.f F11.f F13.f F16.f F12.f F17.f F18.f F4.l3 (l, link) = _
  unfold F4.fP
  dsimp only
  generalize IntKind.i64.wrap (link.tmod 4) = k at hk ⊢
  obtain ⟨r, e, h1, h2, h3⟩ := iterO_inv (f := F4.r3 (k, l, (l.length : Int))) (Inv k l.length) (fun z => 80 - z.2.2.toNat) (fun b => b.1.1 = 0 ∧ b.2.1.1.length = 4 ∧ b.2.2.1.length = 4) (fun z h => round k hk l z h)
    (([U, U, U, U], true), ([U, U, U, U], true), 0) ⟨_, _, 0, rfl, by omega, by omega, rfl, rfl, ⟨U, at4 k hk.1 hk.2, at4 k hk.1 hk.2, wellU⟩, fun j j0 j4 _ => ⟨U, at4 j j0 j4, wellU⟩⟩
  have e' : F4.l3 (k, l, (l.length : Int)) (([U, U, U, U], true), ([U, U, U, U], true), 0) = some r := e
  simp only [a0, a1, a2, a3, u0, u1, u2, u3, Option.bind_some, le_all, List.take_length, Bool.and_true, cond_true, e', h1, h2, h3, decide_true]
  rfl
end Go.Proofs.Yteoiaihjapddoaa.PL
