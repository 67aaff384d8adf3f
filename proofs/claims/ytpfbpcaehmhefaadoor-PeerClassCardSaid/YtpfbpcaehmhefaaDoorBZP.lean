/- The engine, part P: rules for loops' functions; small rules. Plain Lean. -/
import Derived.Test.YtpfbpcaehmhefaaDoorBZI
import Derived.IntWalk
namespace Go.Proofs.YtpfbpcaehmhefaaDoorB.Sx
open Go.RowKit
/-- A loop, by what stands at its head. -/
theorem iterO_inv {α β : Type} {f : α → Option (α ⊕ β)} (I : α → Prop) (mu : α → Nat) (Q : β → Prop)
    (h : ∀ a, I a → (∃ a', f a = some (.inl a') ∧ I a' ∧ mu a' < mu a) ∨ (∃ b, f a = some (.inr b) ∧ Q b)) (a : α) (ha : I a) : ∃ b, iterO f a = some b ∧ Q b := by
  have key : ∀ n a, mu a < n → I a → ∃ b, iterO f a = some b ∧ Q b := by
    intro n
    induction n with
    | zero => intro a h; omega
    | succ n ih =>
      intro a hm ha
      rcases h a ha with ⟨a', h1, h2, h3⟩ | ⟨b, h1, h2⟩
      · obtain ⟨b, h4, h5⟩ := ih a' (by omega) h2
        exact ⟨b, by rw [iterO_eq, h1]; exact h4, h5⟩
      · exact ⟨b, by rw [iterO_eq, h1], h2⟩
  exact key _ a (Nat.lt_succ_self _) ha
theorem iterO_step {α β : Type} {f : α → Option (α ⊕ β)} {a a' : α} (h : f a = some (.inl a')) : iterO f a = iterO f a' := by rw [iterO_eq, h]
theorem iterO_done {α β : Type} {f : α → Option (α ⊕ β)} {a : α} {b : β} (h : f a = some (.inr b)) : iterO f a = some b := by rw [iterO_eq, h]
theorem wrap64_id {n : Int} (h : -9223372036854775808 ≤ n ∧ n ≤ 9223372036854775807) : IntKind.i64.wrap n = n := IntWalk.i64_in n h
end Go.Proofs.YtpfbpcaehmhefaaDoorB.Sx
