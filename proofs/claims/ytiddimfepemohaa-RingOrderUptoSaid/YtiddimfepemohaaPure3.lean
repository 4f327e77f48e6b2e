/- Loops that end since a measure falls. -/
import Derived.Test.YtiddimfepemohaaPure2
open Go Go.Proofs.Ytiddimfepemohaa.Sy
set_option linter.unusedVariables false
namespace Go.Proofs.Ytiddimfepemohaa.Pu
/-- A loop that ends since a measure falls. -/
theorem loop_meas {X Z : Type} {B : X → Option (X ⊕ Z)} (I : X → Prop) (μ : X → Nat) (Q : Z → Prop) (h : ∀ x, I x → (∃ x', B x = some (.inl x') ∧ I x' ∧ μ x' < μ x) ∨ ∃ z, B x = some (.inr z) ∧ Q z) : ∀ n x, μ x = n → I x → ∃ z, loopO B x = some z ∧ Q z := by
  intro n
  induction n using Nat.strongRecOn with
  | ind n ih =>
    intro x hx hI
    rcases h x hI with ⟨x', h1, h2, h3⟩ | ⟨z, h1, h2⟩
    · rw [loopO_next h1]
      exact ih (μ x') (by omega) x' rfl h2
    · exact ⟨z, loopO_done h1, h2⟩
end Go.Proofs.Ytiddimfepemohaa.Pu
