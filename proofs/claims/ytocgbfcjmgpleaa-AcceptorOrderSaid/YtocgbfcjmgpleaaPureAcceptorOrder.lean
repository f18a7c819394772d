/- Ballots are in one order: the plain statement. -/
import Derived.Test.YtocgbfcjmgpleaaKinds
import Derived.Test.YtocgbfcjmgpleaaPlain
import Derived.Test.YtocgbfcjmgpleaaPx10
namespace Go.Proofs.Ytocgbfcjmgpleaa.P
open Go.RowKit Go.Proofs.YtocgbfcjmgpleaaW.PrintWords
set_option linter.unusedVariables false
def carillonlaw10_AcceptorOrder.Pure : Prop := ∀ (x0 : S23) (x1 : S23) (x2 : S23), wf23 x0 → (∀ n ∈ lens23 x0, n ≤ 140737488351232) → wf23 x1 → (∀ n ∈ lens23 x1, n ≤ 140737488351232) → wf23 x2 → (∀ n ∈ lens23 x2, n ≤ 140737488351232) → carillonlaw10_AcceptorOrder.f (x0.f0) (x0.f1) (x1.f0) (x1.f1) (x2.f0) (x2.f1) = some true
theorem AcceptorOrder : carillonlaw10_AcceptorOrder.Pure := by
  intro x0 x1 x2 _ _ _ _ _ _
  unfold carillonlaw10_AcceptorOrder.f carillonlaw10_examples.f
  simp only [less_is, Option.bind_some]
  obtain ⟨a, b⟩ := x0
  obtain ⟨c, d⟩ := x1
  obtain ⟨e, f⟩ := x2
  simp only
  unfold LessP
  by_cases h1 : a < c ∨ a = c ∧ b < d
  · have h2 : ¬ (c < a ∨ c = a ∧ d < b) := by omega
    have h3 : (!(a == c) || (!(b == d))) = true := by
      by_cases hc : a = c
      · have : ¬ b = d := by omega
        simp [this]
      · simp [hc]
    by_cases h4 : c < e ∨ c = e ∧ d < f
    · have h5 : a < e ∨ a = e ∧ b < f := by omega
      simp [h1, h2, h3, h4, h5]
    · simp [h1, h2, h3, h4]
  · by_cases h3 : a = c ∧ b = d
    · obtain ⟨rfl, rfl⟩ := h3
      simp
    · have h2 : c < a ∨ c = a ∧ d < b := by omega
      simp [h1, h2]
end Go.Proofs.Ytocgbfcjmgpleaa.P
