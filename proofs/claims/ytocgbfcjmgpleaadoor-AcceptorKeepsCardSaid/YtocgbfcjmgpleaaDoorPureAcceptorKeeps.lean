/- The law AcceptorKeeps, over plain functions. -/
import Derived.Test.YtocgbfcjmgpleaaDoorKinds
import Derived.Test.YtocgbfcjmgpleaaDoorPlainK
import Derived.Test.YtocgbfcjmgpleaaDoorPx18
namespace Go.Proofs.YtocgbfcjmgpleaaDoor.P
open Go.RowKit Go.Proofs.YtocgbfcjmgpleaaDoorW.PrintWords
set_option linter.unusedVariables false
set_option linter.unusedSimpArgs false
set_option maxRecDepth 100000
def carillonlaw10_AcceptorKeeps.Pure : Prop := ∀ (x0 : List S39), (fun l : List S39 => ∀ a ∈ l, wf39 a) x0 → (∀ n ∈ (fun l : List S39 => l.length * 40 :: l.flatMap lens39) x0, n ≤ 140737488351232) → ∃ k, carillonlaw10_AcceptorKeeps.f k x0 = some true
theorem AcceptorKeeps : carillonlaw10_AcceptorKeeps.Pure := by
  intro l hw hn
  have key : ∀ k, 6510 ≤ k → carillonlaw10_AcceptorKeeps.f k l = some true := by
    intro k hk
    unfold carillonlaw10_AcceptorKeeps.f
    rw [show carillonlaw10_examples.f = some true from rfl]
    simp only [Option.bind_some]
    have e := keeps_loop l 100 0 k 0 0 0 0 ⟨#[]⟩ rfl ⟨.inr ⟨rfl, rfl⟩, lessP_irr _ _, by decide, fun _ => by rw [toList_eq], .inl ⟨rfl, rfl⟩⟩ (by omega)
    rw [show ((0 : Nat) : Int) = 0 from rfl] at e
    exact e
  exact ⟨6510, key 6510 (Nat.le_refl _)⟩
end Go.Proofs.YtocgbfcjmgpleaaDoor.P
