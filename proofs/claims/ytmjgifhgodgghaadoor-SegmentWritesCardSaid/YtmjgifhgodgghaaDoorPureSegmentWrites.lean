/- The law SegmentWrites, over plain functions. -/
import Derived.Test.YtmjgifhgodgghaaDoorKinds
import Derived.Test.YtmjgifhgodgghaaDoorPlainO
import Derived.Test.YtmjgifhgodgghaaDoorPx12
namespace Go.Proofs.YtmjgifhgodgghaaDoor.P
open Go.RowKit Go.Proofs.YtmjgifhgodgghaaDoorW.PrintWords
set_option linter.unusedVariables false
set_option linter.unusedSimpArgs false
set_option maxRecDepth 100000
def carillonlaw06_SegmentWrites.Pure : Prop := ∀ (x0 : S23), wf23 x0 → (∀ n ∈ lens23 x0, n ≤ 140737488351232) → ∃ k, carillonlaw06_SegmentWrites.f k (x0.f0) (x0.f1) (x0.f2) (x0.f3) (x0.f4) = some true
theorem SegmentWrites : carillonlaw06_SegmentWrites.Pure := by
  intro x0 _ hn
  refine ⟨4000200, ?_⟩
  unfold carillonlaw06_SegmentWrites.f
  rw [show carillonlaw06_examples.f = some true from rfl, sone_is x0 _ (by omega), rsone_is x0 _ (by omega), sright_is, rsright_is]
  simp only [Option.bind_some]
  by_cases h : RecP x0
  · rw [if_pos h, if_pos h]
    simp
  · rw [if_neg h, if_neg h]
    simp
end Go.Proofs.YtmjgifhgodgghaaDoor.P
