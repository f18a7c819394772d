/- The law AcceptorBytes, over plain functions. -/
import Derived.Test.YtocgbfcjmgpleaaDoorKinds
import Derived.Test.YtocgbfcjmgpleaaDoorPlainT
import Derived.Test.YtocgbfcjmgpleaaDoorPx17
namespace Go.Proofs.YtocgbfcjmgpleaaDoor.P
open Go.RowKit Go.Proofs.YtocgbfcjmgpleaaDoorW.PrintWords
set_option linter.unusedVariables false
set_option linter.unusedSimpArgs false
set_option maxRecDepth 100000
def carillonlaw10_AcceptorBytes.Pure : Prop := ∀ (x0 : S25) (x1 : ByteArray), wf25 x0 → (∀ n ∈ lens25 x0, n ≤ 140737488351232) → x1.size ≤ 140737488351232 → ∃ k, carillonlaw10_AcceptorBytes.f k (x0.f0.f0) (x0.f0.f1) (x0.f1.f0) (x0.f1.f1) (x0.f2) x1 = some true
theorem AcceptorBytes : carillonlaw10_AcceptorBytes.Pure := by
  intro x0 x1 hw hn h1
  obtain ⟨⟨a, b⟩, ⟨c, d⟩, s⟩ := x0
  refine ⟨1048577, ?_⟩
  unfold carillonlaw10_AcceptorBytes.f
  dsimp only
  rw [show carillonlaw10_examples.f = some true from rfl, aenc_is a b c d s _ (by omega), raenc_is a b c d s _ (by omega), adec_is x1 (by omega) _ (by omega), radec_is x1 h1 _ (by omega)]
  simp only [Option.bind_some]
  by_cases h : AccP a b c d s
  · obtain ⟨m, hm⟩ := itemsA_enc h
    rw [if_pos h, if_pos h, encS_ok5 hm (show 5 ≤ 1000 by decide)]
    simp
  · rw [if_neg h, if_neg h]
    simp
end Go.Proofs.YtocgbfcjmgpleaaDoor.P
