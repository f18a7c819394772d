/- The law AcceptorBack, over plain functions. -/
import Derived.Test.YtocgbfcjmgpleaaDoorKinds
import Derived.Test.YtocgbfcjmgpleaaDoorPlainS
import Derived.Test.YtocgbfcjmgpleaaDoorPx19
namespace Go.Proofs.YtocgbfcjmgpleaaDoor.P
open Go.RowKit Go.Proofs.YtocgbfcjmgpleaaDoorW.PrintWords
set_option linter.unusedVariables false
set_option linter.unusedSimpArgs false
set_option maxRecDepth 100000
def carillonlaw10_AcceptorBack.Pure : Prop := ∀ (x0 : S25) (x1 : ByteArray), wf25 x0 → (∀ n ∈ lens25 x0, n ≤ 140737488351232) → x1.size ≤ 140737488351232 → ∃ k, carillonlaw10_AcceptorBack.f k (x0.f0.f0) (x0.f0.f1) (x0.f1.f0) (x0.f1.f1) (x0.f2) x1 = some true
theorem back_tail (a1 : ByteArray) (h1 : a1.size ≤ 140737488351232) : ((acceptor_Decode.f 6008 a1).bind fun bt396 => (if bt396.2.2.2.2.2 = 0 then ((acceptor_Encode.f 6008 bt396.1 bt396.2.1 bt396.2.2.1 bt396.2.2.2.1 bt396.2.2.2.2.1).bind fun bt403 => (if true = true then (if bt403.2 = 0 then (some (bt403.1.toList == a1.toList)) else (some false)) else (some false))) else (if true = true then (some ((bt396.1 == 0 && (bt396.2.1 == 0)) && ((bt396.2.2.1 == 0 && (bt396.2.2.2.1 == 0)) && (bt396.2.2.2.2.1.toList == ([] : List UInt8))))) else (some false)))) = some true := by
  rw [adec_is a1 (by omega) _ (by omega)]
  simp only [Option.bind_some]
  by_cases h0 : (adecS a1).2.2.2.2.2 = 0
  · obtain ⟨a, b, c, d, t, m, g1, g2, g3, g4⟩ := aenc_dec a1 (by omega) h0
    rw [g1]
    dsimp only
    rw [if_pos rfl, aenc_is a b c d t _ (by omega), if_pos g2, encS_ok5 g3 (show 5 ≤ 1000 by decide), ← g4]
    simp
  · obtain ⟨e, he, g⟩ := adecS_zero a1 (by omega) h0
    rw [g]
    dsimp only
    rw [if_neg he]
    simp [toList_eq]
theorem AcceptorBack : carillonlaw10_AcceptorBack.Pure := by
  intro x0 x1 hw hn h1
  obtain ⟨⟨a, b⟩, ⟨c, d⟩, s⟩ := x0
  refine ⟨6008, ?_⟩
  unfold carillonlaw10_AcceptorBack.f
  dsimp only
  rw [show carillonlaw10_examples.f = some true from rfl, aenc_is a b c d s _ (by omega)]
  simp only [Option.bind_some]
  by_cases h : AccP a b c d s
  · obtain ⟨m, hm⟩ := itemsA_enc h
    have hz := itemsA_size hm
    rw [if_pos h, encS_ok5 hm (show 5 ≤ 1000 by decide)]
    dsimp only
    rw [if_pos rfl, adec_is (strOfNums m) (by omega) _ (by omega), adec_enc h hm]
    simp only [Option.bind_some]
    rw [if_neg (by simp)]
    have e := back_tail x1 h1
    simp only [if_true] at e ⊢
    exact e
  · rw [if_neg h, if_neg (by decide)]
    have e := back_tail x1 h1
    simp only [if_true] at e ⊢
    exact e
end Go.Proofs.YtocgbfcjmgpleaaDoor.P
