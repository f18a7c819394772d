/- What the document's functions answer of an acceptor. -/
import Derived.Test.YtocgbfcjmgpleaaDoorPx9
import Derived.Test.YtocgbfcjmgpleaaDoorPlainP
namespace Go.Proofs.YtocgbfcjmgpleaaDoor.P
open Go.RowKit Go.Proofs.YtocgbfcjmgpleaaDoorW.PrintWords Go.Proofs.YtocgbfcjmgpleaaDoorW.PrintLast Go.Proofs.YtocgbfcjmgpleaaDoorW.PrintMore
set_option linter.unusedSimpArgs false
set_option linter.unusedVariables false
set_option maxRecDepth 100000
theorem rless_is (a b c d : Int) : carillonref10_Less.f a b c d = some (decide (LessP a b c d)) := by
  unfold carillonref10_Less.f LessP
  by_cases h3 : a < c
  · simp [h3]
  · by_cases h1 : a = c
    · simp [h1]
    · simp [h1, h3]
theorem rright_is (a b : Int) : carillonref10_Right.f a b = some (decide (RightP a b)) := by
  unfold carillonref10_Right.f RightP
  by_cases h1 : 1 ≤ a <;> by_cases h2 : a ≤ 9007199254740991 <;> by_cases h3 : 0 ≤ b <;> simp [h1, h2, h3]
theorem may_is (a b : Int) : carillonref10_may.f a b = some (decide (RightP a b ∨ a = 0 ∧ b = 0)) := by
  unfold carillonref10_may.f
  simp only [rright_is, Option.bind_some]
  by_cases h : RightP a b
  · simp [h]
  · by_cases h1 : a = 0
    · subst h1
      by_cases h2 : b = 0
      · subst h2
        simp [h]
      · simp [h, h2]
    · simp [h, h1]
theorem racc_is (a b c d : Int) (s : ByteArray) : carillonref10_RightAcceptor.f a b c d s = some (decide (AccP a b c d s)) := by
  unfold carillonref10_RightAcceptor.f AccP
  simp only [may_is, rless_is, Option.bind_some, toList_nil]
  by_cases h0 : RightP a b ∨ a = 0 ∧ b = 0
  · by_cases h2 : LessP a b c d
    · by_cases h3 : RightP c d ∨ c = 0 ∧ d = 0 <;> simp [h0, h2, h3]
    · by_cases h3 : (s.size : Int) ≤ 100000
      · by_cases h4 : c = 0 ∧ d = 0
        · obtain ⟨rfl, rfl⟩ := h4
          simp [h0, h2, h3]
        · have h4' : (!(c == 0) || (!(d == 0))) = true := by
            by_cases hc : c = 0
            · have : ¬ d = 0 := fun hd => h4 ⟨hc, hd⟩
              simp [this]
            · simp [hc]
          by_cases h5 : RightP c d <;> simp [h0, h2, h3, h4, h4', h5]
      · by_cases h4 : RightP c d ∨ c = 0 ∧ d = 0 <;> simp [h0, h2, h3, h4]
  · simp [h0]
end Go.Proofs.YtocgbfcjmgpleaaDoor.P
