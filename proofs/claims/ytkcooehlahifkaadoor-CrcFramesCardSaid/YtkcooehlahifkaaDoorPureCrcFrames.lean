/- Any body is framed, and any bytes are taken as a frame, as the chapter says, or refused: the plain statement. -/
import Derived.Test.YtkcooehlahifkaaDoorKinds
import Derived.Test.YtkcooehlahifkaaDoorPlainD
namespace Go.Proofs.YtkcooehlahifkaaDoor.P
open Go.RowKit Go.Proofs.YtkcooehlahifkaaDoorW.PrintWords
set_option linter.unusedVariables false
def carillonlaw02_CrcFrames.Pure : Prop := ∀ (x0 : ByteArray) (x1 : ByteArray), x0.size ≤ 140737488351232 → x1.size ≤ 140737488351232 → ∃ k, carillonlaw02_CrcFrames.f k x0 x1 = some true
theorem CrcFrames : carillonlaw02_CrcFrames.Pure := by
  intro x0 x1 h0 h1
  refine ⟨4000100, ?_⟩
  unfold carillonlaw02_CrcFrames.f carillonlaw02_examples.f
  rw [frame_is, rframe_is _ _ (Nat.le_refl _), take_is _ (by omega), rtake_is _ (by omega) _ (Nat.le_refl _)]
  rw [Option.bind_some, Option.bind_some, Option.bind_some, Option.bind_some, Option.bind_some, if_pos rfl]
  generalize takeV x1 = t
  generalize frame x0 = F
  by_cases h : (x0.size : Int) > 400000
  · rw [if_pos h, if_pos h]
    simp
  · rw [if_neg h, if_neg h]
    simp
end Go.Proofs.YtkcooehlahifkaaDoor.P
