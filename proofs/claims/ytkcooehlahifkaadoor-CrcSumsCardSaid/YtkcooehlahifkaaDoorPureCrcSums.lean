/- Any text has the sum that the chapter says, bit by bit; so has what goes on: the plain statement. -/
import Derived.Test.YtkcooehlahifkaaDoorKinds
import Derived.Test.YtkcooehlahifkaaDoorPlainA
namespace Go.Proofs.YtkcooehlahifkaaDoor.P
open Go.RowKit Go.Proofs.YtkcooehlahifkaaDoorW.PrintWords
set_option linter.unusedVariables false
def carillonlaw02_CrcSums.Pure : Prop := ∀ (x0 : ByteArray) (x1 : Int), x0.size ≤ 140737488351232 → (Lit.int .u32 x1).wf = true → ∃ k, carillonlaw02_CrcSums.f k x0 x1 = some true
theorem CrcSums : carillonlaw02_CrcSums.Pure := by
  intro x0 x1 hs hw
  have hb := wf_u32 hw
  refine ⟨10 * x0.size + 1, ?_⟩
  unfold carillonlaw02_CrcSums.f carillonref02_Sum.f crc_Sum.f carillonlaw02_examples.f
  rw [ref_more 0 x0 (by decide) (by decide) (by omega) _ (Nat.le_refl _), ref_more x1 x0 hb.1 hb.2 (by omega) _ (Nat.le_refl _)]
  rw [more_zero x0 (by omega)]
  obtain ⟨n, rfl⟩ : ∃ n : Nat, x1 = (n : Int) := ⟨x1.toNat, by omega⟩
  unfold crc_More.f
  rw [if_pos ⟨hb.1, hb.2, by omega⟩]
  simp only [Option.bind_some, if_true, beq_self_eq_true]
end Go.Proofs.YtkcooehlahifkaaDoor.P
