/- The law LinkBytes, over plain functions. -/
import Derived.Test.YtdpogggajdfedaaDoorKinds
import Derived.Test.YtdpogggajdfedaaDoorPlainR
import Derived.Test.YtdpogggajdfedaaDoorPx17
namespace Go.Proofs.YtdpogggajdfedaaDoor.P
open Go.RowKit Go.Proofs.YtdpogggajdfedaaDoorW.PrintWords
set_option linter.unusedVariables false
set_option linter.unusedSimpArgs false
set_option maxRecDepth 100000
def carillonlaw09_LinkBytes.Pure : Prop := ∀ (x0 : S23) (x1 : ByteArray), wf23 x0 → (∀ n ∈ lens23 x0, n ≤ 140737488351232) → x1.size ≤ 140737488351232 → ∃ k, carillonlaw09_LinkBytes.f k (x0.f0) (x0.f1) (x0.f2) (x0.f3) (x0.f4) x1 = some true
theorem lo_wf {x : Int} (h : (Lit.int .i64 x).wf = true) : -9223372036854775808 ≤ x := by
  unfold Lit.wf at h
  simp only [Bool.and_eq_true, decide_eq_true_eq] at h
  have e1 : IntKind.i64.min = -9223372036854775808 := by decide
  rw [e1] at h
  exact h.1
theorem ex_f : carillonlaw09_examples.f = some true := rfl
theorem LinkBytes : carillonlaw09_LinkBytes.Pure := by
  intro x0 x1 h0 _ hs
  obtain ⟨K, hK⟩ : ∃ K, 4000200 ≤ K := ⟨_, Nat.le_refl _⟩
  refine ⟨K, ?_⟩
  unfold carillonlaw09_LinkBytes.f
  rw [lenc_is x0 (lo_wf h0.1) K (by omega), rlenc_is x0 K (by omega), ldec_is x1 (by omega) K (by omega), rldec_is x1 hs K (by omega), ex_f]
  simp only [Option.bind_some]
  by_cases h : RightF x0
  · rw [if_pos h, if_pos h]
    simp
  · rw [if_neg h, if_neg h]
    simp
end Go.Proofs.YtdpogggajdfedaaDoor.P
