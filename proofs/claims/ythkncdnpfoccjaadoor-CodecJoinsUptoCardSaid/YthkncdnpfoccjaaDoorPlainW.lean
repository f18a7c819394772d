/- What is well formed of items that come in. -/
import Derived.Test.YthkncdnpfoccjaaDoorPx9
import Derived.Test.YthkncdnpfoccjaaDoorPlainH
import Derived.Test.YthkncdnpfoccjaaDoorKinds
namespace Go.Proofs.YthkncdnpfoccjaaDoor.P
open Go.RowKit Go.Proofs.YthkncdnpfoccjaaDoorW.PrintWords Go.Proofs.YthkncdnpfoccjaaDoorW.PrintLast Go.Proofs.YthkncdnpfoccjaaDoorW.PrintMore
set_option linter.unusedSimpArgs false
set_option linter.unusedVariables false
set_option maxRecDepth 100000
theorem wfI_of (l : List S32) (h : ∀ a ∈ l, wf32 a) (hn : ∀ n ∈ l.length * 32 :: l.flatMap lens32, n ≤ 140737488351232) : (∀ x ∈ l, WfI x) ∧ l.length * 32 ≤ 140737488351232 := by
  refine ⟨fun x hx => ?_, hn _ (List.mem_cons_self ..)⟩
  obtain ⟨h0, h1, h2⟩ := h x hx
  try dsimp only at h0 h1 h2
  have h3 := hn x.f2.size (List.mem_cons_of_mem _ (List.mem_flatMap.2 ⟨x, hx, by simp [lens32]⟩))
  simp only [Lit.wf, IntKind.min, IntKind.max, IntKind.signed, IntKind.bits, Bool.and_eq_true, decide_eq_true_eq, if_true, Bool.false_eq_true, if_false] at h0 h1
  unfold WfI
  refine ⟨by omega, by omega, by omega, by omega, h3⟩
theorem bulk_len (l : List S32) : l.length ≤ (l.map bulk32).sum := by
  induction l with
  | nil => simp
  | cons x xs ih =>
    rw [List.map_cons, List.sum_cons, List.length_cons]
    have : 1 ≤ bulk32 x := by unfold bulk32; omega
    omega
end Go.Proofs.YthkncdnpfoccjaaDoor.P
