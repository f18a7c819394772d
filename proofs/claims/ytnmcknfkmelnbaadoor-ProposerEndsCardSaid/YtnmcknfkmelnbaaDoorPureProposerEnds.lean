/- The law ProposerEnds, over plain functions. -/
import Derived.Test.YtnmcknfkmelnbaaDoorKinds
import Derived.Test.YtnmcknfkmelnbaaDoorPx42
namespace Go.Proofs.YtnmcknfkmelnbaaDoor.P
open Go.RowKit Go.Proofs.YtnmcknfkmelnbaaDoorW.PrintWords
set_option linter.unusedVariables false
set_option linter.unusedSimpArgs false
set_option maxRecDepth 100000
def carillonlaw11_ProposerEnds.Pure : Prop := ∀ (x0 : Int) (x1 : List S64), (Lit.int .i64 x0).wf = true → (fun l : List S64 => ∀ a ∈ l, wf64 a) x1 → (∀ n ∈ (fun l : List S64 => l.length * 24 :: l.flatMap lens64) x1, n ≤ 140737488351232) → carillonlaw11_ProposerEnds.f x0 x1 = some true
theorem inB_wf {x : Int} (h : (Lit.int .i64 x).wf = true) : inB x = true := by
  unfold Lit.wf at h
  simp only [Bool.and_eq_true, decide_eq_true_eq] at h
  have e1 : IntKind.i64.min = -9223372036854775808 := by decide
  have e2 : IntKind.i64.max = 9223372036854775807 := by decide
  rw [e1, e2] at h
  rw [inB_iff]
  omega
theorem ProposerEnds : carillonlaw11_ProposerEnds.Pure := by
  intro x0 x1 h0 h1 _
  unfold carillonlaw11_ProposerEnds.f
  rw [if_pos]
  refine ⟨inB_wf h0, ?_⟩
  rw [List.all_eq_true]
  intro x hx
  have := h1 x hx
  simp only [Bool.and_eq_true]
  exact ⟨⟨inB_wf this.1, inB_wf this.2.1⟩, inB_wf this.2.2⟩
end Go.Proofs.YtnmcknfkmelnbaaDoor.P
