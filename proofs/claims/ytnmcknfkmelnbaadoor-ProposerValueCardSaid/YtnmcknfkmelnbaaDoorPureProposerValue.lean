/- The law ProposerValue, over plain functions. -/
import Derived.Test.YtnmcknfkmelnbaaDoorKinds
import Derived.Test.YtnmcknfkmelnbaaDoorPx40
namespace Go.Proofs.YtnmcknfkmelnbaaDoor.P
open Go.RowKit Go.Proofs.YtnmcknfkmelnbaaDoorW.PrintWords
set_option linter.unusedVariables false
set_option linter.unusedSimpArgs false
set_option maxRecDepth 100000
def carillonlaw11_ProposerValue.Pure : Prop := ∀ (x0 : Int) (x1 : List S23) (x2 : List Int) (x3 : ByteArray), (Lit.int .i64 x0).wf = true → (fun l : List S23 => ∀ a ∈ l, wf23 a) x1 → (∀ n ∈ (fun l : List S23 => l.length * 16 :: l.flatMap lens23) x1, n ≤ 140737488351232) → (fun l : List Int => ∀ a ∈ l, (fun n : Int => (Lit.int .i64 n).wf = true) a) x2 → (∀ n ∈ (fun l : List Int => l.length * 8 :: l.flatMap (fun _ : Int => ([] : List Nat))) x2, n ≤ 140737488351232) → x3.size ≤ 140737488351232 → carillonlaw11_ProposerValue.f x0 x1 x2 x3 = some true
theorem inB_wf {x : Int} (h : (Lit.int .i64 x).wf = true) : inB x = true := by
  unfold Lit.wf at h
  simp only [Bool.and_eq_true, decide_eq_true_eq] at h
  have e1 : IntKind.i64.min = -9223372036854775808 := by decide
  have e2 : IntKind.i64.max = 9223372036854775807 := by decide
  rw [e1, e2] at h
  rw [inB_iff]
  omega
theorem ProposerValue : carillonlaw11_ProposerValue.Pure := by
  intro x0 x1 x2 x3 h0 h1 _ h2 _ _
  unfold carillonlaw11_ProposerValue.f
  rw [if_pos]
  refine ⟨inB_wf h0, ?_, ?_⟩
  · rw [List.all_eq_true]
    intro x hx
    have := h1 x hx
    simp only [Bool.and_eq_true]
    exact ⟨inB_wf this.1, inB_wf this.2⟩
  · rw [List.all_eq_true]
    intro x hx
    exact inB_wf (h2 x hx)
end Go.Proofs.YtnmcknfkmelnbaaDoor.P
