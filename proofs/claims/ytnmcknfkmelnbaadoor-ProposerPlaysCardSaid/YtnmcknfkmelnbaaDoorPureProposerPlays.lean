/- The law ProposerPlays, over plain functions. -/
import Derived.Test.YtnmcknfkmelnbaaDoorKinds
import Derived.Test.YtnmcknfkmelnbaaDoorPx43
namespace Go.Proofs.YtnmcknfkmelnbaaDoor.P
open Go.RowKit Go.Proofs.YtnmcknfkmelnbaaDoorW.PrintWords
set_option linter.unusedVariables false
set_option linter.unusedSimpArgs false
set_option maxRecDepth 100000
def carillonlaw11_ProposerPlays.Pure : Prop := ∀ (x0 : S23) (x1 : List Int) (x2 : List S36), wf23 x0 → (∀ n ∈ lens23 x0, n ≤ 140737488351232) → (fun l : List Int => ∀ a ∈ l, (fun n : Int => (Lit.int .i64 n).wf = true) a) x1 → (∀ n ∈ (fun l : List Int => l.length * 8 :: l.flatMap (fun _ : Int => ([] : List Nat))) x1, n ≤ 140737488351232) → (fun l : List S36 => ∀ a ∈ l, wf36 a) x2 → (∀ n ∈ (fun l : List S36 => l.length * 80 :: l.flatMap lens36) x2, n ≤ 140737488351232) → carillonlaw11_ProposerPlays.f (x0.f0) (x0.f1) x1 x2 = some true
theorem inB_wf {x : Int} (h : (Lit.int .i64 x).wf = true) : inB x = true := by
  unfold Lit.wf at h
  simp only [Bool.and_eq_true, decide_eq_true_eq] at h
  have e1 : IntKind.i64.min = -9223372036854775808 := by decide
  have e2 : IntKind.i64.max = 9223372036854775807 := by decide
  rw [e1, e2] at h
  rw [inB_iff]
  omega
theorem ProposerPlays : carillonlaw11_ProposerPlays.Pure := by
  intro x0 x1 x2 _ _ _ h1 h2 _
  unfold carillonlaw11_ProposerPlays.f
  rw [if_pos]
  refine ⟨h1 _ List.mem_cons_self, ?_⟩
  rw [List.all_eq_true]
  intro x hx
  exact inB_wf (h2 x hx).1
end Go.Proofs.YtnmcknfkmelnbaaDoor.P
