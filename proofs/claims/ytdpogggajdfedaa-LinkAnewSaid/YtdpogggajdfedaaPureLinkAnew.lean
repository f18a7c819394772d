/- The law LinkAnew, over plain functions. -/
import Derived.Test.YtdpogggajdfedaaKinds
import Derived.Test.YtdpogggajdfedaaPx45
namespace Go.Proofs.Ytdpogggajdfedaa.P
open Go.RowKit Go.Proofs.YtdpogggajdfedaaW.PrintWords
set_option linter.unusedVariables false
set_option linter.unusedSimpArgs false
set_option maxRecDepth 100000
def carillonlaw09_LinkAnew.Pure : Prop := ∀ (x0 : List S28) (x1 : List S28), (fun l : List S28 => ∀ a ∈ l, wf28 a) x0 → (∀ n ∈ (fun l : List S28 => l.length * 40 :: l.flatMap lens28) x0, n ≤ 140737488351232) → (fun l : List S28 => ∀ a ∈ l, wf28 a) x1 → (∀ n ∈ (fun l : List S28 => l.length * 40 :: l.flatMap lens28) x1, n ≤ 140737488351232) → carillonlaw09_LinkAnew.f x0 x1 = some true
theorem inB_wf {x : Int} (h : (Lit.int .i64 x).wf = true) : inB x = true := by
  unfold Lit.wf at h
  simp only [Bool.and_eq_true, decide_eq_true_eq] at h
  have e1 : IntKind.i64.min = -9223372036854775808 := by decide
  have e2 : IntKind.i64.max = 9223372036854775807 := by decide
  rw [e1, e2] at h
  rw [inB_iff]
  omega
theorem turns_wf {l : List S28} (h : ∀ a ∈ l, wf28 a) : (l.all fun x => inB x.f0 && inB x.f1 && inB x.f2) = true := by
  rw [List.all_eq_true]
  intro x hx
  have := h x hx
  simp only [Bool.and_eq_true]
  exact ⟨⟨inB_wf this.1, inB_wf this.2.1⟩, inB_wf this.2.2.1⟩
theorem LinkAnew : carillonlaw09_LinkAnew.Pure := by
  intro x0 x1 h0 _ h1 _
  unfold carillonlaw09_LinkAnew.f
  rw [if_pos ⟨turns_wf h0, turns_wf h1⟩]
end Go.Proofs.Ytdpogggajdfedaa.P
