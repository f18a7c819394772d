/- The law LinkDeaf, over plain functions. -/
import Derived.Test.YtdpogggajdfedaaKinds
import Derived.Test.YtdpogggajdfedaaPx41
namespace Go.Proofs.Ytdpogggajdfedaa.P
open Go.RowKit Go.Proofs.YtdpogggajdfedaaW.PrintWords
set_option linter.unusedVariables false
set_option linter.unusedSimpArgs false
set_option maxRecDepth 100000
def carillonlaw09_LinkDeaf.Pure : Prop := ∀ (x0 : List S28) (x1 : S46), (fun l : List S28 => ∀ a ∈ l, wf28 a) x0 → (∀ n ∈ (fun l : List S28 => l.length * 40 :: l.flatMap lens28) x0, n ≤ 140737488351232) → wf46 x1 → (∀ n ∈ lens46 x1, n ≤ 140737488351232) → carillonlaw09_LinkDeaf.f x0 (x1.f0) (x1.f1) (x1.f2) (x1.f3) (x1.f4) = some true
theorem inB_wf {x : Int} (h : (Lit.int .i64 x).wf = true) : inB x = true := by
  unfold Lit.wf at h
  simp only [Bool.and_eq_true, decide_eq_true_eq] at h
  have e1 : IntKind.i64.min = -9223372036854775808 := by decide
  have e2 : IntKind.i64.max = 9223372036854775807 := by decide
  rw [e1, e2] at h
  rw [inB_iff]
  omega
theorem turns_wf {l : List S28} (h : ∀ a ∈ l, wf28 a) : (l.all fun x => inB x.f0 && inB x.f1 && inB x.f2) = true := by
  rw [List.all_eq_true]
  intro x hx
  have := h x hx
  simp only [Bool.and_eq_true]
  exact ⟨⟨inB_wf this.1, inB_wf this.2.1⟩, inB_wf this.2.2.1⟩
theorem LinkDeaf : carillonlaw09_LinkDeaf.Pure := by
  intro x0 x1 h0 _ h1 _
  unfold carillonlaw09_LinkDeaf.f
  rw [if_pos ⟨turns_wf h0, inB_wf h1.1, inB_wf h1.2.1, inB_wf h1.2.2.1, inB_wf h1.2.2.2.1⟩]
end Go.Proofs.Ytdpogggajdfedaa.P
