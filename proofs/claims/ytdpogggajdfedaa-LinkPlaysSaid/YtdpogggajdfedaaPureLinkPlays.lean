/- The law LinkPlays, over plain functions. -/
import Derived.Test.YtdpogggajdfedaaKinds
import Derived.Test.YtdpogggajdfedaaPx43
namespace Go.Proofs.Ytdpogggajdfedaa.P
open Go.RowKit Go.Proofs.YtdpogggajdfedaaW.PrintWords
set_option linter.unusedVariables false
set_option linter.unusedSimpArgs false
set_option maxRecDepth 100000
def carillonlaw09_LinkPlays.Pure : Prop := ∀ (x0 : Int) (x1 : List S54), (Lit.int .i64 x0).wf = true → (fun l : List S54 => ∀ a ∈ l, wf54 a) x1 → (∀ n ∈ (fun l : List S54 => l.length * 72 :: l.flatMap lens54) x1, n ≤ 140737488351232) → carillonlaw09_LinkPlays.f x0 x1 = some true
theorem inB_wf {x : Int} (h : (Lit.int .i64 x).wf = true) : inB x = true := by
  unfold Lit.wf at h
  simp only [Bool.and_eq_true, decide_eq_true_eq] at h
  have e1 : IntKind.i64.min = -9223372036854775808 := by decide
  have e2 : IntKind.i64.max = 9223372036854775807 := by decide
  rw [e1, e2] at h
  rw [inB_iff]
  omega
theorem deeds_wf {l : List S54} (h : ∀ a ∈ l, wf54 a) : (l.all inD) = true := by
  rw [List.all_eq_true]
  intro x hx
  have := h x hx
  unfold inD
  simp only [Bool.and_eq_true]
  exact ⟨inB_wf this.1, inB_wf this.2.2.1⟩
theorem LinkPlays : carillonlaw09_LinkPlays.Pure := by
  intro x0 x1 _ h1 _
  unfold carillonlaw09_LinkPlays.f
  rw [if_pos (deeds_wf h1)]
end Go.Proofs.Ytdpogggajdfedaa.P
