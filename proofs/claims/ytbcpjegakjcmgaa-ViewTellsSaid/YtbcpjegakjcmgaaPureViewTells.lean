/- The law ViewTells, over plain functions. -/
import Derived.Test.YtbcpjegakjcmgaaKinds
import Derived.Test.YtbcpjegakjcmgaaPlainT
import Derived.Test.YtbcpjegakjcmgaaPx6
namespace Go.Proofs.Ytbcpjegakjcmgaa.P
open Go.RowKit Go.Proofs.YtbcpjegakjcmgaaW.PrintWords
set_option linter.unusedVariables false
set_option linter.unusedSimpArgs false
set_option maxRecDepth 100000
def carillonlaw12_ViewTells.Pure : Prop := ∀ (x0 : S24) (x1 : S24) (x2 : S26), wf24 x0 → (∀ n ∈ lens24 x0, n ≤ 140737488351232) → wf24 x1 → (∀ n ∈ lens24 x1, n ≤ 140737488351232) → wf26 x2 → (∀ n ∈ lens26 x2, n ≤ 140737488351232) → ∃ k, carillonlaw12_ViewTells.f k (x0.f0) (x0.f1) (x1.f0) (x1.f1) (x2.f0) (x2.f1) = some true
theorem tells_all (num : Int) (ms : List VM) (num' : Int) (ms' : List VM) (x0 x1 : Int) (hms : ms.length ≤ 1000000000000000) (hms' : ms'.length ≤ 1000000000000000) (k : Nat) (hk : ms.length + ms'.length + 10 < k) :
    carillonlaw12_ViewTells.f k num ms num' ms' x0 x1 = some true := by
  unfold carillonlaw12_ViewTells.f
  rw [show carillonlaw12_examples.f = some true from rfl, first_is num ms (by omega) k (by omega), rright_is num ms (by omega) k (by omega), rm_is, rrm_is, vright_is num ms (by omega) k (by omega), vmaj_is num ms hms, rmaj_is num ms hms, vhas_is num ms x0 x1 (by omega) k (by omega), rhas_is num ms x0 x1 (by omega) k (by omega), vcommon_is num num' ms ms' hms hms', rcommon_is num num' ms ms' (by omega) (by omega) k (by omega)]
  simp only [Option.bind_some]
  by_cases h : ViewP num ms = true
  · have h' := h
    unfold ViewP at h'
    simp only [Bool.and_eq_true, decide_eq_true_eq] at h'
    rw [if_pos h, if_pos h]
    dsimp only
    rw [if_pos (show (0 : Int) < (ms.length : Int) by omega)]
    simp
  · rw [if_neg h, if_neg h]
    simp
theorem ViewTells : carillonlaw12_ViewTells.Pure := by
  intro x0 x1 x2 _ hn0 _ hn1 _ _
  have h0 := hn0 _ (List.mem_cons_self ..)
  have h1 := hn1 _ (List.mem_cons_self ..)
  exact ⟨_, tells_all _ _ _ _ _ _ (by omega) (by omega) (x0.f1.length + x1.f1.length + 11) (by omega)⟩
end Go.Proofs.Ytbcpjegakjcmgaa.P
