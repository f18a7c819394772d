/- The reference's reading of views is the program's. -/
import Derived.Test.YtbcpjegakjcmgaaPx2
import Derived.Test.YtbcpjegakjcmgaaPx5
import Derived.Test.YtbcpjegakjcmgaaPlainN
namespace Go.Proofs.Ytbcpjegakjcmgaa.P
open Go.RowKit Go.Proofs.YtbcpjegakjcmgaaW.PrintWords Go.Proofs.YtbcpjegakjcmgaaW.PrintLast Go.Proofs.YtbcpjegakjcmgaaW.PrintMore
set_option linter.unusedSimpArgs false
set_option linter.unusedVariables false
set_option maxRecDepth 100000
theorem rrm_is (n l : Int) : carillonref12_RightMember.f n l = some (decide (RM n l)) := rm_is n l
theorem rright_loop (num : Int) (ms : List VM) (hl : ms.length ≤ 4611686018427387904) (d : Nat) : ∀ (i k : Nat) (last : Int), i + d = ms.length → d < k → (i = 0 → last = -1) → (∀ h : 0 < i, ∃ h' : i - 1 < ms.length, last = (ms[i - 1]).f0) →
    carillonref12_Right.l0 k (i : Int) num ms = some (VR last (ms.drop i)) := by
  induction d with
  | zero =>
    intro i k last hi hk h0 h1
    obtain ⟨k, rfl⟩ : ∃ m, k = m + 1 := ⟨k - 1, by omega⟩
    simp only [carillonref12_Right.l0]
    rw [if_neg (by omega), List.drop_of_length_le (by omega)]
    rfl
  | succ d ih =>
    intro i k last hi hk h0 h1
    obtain ⟨k, rfl⟩ : ∃ m, k = m + 1 := ⟨k - 1, by omega⟩
    have hlt : i < ms.length := by omega
    have ew : wrap64 ((i : Int) + 1) = ((i + 1 : Nat) : Int) := by unfold wrap64; omega
    have hnext := ih (i + 1) k (ms[i]).f0 (by omega) (by omega) (by omega) (fun _ => ⟨by omega, by simp⟩)
    simp only [carillonref12_Right.l0]
    rw [if_pos (by omega), if_pos (by omega), rdM ms i hlt, ew, rrm_is, List.drop_eq_getElem_cons hlt]
    simp only [Option.bind_some, VR]
    by_cases h : RM (ms[i]).f0 (ms[i]).f1
    · rw [if_pos (by simpa using h)]
      by_cases hz : i = 0
      · have hl0 := h0 hz
        have hr := h
        unfold RM at hr
        rw [if_neg (by omega), hnext]
        simp only [h, decide_true, Bool.true_and]
        rw [decide_eq_true (show last < (ms[i]).f0 by omega), Bool.true_and]
      · obtain ⟨h', hl0⟩ := h1 (by omega)
        have e1 : wrap64 ((i : Int) - 1) = ((i - 1 : Nat) : Int) := by unfold wrap64; omega
        rw [if_pos (by omega), e1, if_pos (by omega), if_pos (by omega), rdM ms (i - 1) h', ← hl0]
        by_cases hc : (ms[i]).f0 ≤ last
        · rw [if_pos hc, decide_eq_false (show ¬ (last < (ms[i]).f0) by omega)]
          simp
        · rw [if_neg hc, hnext, decide_eq_true (show last < (ms[i]).f0 by omega)]
          simp [h]
    · rw [if_neg (by simpa using h)]
      simp [h]
theorem rright_is (num : Int) (ms : List VM) (hl : ms.length ≤ 4611686018427387904) (k : Nat) (hk : ms.length < k) : carillonref12_Right.f k num ms = some (ViewP num ms) := by
  unfold carillonref12_Right.f ViewP
  by_cases h1 : num < 1
  · rw [if_pos h1, decide_eq_false (show ¬ (1 ≤ num) by omega)]
    simp
  rw [if_neg h1]
  by_cases h2 : num > 9007199254740991
  · rw [if_pos h2, decide_eq_false (show ¬ (num ≤ 9007199254740991) by omega)]
    simp
  rw [if_neg h2]
  by_cases h3 : (ms.length : Int) < 1
  · rw [if_pos h3, decide_eq_false (show ¬ (0 < ms.length) by omega)]
    simp
  rw [if_neg h3]
  by_cases h4 : (ms.length : Int) > 7
  · rw [if_pos h4]
    have : VR (-1) ms = false := by
      cases hv : VR (-1) ms with
      | false => rfl
      | true =>
        rcases vr_len ms (-1) (by omega) hv with h | h
        · omega
        · rw [h] at h4; simp at h4
    rw [this]
    rfl
  · rw [if_neg h4]
    have := rright_loop num ms hl ms.length 0 k (-1) (by omega) hk (fun _ => rfl) (fun h => absurd h (by omega))
    rw [List.drop_zero] at this
    rw [show carillonref12_Right.l0 k 0 num ms = _ from this]
    rw [decide_eq_true (show 1 ≤ num by omega), decide_eq_true (show num ≤ 9007199254740991 by omega), decide_eq_true (show 0 < ms.length by omega)]
    simp
theorem rhas_loop (n : Int) (l : List VM) (m : VM) (hl : l.length ≤ 4611686018427387904) (d : Nat) : ∀ (i k : Nat), i + d = l.length → d < k → carillonref12_Has.l0 k (i : Int) n l m.f0 m.f1 = some (hasS (l.drop i) m) := by
  induction d with
  | zero =>
    intro i k hi hk
    obtain ⟨k, rfl⟩ : ∃ x, k = x + 1 := ⟨k - 1, by omega⟩
    simp only [carillonref12_Has.l0]
    rw [if_neg (by omega), List.drop_of_length_le (by omega)]
    rfl
  | succ d ih =>
    intro i k hi hk
    obtain ⟨k, rfl⟩ : ∃ x, k = x + 1 := ⟨k - 1, by omega⟩
    have hlt : i < l.length := by omega
    have ew : wrap64 ((i : Int) + 1) = ((i + 1 : Nat) : Int) := by unfold wrap64; omega
    simp only [carillonref12_Has.l0]
    rw [if_pos (by omega), if_pos (by omega), rdM l i hlt, ew, ih (i + 1) k (by omega) (by omega), List.drop_eq_getElem_cons hlt]
    unfold hasS
    rw [List.any_cons]
    by_cases h : (l[i].f0 == m.f0 && l[i].f1 == m.f1) = true
    · rw [if_pos h, h]
      rfl
    · rw [if_neg h, Bool.not_eq_true _ |>.mp h, Bool.false_or]
theorem rhas_is (n : Int) (l : List VM) (m0 m1 : Int) (hl : l.length ≤ 4611686018427387904) (k : Nat) (hk : l.length < k) : carillonref12_Has.f k n l m0 m1 = some (hasS l ⟨m0, m1⟩) := by
  unfold carillonref12_Has.f
  have := rhas_loop n l ⟨m0, m1⟩ hl l.length 0 k (by omega) hk
  rw [List.drop_zero] at this
  exact this
theorem rcommon_loop (n n' : Int) (l l' : List VM) (hl : l.length ≤ 4611686018427387904) (hl' : l'.length ≤ 4611686018427387904) (d : Nat) : ∀ (i k c : Nat), i + d = l.length → c ≤ i → d + l'.length < k →
    carillonref12_Common.l0 k (c : Int) (i : Int) n l n' l' = some (((c + ((l.drop i).filter (hasS l')).length : Nat)) : Int) := by
  induction d with
  | zero =>
    intro i k c hi hc hk
    obtain ⟨k, rfl⟩ : ∃ x, k = x + 1 := ⟨k - 1, by omega⟩
    simp only [carillonref12_Common.l0]
    rw [if_neg (by omega), List.drop_of_length_le (by omega)]
    rfl
  | succ d ih =>
    intro i k c hi hc hk
    obtain ⟨k, rfl⟩ : ∃ x, k = x + 1 := ⟨k - 1, by omega⟩
    have hlt : i < l.length := by omega
    have ew : wrap64 ((i : Int) + 1) = ((i + 1 : Nat) : Int) := by unfold wrap64; omega
    have ec : wrap64 ((c : Int) + 1) = ((c + 1 : Nat) : Int) := by unfold wrap64; omega
    simp only [carillonref12_Common.l0]
    rw [if_pos (by omega), if_pos (by omega), rdM l i hlt, ew, rhas_is n' l' _ _ hl' k (by omega), List.drop_eq_getElem_cons hlt]
    simp only [Option.bind_some]
    by_cases h : hasS l' l[i] = true
    · rw [if_pos h, ec, ih (i + 1) k (c + 1) (by omega) (by omega) (by omega), List.filter_cons_of_pos h]
      congr 2
      rw [List.length_cons]
      omega
    · rw [if_neg h, ih (i + 1) k c (by omega) (by omega) (by omega), List.filter_cons_of_neg h]
theorem rcommon_is (n n' : Int) (l l' : List VM) (hl : l.length ≤ 4611686018427387904) (hl' : l'.length ≤ 4611686018427387904) (k : Nat) (hk : l.length + l'.length < k) : carillonref12_Common.f k n l n' l' = some (((l.filter (hasS l')).length : Nat) : Int) := by
  unfold carillonref12_Common.f
  have := rcommon_loop n n' l l' hl hl' l.length 0 k 0 (by omega) (by omega) hk
  rw [List.drop_zero, Nat.zero_add] at this
  exact this
theorem rmaj_is (n : Int) (l : List VM) (hl : l.length ≤ 1000000000000000) : carillonref12_Majority.f n l = some (((l.length / 2 + 1 : Nat)) : Int) := vmaj_is n l hl
theorem first_is (n : Int) (l : List VM) (hl : l.length ≤ 4611686018427387904) (k : Nat) (hk : l.length < k) : view_First.f k n l = some (if ViewP n l = true then ((rd_T26 l 0).f0, (rd_T26 l 0).f1, 0) else (0, 0, 1)) := by
  unfold view_First.f
  rw [vright_is n l hl k hk]
  simp only [Option.bind_some]
  by_cases h : ViewP n l = true
  · have h' := h
    unfold ViewP at h'
    simp only [Bool.and_eq_true, decide_eq_true_eq] at h'
    rw [if_pos h, if_pos h, if_pos (by omega)]
  · rw [if_neg h, if_neg h]
end Go.Proofs.Ytbcpjegakjcmgaa.P
