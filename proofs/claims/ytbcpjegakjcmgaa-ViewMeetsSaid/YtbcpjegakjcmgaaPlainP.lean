/- Views, told plainly: what is right. -/
import Derived.Test.YtbcpjegakjcmgaaPx2
import Derived.Test.YtbcpjegakjcmgaaPx2
namespace Go.Proofs.Ytbcpjegakjcmgaa.P
open Go.RowKit Go.Proofs.YtbcpjegakjcmgaaW.PrintWords Go.Proofs.YtbcpjegakjcmgaaW.PrintLast Go.Proofs.YtbcpjegakjcmgaaW.PrintMore
set_option linter.unusedSimpArgs false
set_option linter.unusedVariables false
set_option maxRecDepth 100000
def RM (n l : Int) : Prop := 0 ≤ n ∧ n < 7 ∧ 1 ≤ l ∧ l ≤ 9007199254740991
instance (n l : Int) : Decidable (RM n l) := by unfold RM; infer_instance
theorem rm_is (n l : Int) : view_RightMember.f n l = some (decide (RM n l)) := by
  unfold view_RightMember.f RM
  by_cases h1 : 0 ≤ n <;> by_cases h2 : n < 7 <;> by_cases h3 : 1 ≤ l <;> simp [h1, h2, h3]
def VR : Int → List S26 → Bool
  | _, [] => true
  | last, m :: r => decide (RM m.f0 m.f1) && decide (last < m.f0) && VR m.f0 r
def ViewP (num : Int) (ms : List S26) : Bool := VR (-1) ms && decide (1 ≤ num) && decide (num ≤ 9007199254740991) && decide (0 < ms.length)
theorem rdM (l : List S26) (i : Nat) (h : i < l.length) : rd_T26 l (i : Int) = l[i] := by
  unfold rd_T26
  rw [show ((i : Int)).toNat = i from rfl, List.getD_eq_getElem?_getD, List.getElem?_eq_getElem h]
  rfl
theorem vright_loop (num : Int) (ms : List S26) (hl : ms.length ≤ 4611686018427387904) (d : Nat) : ∀ (i k : Nat) (last : Int), i + d = ms.length → d < k →
    view_Right.l0 k last ms (ms.length : Int) (i : Int) num ms = some (VR last (ms.drop i) && decide (1 ≤ num) && decide (num ≤ 9007199254740991) && decide (0 < ms.length)) := by
  induction d with
  | zero =>
    intro i k last hi hk
    obtain ⟨k, rfl⟩ : ∃ m, k = m + 1 := ⟨k - 1, by omega⟩
    simp only [view_Right.l0]
    rw [if_neg (by omega), List.drop_of_length_le (by omega)]
    simp only [VR, Bool.true_and]
    by_cases h1 : 1 ≤ num <;> by_cases h2 : num ≤ 9007199254740991 <;> simp [h1, h2]
  | succ d ih =>
    intro i k last hi hk
    obtain ⟨k, rfl⟩ : ∃ m, k = m + 1 := ⟨k - 1, by omega⟩
    have ew : wrap64 ((i : Int) + 1) = ((i + 1 : Nat) : Int) := by unfold wrap64; omega
    simp only [view_Right.l0]
    rw [if_pos (by omega), if_pos (by omega), if_pos (by omega), rdM ms i (by omega), ew, rm_is, List.drop_eq_getElem_cons (show i < ms.length by omega)]
    simp only [Option.bind_some, VR]
    by_cases h1 : RM ms[i].f0 ms[i].f1
    · rw [if_pos (by simpa using h1)]
      by_cases h2 : last < ms[i].f0
      · rw [if_neg (by omega), ih (i + 1) k _ (by omega) (by omega)]
        simp [h1, h2]
      · rw [if_pos (by omega)]
        simp [h2]
    · rw [if_neg (by simpa using h1)]
      simp [h1]
theorem vright_is (num : Int) (ms : List S26) (hl : ms.length ≤ 4611686018427387904) (k : Nat) (hk : ms.length < k) : view_Right.f k num ms = some (ViewP num ms) := by
  unfold view_Right.f ViewP
  have := vright_loop num ms hl ms.length 0 k (-1) (by omega) hk
  rw [List.drop_zero] at this
  exact this
/-- A right view has at most seven members. -/
theorem vr_len : ∀ (ms : List S26) (last : Int), -1 ≤ last → VR last ms = true → (ms.length : Int) ≤ 6 - last ∨ ms = []
  | [], _ => fun _ _ => .inr rfl
  | m :: r, last => by
    intro hl h
    simp only [VR, Bool.and_eq_true, decide_eq_true_eq] at h
    obtain ⟨⟨h1, h2⟩, h3⟩ := h
    unfold RM at h1
    left
    rcases vr_len r m.f0 (by omega) h3 with h4 | h4
    · rw [List.length_cons]; omega
    · rw [h4]; simp; omega
theorem vr_all : ∀ (ms : List S26) (last : Int), VR last ms = true → ∀ m ∈ ms, RM m.f0 m.f1
  | [], _ => fun _ m hm => by cases hm
  | m :: r, last => by
    intro h x hx
    simp only [VR, Bool.and_eq_true, decide_eq_true_eq] at h
    rcases List.mem_cons.1 hx with rfl | hx
    · exact h.1.1
    · exact vr_all r m.f0 h.2 x hx
end Go.Proofs.Ytbcpjegakjcmgaa.P
