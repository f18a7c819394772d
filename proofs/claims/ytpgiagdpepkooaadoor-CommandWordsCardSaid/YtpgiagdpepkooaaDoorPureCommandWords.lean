/- The law CommandWords, over plain functions. -/
import Derived.Test.YtpgiagdpepkooaaDoorKinds
import Derived.Test.YtpgiagdpepkooaaDoorPlainB
import Derived.Test.YtpgiagdpepkooaaDoorPx26
namespace Go.Proofs.YtpgiagdpepkooaaDoor.P
open Go.RowKit Go.Proofs.YtpgiagdpepkooaaDoorW.PrintWords
set_option linter.unusedVariables false
set_option linter.unusedSimpArgs false
set_option maxRecDepth 100000
def carillonlaw14_CommandWords.Pure : Prop := ∀ (x0 : ByteArray) (x1 : ByteArray), x0.size ≤ 140737488351232 → x1.size ≤ 140737488351232 → ∃ k, carillonlaw14_CommandWords.f k x0 x1 = some true
theorem words_loop (s : ByteArray) (hs : s.size ≤ 140737488351232) (m : Bool) (hm : m = wordB s) (d : Nat) : ∀ (i k : Nat), i + d = s.size → d < k → carillonlaw14_CommandWords.l0 k s true m (i : Int) = some true := by
  induction d with
  | zero =>
    intro i k hi hk
    obtain ⟨k, rfl⟩ : ∃ q, k = q + 1 := ⟨k - 1, by omega⟩
    simp only [carillonlaw14_CommandWords.l0]
    rw [if_neg (by omega), if_pos trivial]
    cases m
    · rfl
    · rw [if_pos rfl]
      have := hm.symm
      unfold wordB at this
      simp only [Bool.and_eq_true, decide_eq_true_eq] at this
      rw [decide_eq_true (by omega)]
  | succ d ih =>
    intro i k hi hk
    obtain ⟨k, rfl⟩ : ∃ q, k = q + 1 := ⟨k - 1, by omega⟩
    have hn : carillonlaw14_CommandWords.l0 k s true m (wrap64 ((i : Int) + 1)) = some true := by
      rw [show wrap64 ((i : Int) + 1) = ((i + 1 : Nat) : Int) by unfold wrap64; omega]
      exact ih (i + 1) k (by omega) (by omega)
    simp only [carillonlaw14_CommandWords.l0]
    rw [if_pos (by omega)]
    cases m
    · rw [if_neg (by decide)]
      exact hn
    · rw [if_pos rfl, if_pos (by omega), hn, bt_get s i (by omega)]
      have := hm.symm
      unfold wordB at this
      simp only [Bool.and_eq_true, decide_eq_true_eq] at this
      have hl := List.all_eq_true.1 this.2 (s.data.toList.getD i 0) (by
        rw [List.getD_eq_getElem?_getD, List.getElem?_eq_getElem (by rw [data_len]; omega)]
        exact List.getElem_mem _)
      unfold letW at hl
      generalize (s.data.toList.getD i 0).toNat = x at *
      simp only [Bool.or_eq_true, Bool.and_eq_true, decide_eq_true_eq] at hl
      repeat' split
      all_goals first | rfl | omega
theorem words0 (s : ByteArray) (hs : s.size ≤ 140737488351232) (k : Nat) (hk : s.size < k) : carillonlaw14_CommandWords.j0 (k + 1) s true (wordB s) false = some true := by
  simp only [carillonlaw14_CommandWords.j0]
  rw [if_neg (by decide)]
  exact words_loop s hs _ rfl s.size 0 k (by omega) hk
theorem words_all (a b : ByteArray) (ha : a.size ≤ 140737488351232) (hb : b.size ≤ 140737488351232) (k : Nat) (hk : a.size < k) : carillonlaw14_CommandWords.f (k + 1) a b = some true := by
  unfold carillonlaw14_CommandWords.f
  rw [show carillonlaw14_examples.f = some true from rfl, word_is14 a, word_is14 b, word_is14 (a ++ b)]
  simp only [Option.bind_some]
  rw [if_pos (by omega)]
  have hsz : (a ++ b).size = a.size + b.size := ByteArray.size_append
  have hab : (a ++ b).data.toList = a.data.toList ++ b.data.toList := by rw [ByteArray.data_append, Array.toList_append]
  have hw : wrap64 ((a.size : Int) + (b.size : Int)) = ((a.size + b.size : Nat) : Int) := by unfold wrap64; omega
  have h0 := words0 a ha k hk
  have hA : wordB a = (decide (a.size ≠ 0) && decide (a.size ≤ 20) && a.data.toList.all letW) := rfl
  have hB : wordB b = (decide (b.size ≠ 0) && decide (b.size ≤ 20) && b.data.toList.all letW) := rfl
  have hAB : wordB (a ++ b) = (decide (a.size + b.size ≠ 0) && decide (a.size + b.size ≤ 20) && (a.data.toList.all letW && b.data.toList.all letW)) := by
    unfold wordB
    rw [hsz, hab, List.all_append]
  have nA : a.size = 0 → a.data.toList.all letW = true := fun h => by
    rw [show a.data.toList = [] from List.eq_nil_of_length_eq_zero (by rw [data_len]; exact h)]; rfl
  have nB : b.size = 0 → b.data.toList.all letW = true := fun h => by
    rw [show b.data.toList = [] from List.eq_nil_of_length_eq_zero (by rw [data_len]; exact h)]; rfl
  rw [hw, hAB]
  generalize wordB a = wa at *
  generalize wordB b = wb at *
  generalize a.data.toList.all letW = la at *
  generalize b.data.toList.all letW = lb at *
  generalize a.size = n at *
  generalize b.size = m at *
  have i1 : ((n : Int) > 0) = (n ≠ 0) := by rw [eq_iff_iff]; omega
  have i2 : ((m : Int) > 0) = (m ≠ 0) := by rw [eq_iff_iff]; omega
  have i3 : (((n + m : Nat) : Int) ≤ 20) = (n + m ≤ 20) := by rw [eq_iff_iff]; omega
  have i4 : (n + m ≠ 0) = (n ≠ 0 ∨ m ≠ 0) := by rw [eq_iff_iff]; omega
  simp only [i1, i2, i3]
  have hn20 : n + m ≤ 20 → n ≤ 20 ∧ m ≤ 20 := by omega
  by_cases zn : n = 0
  · by_cases zm : m = 0
    · subst zn zm
      have e1 := nA rfl
      have e2 := nB rfl
      subst e1 e2
      simp at hA hB
      subst hA hB
      simpa using h0
    · subst zn
      have e1 := nA rfl
      subst e1
      simp at hA
      subst hA
      have hm0 : decide (m ≠ 0) = true := decide_eq_true zm
      rw [hm0] at hB
      simp only [Nat.zero_add, Bool.true_and] at hB ⊢
      rw [hm0]
      subst hB
      cases lb <;> cases hd : decide (m ≤ 20) <;> simp [zm, hd] <;> first | simpa using h0 | skip
  · have hn0 : decide (n ≠ 0) = true := decide_eq_true zn
    have hs0 : decide (n + m ≠ 0) = true := decide_eq_true (by omega)
    rw [hn0] at hA
    rw [hs0]
    simp only [Bool.true_and] at hA ⊢
    by_cases zm : m = 0
    · subst zm
      have e2 := nB rfl
      subst e2
      simp at hB
      subst hB hA
      cases la <;> cases hd : decide (n ≤ 20) <;> simp [zn, hd] <;> first | simpa [hd] using h0 | skip
    · have hm0 : decide (m ≠ 0) = true := decide_eq_true zm
      rw [hm0] at hB
      simp only [Bool.true_and] at hB
      subst hA hB
      by_cases hh : n + m ≤ 20
      · have d1 : decide (n ≤ 20) = true := decide_eq_true (hn20 hh).1
        have d2 : decide (m ≤ 20) = true := decide_eq_true (hn20 hh).2
        have d3 : decide (n + m ≤ 20) = true := decide_eq_true hh
        rw [d1] at h0
        rw [d1, d2, d3]
        cases la <;> cases lb <;> simp [zn, zm] <;> first | simpa using h0 | skip
      · have d3 : decide (n + m ≤ 20) = false := decide_eq_false hh
        rw [d3]
        cases la <;> cases lb <;> cases h1 : decide (n ≤ 20) <;> cases h2 : decide (m ≤ 20) <;> simp [zn, zm, h1, h2] <;> first | simpa [h1] using h0 | skip
theorem CommandWords : carillonlaw14_CommandWords.Pure := by
  intro x0 x1 h0 h1
  exact ⟨x0.size + 2, words_all x0 x1 h0 h1 (x0.size + 1) (by omega)⟩
end Go.Proofs.YtpgiagdpepkooaaDoor.P
