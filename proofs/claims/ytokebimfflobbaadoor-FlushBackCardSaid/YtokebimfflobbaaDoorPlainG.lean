/- The law FlushLogs, over plain lists. -/
import Derived.Test.YtokebimfflobbaaDoorPx9
import Derived.Test.YtokebimfflobbaaDoorPlainM
namespace Go.Proofs.YtokebimfflobbaaDoor.P
open Go.RowKit Go.Proofs.YtokebimfflobbaaDoorW.PrintWords Go.Proofs.YtokebimfflobbaaDoorW.PrintLast Go.Proofs.YtokebimfflobbaaDoorW.PrintMore
set_option linter.unusedSimpArgs false
set_option linter.unusedVariables false
set_option maxRecDepth 100000
theorem texts_loop (l : List ByteArray) (hl : l.length ≤ 4611686018427387904) (d : Nat) : ∀ (i k : Nat), i + d = l.length → d < k → carillonlaw19_texts.l0 k l l (i : Int) = some true := by
  induction d with
  | zero =>
    intro i k hi hk
    obtain ⟨k, rfl⟩ : ∃ m, k = m + 1 := ⟨k - 1, by omega⟩
    simp only [carillonlaw19_texts.l0]
    rw [if_neg (by omega)]
  | succ d ih =>
    intro i k hi hk
    obtain ⟨k, rfl⟩ : ∃ m, k = m + 1 := ⟨k - 1, by omega⟩
    have ew : wrap64 ((i : Int) + 1) = ((i + 1 : Nat) : Int) := by rw [wr_id] <;> omega
    simp only [carillonlaw19_texts.l0]
    rw [if_pos (by omega), if_pos (by omega), if_pos (by omega), if_pos trivial, ew]
    exact ih (i + 1) k (by omega) (by omega)
theorem texts_is (l : List ByteArray) (hl : l.length ≤ 4611686018427387904) (k : Nat) (hk : l.length < k) : carillonlaw19_texts.f k l l = some true := by
  unfold carillonlaw19_texts.f
  rw [if_pos rfl]
  exact texts_loop l hl l.length 0 k (by omega) hk
theorem logs_clear (l : List (List ByteArray)) (a b : List ByteArray) (t : Bool) (e : Int) (x : List ByteArray) (n : Int) (d : Nat) : ∀ (k i : Nat) (y : List ByteArray), y.length ≤ 4611686018427387904 → i + d = y.length → (∀ j, i ≤ j → (y.getD j ByteArray.empty).size ≤ 140737488351232) →
    carillonlaw19_FlushLogs.l1 (k + d + 1) l a b t e x n y (i : Int) = carillonlaw19_FlushLogs.l0 k l a b t e x (wrap64 (n + 1)) := by
  induction d with
  | zero =>
    intro k i y hy hi hs
    simp only [carillonlaw19_FlushLogs.l1]
    rw [if_neg (by omega)]
  | succ d ih =>
    intro k i y hy hi hs
    have ew : wrap64 ((i : Int) + 1) = ((i + 1 : Nat) : Int) := by rw [wr_id] <;> omega
    have h0 := hs i (Nat.le_refl _)
    rw [show k + (d + 1) + 1 = (k + d + 1) + 1 by omega]
    simp only [carillonlaw19_FlushLogs.l1]
    rw [if_pos (by omega), if_pos (by omega), rdS, if_pos (by omega), ew]
    refine ih k (i + 1) _ (by simpa using hy) (by simp; omega) (fun j hj => ?_)
    have := hs j (by omega)
    rw [List.getD_eq_getElem?_getD] at this ⊢
    rw [List.getElem?_set_ne (by show i ≠ j; omega)]
    exact this
theorem logs_all (M : Nat) (hM : M ≤ 8796093022207) (l : List (List ByteArray)) (a b : List ByteArray) (hy : ∀ x ∈ l, x.length ≤ M) (hs : ∀ x ∈ l, ∀ s ∈ x, s.size ≤ 140737488351232) (hl : l.length ≤ 4611686018427387904) (ha : a.length ≤ 4611686018427387904) (k : Nat) (hk : (l.length + 1) * (l.length + 2) + 4 * M + a.length + 50 < k) :
    carillonlaw19_FlushLogs.f k l a b = some true := by
  have hsq : l.length ≤ (l.length + 1) * (l.length + 2) := by
    have : (l.length + 1) * 1 ≤ (l.length + 1) * (l.length + 2) := Nat.mul_le_mul_left _ (by omega)
    omega
  unfold carillonlaw19_FlushLogs.f
  rw [show carillonlaw19_examples.f = some true from rfl, rlongest_is M hM l hy hl k (by omega)]
  have hx : (lngS l).1.length ≤ M ∧ ∀ s ∈ (lngS l).1, s.size ≤ 140737488351232 := by
    cases l with
    | nil => exact ⟨Nat.zero_le _, fun s h => by cases h⟩
    | cons c r =>
      cases h : lng c r with
      | none =>
        rw [show lngS (c :: r) = ([], 11) by simp [lngS, h]]
        exact ⟨Nat.zero_le _, fun s hs => absurd hs (by simp)⟩
      | some x =>
        rw [show lngS (c :: r) = (x, 0) by simp [lngS, h]]
        have hm : x ∈ c :: r := by
          rcases lng_mem r c x h with h | h
          · rw [h]; exact List.mem_cons_self ..
          · exact List.mem_cons_of_mem _ h
        exact ⟨hy x hm, hs x hm⟩
  have hlong : ∀ k, l.length + M + 3 < k → flush_Longest.f k l = some (lngS l) := fun k hk => longest_is M hM l hy hl k hk
  generalize lngS l = p at hx hlong
  obtain ⟨x, e⟩ := p
  obtain ⟨hx1, hx2⟩ := hx
  dsimp only at hx1 hx2
  have hg : ∀ j, (x.getD j ByteArray.empty).size ≤ 140737488351232 := by
    intro j
    by_cases h : j < x.length
    · rw [List.getD_eq_getElem?_getD, List.getElem?_eq_getElem h]
      exact hx2 _ (List.getElem_mem h)
    · rw [List.getD_eq_getElem?_getD, List.getElem?_eq_none (by omega)]
      show (0 : Nat) ≤ _
      omega
  have turn : ∀ (k : Nat) (n : Int), n < 2 → l.length + 2 * M + 6 < k → carillonlaw19_FlushLogs.l0 (k + 1) l a b true e x n = carillonlaw19_FlushLogs.l0 (k - x.length - 1) l a b true e x (wrap64 (n + 1)) := by
    intro k n hn hk
    simp only [carillonlaw19_FlushLogs.l0]
    rw [if_pos hn, hlong k (by omega)]
    simp only [Option.bind_some]
    rw [texts_is x (by omega) k (by omega)]
    simp only [Option.bind_some, if_true]
    have := logs_clear l a b true e x n x.length (k - x.length - 1) 0 x (by omega) (by omega) (fun j _ => hg j)
    rw [show k - x.length - 1 + x.length + 1 = k by omega] at this
    exact this
  simp only [Option.bind_some, List.length_nil, List.nil_append]
  rw [if_pos (by omega)]
  obtain ⟨k, rfl⟩ : ∃ m, k = m + 1 := ⟨k - 1, by omega⟩
  rw [turn k 0 (by decide) (by omega), show wrap64 (0 + 1) = 1 by rw [wr_id] <;> omega]
  obtain ⟨k2, hk2⟩ : ∃ m, k - x.length - 1 = m + 1 := ⟨k - x.length - 2, by omega⟩
  rw [hk2, turn k2 1 (by decide) (by omega), show wrap64 (1 + 1) = 2 by rw [wr_id] <;> omega]
  obtain ⟨k3, hk3⟩ : ∃ m, k2 - x.length - 1 = m + 1 := ⟨k2 - x.length - 2, by omega⟩
  rw [hk3]
  simp only [carillonlaw19_FlushLogs.l0]
  rw [if_neg (by decide), common_is a b ha k3 (by omega), rcommon_is a b ha k3 (by omega), prefix_is a b ha k3 (by omega), rprefix_is a b ha k3 (by omega)]
  have e : decide (cmn a b = a.length) = decide (pfx a b) := by
    by_cases h : cmn a b = a.length
    · rw [decide_eq_true h, decide_eq_true (show pfx a b from h)]
    · rw [decide_eq_false h, decide_eq_false (show ¬ pfx a b from h)]
  simp [e]
end Go.Proofs.YtokebimfflobbaaDoor.P
