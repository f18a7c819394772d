/- The document's Frame, Take and All are told by the same plain functions as the program's; what Take tells of a frame; two lists of texts. -/
import Derived.Test.YtkcooehlahifkaaDoorPlainC
import Derived.Test.YtkcooehlahifkaaDoorPx3
namespace Go.Proofs.YtkcooehlahifkaaDoor.P
open Go.RowKit Go.Proofs.YtkcooehlahifkaaDoorW.PrintWords Go.Proofs.YtkcooehlahifkaaDoorW.PrintLast Go.Proofs.YtkcooehlahifkaaDoorW.PrintMore
set_option linter.unusedSimpArgs false
set_option linter.unusedVariables false
theorem rsum_zero (s : ByteArray) (h : s.size ≤ 9223372036854775807) (k : Nat) (hk : 10 * s.size + 1 ≤ k) : carillonref02_Sum.f k s = some ((sum0 (ls s) : Nat) : Int) := by
  unfold carillonref02_Sum.f
  rw [ref_more 0 s (by omega) (by omega) h k hk]
  exact sum_zero s h
theorem sum0_append (l b : List UInt8) : sum0 (l ++ b) = sumOf l b := by
  unfold sum0 sumOf
  rw [fold_append]
theorem rframe_is (b : ByteArray) (k : Nat) (hk : 4000100 ≤ k) : carillonref02_Frame.f k b = some (if (b.size : Int) > 400000 then ((⟨#[]⟩ : ByteArray), false) else (frame b, true)) := by
  unfold carillonref02_Frame.f
  by_cases h : (b.size : Int) > 400000
  · rw [if_pos h, if_pos h]
  · rw [if_neg h, if_neg h]
    have e0 : ((b.size : Int)) % 4294967296 = ((b.size : Nat) : Int) := by omega
    rw [e0]
    have hw : carillonref02_word.f ((b.size : Nat) : Int) = some (word b.size) := rfl
    have hz : (word b.size ++ b).size = 4 + b.size := by rw [ByteArray.size_append, word_size]
    have hs : carillonref02_Sum.f k (word b.size ++ b) = some ((sumOf (word4 b.size) (ls b) : Nat) : Int) := by
      rw [rsum_zero _ (by omega) k (by omega), ls_append, word_bytes, sum0_append]
    have hw2 : carillonref02_word.f ((sumOf (word4 b.size) (ls b) : Nat) : Int) = some (word (sumOf (word4 b.size) (ls b))) := by
      generalize sumOf (word4 b.size) (ls b) = q
      rfl
    rw [hw, Option.bind_some, if_pos (by rw [word_size]; omega), hs, Option.bind_some, hw2, Option.bind_some]
    rw [if_pos (by rw [word_size, word_size]; omega), if_pos (by rw [ByteArray.size_append, word_size, word_size]; omega)]
    unfold frame
    exact Eq.refl _
theorem num4_take (l : List UInt8) (n : Nat) (h : 4 ≤ n) : num4 (l.take n) = num4 l := by
  have e : ∀ i, i < 4 → by8 (l.take n) i = by8 l i := by
    intro i hi
    unfold by8
    rw [List.getD_eq_getElem?_getD, List.getD_eq_getElem?_getD, List.getElem?_take_of_lt (by omega)]
  unfold num4
  rw [e 0 (by omega), e 1 (by omega), e 2 (by omega), e 3 (by omega)]
theorem rtake_is (s : ByteArray) (hs : s.size ≤ 9223372036854775807) (k : Nat) (hk : 4000100 ≤ k) : carillonref02_Take.f k s = some (takeV s) := by
  unfold carillonref02_Take.f takeV
  by_cases h4 : s.size < 4
  · rw [if_pos (by omega), if_pos h4]
  · have z4 : (s.extract 0 4).size = 4 := by rw [← ls_len, ls_extract, List.length_take, List.length_drop, ls_len]; omega
    have v4 : carillonref02_value.f (s.extract 0 4) = some ((num4 (ls s) : Nat) : Int) := by
      rw [rnum_is _ (by omega), ls_extract, List.drop_zero, num4_take _ _ (by omega)]
    rw [if_neg (by omega), if_neg h4, if_pos (by omega), if_pos (by omega), v4, Option.bind_some]
    have hn := num4_lt (ls s)
    generalize hn4 : num4 (ls s) = n at *
    by_cases h5 : 400000 < n
    · rw [if_pos (by omega), if_pos h5]
    · rw [if_neg (by omega), if_neg h5]
      have w5 : wrap64 (n : Int) = (n : Int) := by unfold wrap64; omega
      have w6 : wrap64 (8 + (n : Int)) = ((8 + n : Nat) : Int) := by unfold wrap64; omega
      rw [w5, w6]
      by_cases h6 : s.size < 8 + n
      · rw [if_pos (by omega), if_pos h6]
      · rw [if_neg (by omega), if_neg h6]
        have z8 : (s.extract 4 8).size = 4 := by rw [← ls_len, ls_extract, List.length_take, List.length_drop, ls_len]; omega
        have v8 : carillonref02_value.f (s.extract 4 8) = some ((num4 ((ls s).drop 4) : Nat) : Int) := by
          rw [rnum_is _ (by omega), ls_extract, num4_take _ _ (by omega)]
        rw [if_pos (by omega), if_pos (by omega), v8, Option.bind_some, if_pos (by omega), if_pos (by omega)]
        rw [show (((8 + n : Nat) : Int)).toNat = 8 + n from rfl]
        have e8 : (s.extract 8 (8 + n)).size ≤ n := by rw [← ls_len, ls_extract, List.length_take]; omega
        have hz : ((s.extract 0 4) ++ (s.extract 8 (8 + n))).size = 4 + (s.extract 8 (8 + n)).size := by rw [ByteArray.size_append, z4]
        have hsum : carillonref02_Sum.f k ((s.extract 0 4) ++ (s.extract 8 (8 + n))) = some ((sumOf ((ls s).take 4) (((ls s).drop 8).take n) : Nat) : Int) := by
          rw [rsum_zero _ (by omega) k (by omega), ls_append, ls_extract, ls_extract, sum0_append, List.drop_zero, show 8 + n - 8 = n by omega]
        rw [if_pos (by omega), hsum, Option.bind_some]
        by_cases h7 : sumOf ((ls s).take 4) (((ls s).drop 8).take n) = num4 ((ls s).drop 4)
        · rw [if_pos (by rw [h7]), if_pos h7]
        · rw [if_neg (fun h => h7 (Int.ofNat_inj.1 h).symm), if_neg h7]
/-- What Take tells: a frame within the text, or nothing. -/
theorem take_tells (s : ByteArray) : (takeV s).2.2 = 0 ∧ (takeV s).2.1 = (((takeV s).1.size + 8 : Nat) : Int) ∧ (takeV s).1.size + 8 ≤ s.size ∨ (takeV s).2.2 ≠ 0 ∧ (takeV s).1 = ⟨#[]⟩ ∧ (takeV s).2.1 = 0 := by
  unfold takeV
  by_cases h4 : s.size < 4
  · rw [if_pos h4]; right; exact ⟨by decide, rfl, rfl⟩
  · rw [if_neg h4]
    generalize num4 (ls s) = n
    by_cases h5 : 400000 < n
    · rw [if_pos h5]; right; exact ⟨by decide, rfl, rfl⟩
    · rw [if_neg h5]
      by_cases h6 : s.size < 8 + n
      · rw [if_pos h6]; right; exact ⟨by decide, rfl, rfl⟩
      · rw [if_neg h6]
        generalize num4 ((ls s).drop 4) = q
        generalize sumOf ((ls s).take 4) (((ls s).drop 8).take n) = p
        by_cases h7 : p = q
        · rw [if_pos h7]
          have e8 : (s.extract 8 (8 + n)).size = n := by rw [← ls_len, ls_extract, List.length_take, List.length_drop, ls_len]; omega
          left
          refine ⟨rfl, ?_, ?_⟩
          · show ((8 + n : Nat) : Int) = (((s.extract 8 (8 + n)).size + 8 : Nat) : Int)
            omega
          · show (s.extract 8 (8 + n)).size + 8 ≤ s.size
            omega
        · rw [if_neg h7]; right; exact ⟨by decide, rfl, rfl⟩
/-- All of the program and of the document, from place u on: alike. -/
theorem all_eq (s : ByteArray) (hs : s.size ≤ 9223372036854775807) (d : Nat) : ∀ (u k : Nat) (l : List ByteArray), u + d = s.size → 4000100 + d < k → l.length + d < 8796093022208 →
    ∃ r, crc_All.l0 k s l (u : Int) = some r ∧ carillonref02_All.l0 k s l (u : Int) = some r ∧ r.1.length ≤ l.length + d := by
  induction d using Nat.strongRecOn with
  | _ d ih =>
    intro u k l hd hk hl
    obtain ⟨k, rfl⟩ : ∃ m, k = m + 1 := ⟨k - 1, by omega⟩
    rw [crc_All.l0, carillonref02_All.l0]
    by_cases h0 : d = 0
    · rw [if_pos (by omega), if_neg (by omega)]
      exact ⟨_, rfl, rfl, by show l.length ≤ _; omega⟩
    · rw [if_neg (by omega), if_pos (by omega), if_pos (by omega), if_pos (by omega), if_pos (by omega), if_pos (by omega)]
      rw [show ((u : Int)).toNat = u from rfl]
      have hz : (s.extract u s.size).size = d := by rw [← ls_len, ls_extract, List.length_take, List.length_drop, ls_len]; omega
      rw [take_is _ (by omega), rtake_is _ (by omega) k (by omega), Option.bind_some, Option.bind_some]
      have ht := take_tells (s.extract u s.size)
      generalize takeV (s.extract u s.size) = t at *
      by_cases he : t.2.2 = 0
      · rw [if_pos he, if_pos he, if_pos (by omega), if_pos (by omega)]
        rcases ht with ⟨_, h1, h2⟩ | ⟨h1, _⟩
        · have hw : wrap64 ((u : Int) + t.2.1) = ((u + (t.1.size + 8) : Nat) : Int) := by rw [h1]; unfold wrap64; omega
          rw [hw]
          obtain ⟨r, r1, r2, r3⟩ := ih (d - (t.1.size + 8)) (by omega) (u + (t.1.size + 8)) k (l ++ [t.1]) (by omega) (by omega) (by rw [List.length_append, List.length_singleton]; omega)
          exact ⟨r, r1, r2, by rw [List.length_append, List.length_singleton] at r3; omega⟩
        · exact absurd he h1
      · rw [if_neg he, if_neg he]
        exact ⟨_, rfl, rfl, by show l.length ≤ _; omega⟩
/-- Two lists of texts are held against each other. -/
theorem texts_loop (l : List ByteArray) (hl : l.length ≤ 9223372036854775807) (d : Nat) : ∀ (i k : Nat), i + d = l.length → d < k → carillonlaw02_texts.l0 k l l (i : Int) = some true := by
  induction d with
  | zero =>
    intro i k hi hk
    obtain ⟨k, rfl⟩ : ∃ m, k = m + 1 := ⟨k - 1, by omega⟩
    rw [carillonlaw02_texts.l0, if_neg (by omega)]
  | succ d ih =>
    intro i k hi hk
    obtain ⟨k, rfl⟩ : ∃ m, k = m + 1 := ⟨k - 1, by omega⟩
    have hw : wrap64 ((i : Int) + 1) = ((i + 1 : Nat) : Int) := by unfold wrap64; omega
    rw [carillonlaw02_texts.l0, if_pos (by omega), if_pos (by omega), if_pos (by omega), if_pos rfl, hw]
    exact ih (i + 1) k (by omega) (by omega)
theorem texts_refl (l : List ByteArray) (hl : l.length ≤ 9223372036854775807) (k : Nat) (hk : l.length < k) : carillonlaw02_texts.f k l l = some true := by
  unfold carillonlaw02_texts.f
  rw [if_pos rfl]
  exact texts_loop l hl l.length 0 k (by omega) hk
end Go.Proofs.YtkcooehlahifkaaDoor.P
