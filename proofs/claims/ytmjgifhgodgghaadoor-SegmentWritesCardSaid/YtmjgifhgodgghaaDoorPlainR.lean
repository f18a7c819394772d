/- The document's sum and frames are the program's. -/
import Derived.Test.YtmjgifhgodgghaaDoorPx11
import Derived.Test.YtmjgifhgodgghaaDoorPx12
import Derived.Test.YtmjgifhgodgghaaDoorPlainS
namespace Go.Proofs.YtmjgifhgodgghaaDoor.P
open Go.RowKit Go.Proofs.YtmjgifhgodgghaaDoorW.PrintWords Go.Proofs.YtmjgifhgodgghaaDoorW.PrintLast Go.Proofs.YtmjgifhgodgghaaDoorW.PrintMore
set_option linter.unusedSimpArgs false
set_option linter.unusedVariables false
set_option maxRecDepth 100000
theorem ref_bits (x1 : ByteArray) (i : Nat) (hi : i < x1.size) (n : Nat) : ∀ (j u k : Nat), j + n = 8 → u < 4294967296 →
    carillonref02_More.l1 (k + n + 1) x1 (u : Int) (i : Int) (j : Int) = carillonref02_More.l0 k x1 ((bitsN n u ((x1.data.toList.getD i 0).toNat / 2 ^ j) : Nat) : Int) (wrap64 ((i : Int) + 1)) := by
  induction n with
  | zero =>
    intro j u k hj hu
    obtain rfl : j = 8 := by omega
    rw [carillonref02_More.l1, if_neg (by decide)]
    rfl
  | succ n ih =>
    intro j u k hj hu
    have hjj : (j : Int) < 8 := by omega
    rw [show k + (n + 1) + 1 = (k + n + 1) + 1 by omega]
    rw [carillonref02_More.l1, if_pos hjj, if_pos (by omega), if_pos (by omega), if_pos (by omega), bt_nat, shr8 _ _ (by omega)]
    have hw : wrap64 ((j : Int) + 1) = ((j + 1 : Nat) : Int) := by unfold wrap64; omega
    have hd : Int.tdiv (u : Int) 2 = ((u / 2 : Nat) : Int) := by rw [Int.tdiv_eq_ediv_of_nonneg (by omega)]; rfl
    have hm : Int.tmod (u : Int) 2 = ((u % 2 : Nat) : Int) := by rw [Int.tmod_eq_emod_of_nonneg (by omega)]; rfl
    have hdm : ((u / 2 : Nat) : Int) % 4294967296 = ((u / 2 : Nat) : Int) := by omega
    generalize hc : (x1.data.toList.getD i 0).toNat = c
    have hc8 : c < 256 := by rw [← hc]; exact UInt8.toNat_lt _
    have hcj : c / 2 ^ j < 256 := Nat.lt_of_le_of_lt (Nat.div_le_self _ _) hc8
    have ih' := ih (j + 1) (bitst u (c / 2 ^ j % 2)) k (by omega) (by
      unfold bitst
      split
      · exact Nat.xor_lt_two_pow (n := 32) (by omega) (by decide)
      · omega)
    rw [hc] at ih'
    rw [hw, hd, hm, hdm]
    have hbit : (((c / 2 ^ j : Nat) : Int) % 4294967296 % 2 = ((u % 2 : Nat) : Int)) ↔ c / 2 ^ j % 2 = u % 2 := by omega
    simp only [bitsN]
    rw [Nat.div_div_eq_div_mul, ← Nat.pow_succ]
    by_cases hb : c / 2 ^ j % 2 = u % 2
    · rw [if_pos (hbit.2 hb), ← ih']
      unfold bitst
      rw [if_neg (by simpa using hb)]
    · rw [if_neg (fun h => hb (hbit.1 h)), ← ih']
      unfold bitst
      rw [if_pos hb]
      rw [show Go.bits .xor .u32 ((u / 2 : Nat) : Int) 2197175160 = ((u / 2 ^^^ 2197175160 : Nat) : Int) from u32_xor_nat (u / 2) 2197175160 (by omega) (by decide)]
theorem ref_bytes (x1 : ByteArray) (hs : x1.size ≤ 9223372036854775807) (n : Nat) : ∀ (i u k : Nat), i + n = x1.size → u < 4294967296 →
    carillonref02_More.l0 (k + 10 * n + 1) x1 (u : Int) (i : Int) = some ((4294967295 ^^^ crcFoldN u (x1.data.toList.drop i) : Nat) : Int) := by
  have hl : x1.data.toList.length = x1.size := by rw [Array.length_toList]; rfl
  induction n with
  | zero =>
    intro i u k hi hu
    rw [carillonref02_More.l0, if_neg (by omega), List.drop_of_length_le (by omega)]
    rw [show Go.bits .xor .u32 (u : Int) 4294967295 = ((u ^^^ 4294967295 : Nat) : Int) from u32_xor_nat u 4294967295 hu (by decide), Nat.xor_comm]
    rfl
  | succ n ih =>
    intro i u k hi hu
    rw [show k + 10 * (n + 1) + 1 = ((k + 10 * n + 1) + 8 + 1) + 1 by omega]
    rw [carillonref02_More.l0, if_pos (by omega)]
    have h := ref_bits x1 i (by omega) 8 0 u (k + 10 * n + 1) (by omega) hu
    rw [show ((0 : Nat) : Int) = 0 from rfl] at h
    rw [h, Nat.pow_zero, Nat.div_one]
    have hw : wrap64 ((i : Int) + 1) = ((i + 1 : Nat) : Int) := by unfold wrap64; omega
    have hc8 : (x1.data.toList.getD i 0).toNat < 256 := UInt8.toNat_lt _
    rw [hw, bitsN_byte _ _ hc8, ← crcByteN_is, ih (i + 1) _ k (by omega) (crcByteN_lt hu hc8)]
    rw [List.drop_eq_getElem_cons (i := i) (by omega)]
    have e : x1.data.toList[i]'(by omega) = x1.data.toList.getD i 0 := by rw [List.getD_eq_getElem?_getD, List.getElem?_eq_getElem (by omega)]; rfl
    rw [e]
    rfl
/-- The document's sum is the program's. -/
theorem ref_more (a0 : Int) (a1 : ByteArray) (h0 : 0 ≤ a0) (h1 : a0 < 4294967296) (hs : a1.size ≤ 9223372036854775807) : ∀ k, 10 * a1.size + 1 ≤ k → carillonref02_More.f k a0 a1 = crc_More.f a0 a1 := by
  intro k hk
  obtain ⟨m, rfl⟩ : ∃ m, k = m + 10 * a1.size + 1 := ⟨k - 10 * a1.size - 1, by omega⟩
  obtain ⟨n0, rfl⟩ : ∃ n0 : Nat, a0 = (n0 : Int) := ⟨a0.toNat, by omega⟩
  unfold carillonref02_More.f crc_More.f
  rw [if_pos ⟨h0, h1, hs⟩]
  rw [show Go.bits .xor .u32 (n0 : Int) 4294967295 = ((n0 ^^^ 4294967295 : Nat) : Int) from u32_xor_nat n0 4294967295 (by omega) (by decide)]
  have h := ref_bytes a1 hs a1.size 0 (n0 ^^^ 4294967295) m (by omega) (Nat.xor_lt_two_pow (n := 32) (by omega) (by decide))
  rw [show ((0 : Nat) : Int) = 0 from rfl] at h
  rw [h, List.drop_zero, Nat.xor_comm n0]
  rfl
theorem crnum_is (s : ByteArray) (h : 4 ≤ s.size) : carillonref02_value.f s = some ((num4 (ls s) : Nat) : Int) := cnum_is s h
theorem rsum_zero (s : ByteArray) (h : s.size ≤ 9223372036854775807) (k : Nat) (hk : 10 * s.size + 1 ≤ k) : carillonref02_Sum.f k s = some ((sum0 (ls s) : Nat) : Int) := by
  unfold carillonref02_Sum.f
  rw [ref_more 0 s (by omega) (by omega) h k hk]
  exact sum_zero s h
theorem rframe_is (b : ByteArray) (k : Nat) (hk : 4000100 ≤ k) : carillonref02_Frame.f k b = some (if (b.size : Int) > 400000 then ((⟨#[]⟩ : ByteArray), false) else (frame b, true)) := by
  unfold carillonref02_Frame.f
  by_cases h : (b.size : Int) > 400000
  · rw [if_pos h, if_pos h]
  · rw [if_neg h, if_neg h]
    have e0 : ((b.size : Int)) % 4294967296 = ((b.size : Nat) : Int) := by omega
    rw [e0]
    have hw : carillonref02_word.f ((b.size : Nat) : Int) = some (word b.size) := rfl
    have hz : (word b.size ++ b).size = 4 + b.size := by rw [ByteArray.size_append, word_size]
    have hs : carillonref02_Sum.f k (word b.size ++ b) = some ((sumOf (word4 b.size) (ls b) : Nat) : Int) := by
      rw [rsum_zero _ (by omega) k (by omega), ls_append, word_bytes, sum0_append]
    have hw2 : carillonref02_word.f ((sumOf (word4 b.size) (ls b) : Nat) : Int) = some (word (sumOf (word4 b.size) (ls b))) := by
      generalize sumOf (word4 b.size) (ls b) = q
      rfl
    rw [hw, Option.bind_some, if_pos (by rw [word_size]; omega), hs, Option.bind_some, hw2, Option.bind_some]
    rw [if_pos (by rw [word_size, word_size]; omega), if_pos (by rw [ByteArray.size_append, word_size, word_size]; omega)]
    unfold frame
    exact Eq.refl _
theorem crtake_is (s : ByteArray) (hs : s.size ≤ 9223372036854775807) (k : Nat) (hk : 4000100 ≤ k) : carillonref02_Take.f k s = some (takeV s) := by
  unfold carillonref02_Take.f takeV
  by_cases h4 : s.size < 4
  · rw [if_pos (by omega), if_pos h4]
  · have z4 : (s.extract 0 4).size = 4 := by rw [← ls_len, ls_extract, List.length_take, List.length_drop, ls_len]; omega
    have v4 : carillonref02_value.f (s.extract 0 4) = some ((num4 (ls s) : Nat) : Int) := by
      rw [crnum_is _ (by omega), ls_extract, List.drop_zero, num4_take _ _ (by omega)]
    rw [if_neg (by omega), if_neg h4, if_pos (by omega), if_pos (by omega), v4, Option.bind_some]
    have hn := num4_lt (ls s)
    generalize hn4 : num4 (ls s) = n at *
    by_cases h5 : 400000 < n
    · rw [if_pos (by omega), if_pos h5]
    · rw [if_neg (by omega), if_neg h5]
      have w5 : wrap64 (n : Int) = (n : Int) := by unfold wrap64; omega
      have w6 : wrap64 (8 + (n : Int)) = ((8 + n : Nat) : Int) := by unfold wrap64; omega
      rw [w5, w6]
      by_cases h6 : s.size < 8 + n
      · rw [if_pos (by omega), if_pos h6]
      · rw [if_neg (by omega), if_neg h6]
        have z8 : (s.extract 4 8).size = 4 := by rw [← ls_len, ls_extract, List.length_take, List.length_drop, ls_len]; omega
        have v8 : carillonref02_value.f (s.extract 4 8) = some ((num4 ((ls s).drop 4) : Nat) : Int) := by
          rw [crnum_is _ (by omega), ls_extract, num4_take _ _ (by omega)]
        rw [if_pos (by omega), if_pos (by omega), v8, Option.bind_some, if_pos (by omega), if_pos (by omega)]
        rw [show (((8 + n : Nat) : Int)).toNat = 8 + n from rfl]
        have e8 : (s.extract 8 (8 + n)).size ≤ n := by rw [← ls_len, ls_extract, List.length_take]; omega
        have hz : ((s.extract 0 4) ++ (s.extract 8 (8 + n))).size = 4 + (s.extract 8 (8 + n)).size := by rw [ByteArray.size_append, z4]
        have hsum : carillonref02_Sum.f k ((s.extract 0 4) ++ (s.extract 8 (8 + n))) = some ((sumOf ((ls s).take 4) (((ls s).drop 8).take n) : Nat) : Int) := by
          rw [rsum_zero _ (by omega) k (by omega), ls_append, ls_extract, ls_extract, sum0_append, List.drop_zero, show 8 + n - 8 = n by omega]
        rw [if_pos (by omega), hsum, Option.bind_some]
        by_cases h7 : sumOf ((ls s).take 4) (((ls s).drop 8).take n) = num4 ((ls s).drop 4)
        · rw [if_pos (by rw [h7]), if_pos h7]
        · rw [if_neg (fun h => h7 (Int.ofNat_inj.1 h).symm), if_neg h7]
end Go.Proofs.YtmjgifhgodgghaaDoor.P
