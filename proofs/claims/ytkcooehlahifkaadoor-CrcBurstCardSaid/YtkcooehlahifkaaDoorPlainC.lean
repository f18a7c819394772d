/- The program's Frame and Take, and the document's, are told by one plain function each. -/
import Derived.Test.YtkcooehlahifkaaDoorPlainB
namespace Go.Proofs.YtkcooehlahifkaaDoor.P
open Go.RowKit Go.Proofs.YtkcooehlahifkaaDoorW.PrintWords Go.Proofs.YtkcooehlahifkaaDoorW.PrintLast Go.Proofs.YtkcooehlahifkaaDoorW.PrintMore
set_option linter.unusedSimpArgs false
set_option linter.unusedVariables false
/-- The sum that stands in a frame: of the length's bytes, gone on with the body. -/
def sumOf (l b : List UInt8) : Nat := 4294967295 ^^^ crcFoldN (crcFoldN 4294967295 l) b
theorem sumOf_lt (l b : List UInt8) : sumOf l b < 4294967296 := xor_lt32 (by decide) (crcFoldN_lt _ (crcFoldN_lt _ (by decide)))
/-- The sum of a text. -/
def sum0 (l : List UInt8) : Nat := 4294967295 ^^^ crcFoldN 4294967295 l
theorem sum_zero (s : ByteArray) (h : s.size ≤ 9223372036854775807) : crc_Sum.f s = some ((sum0 (ls s) : Nat) : Int) := by
  unfold crc_Sum.f
  rw [more_zero s h, Option.bind_some]
  unfold sum0 ls
  exact Eq.refl _
theorem sum_on (l : List UInt8) (b : ByteArray) (h : b.size ≤ 9223372036854775807) : crc_More.f ((sum0 l : Nat) : Int) b = some ((sumOf l (ls b) : Nat) : Int) := by
  unfold sum0
  rw [more_on _ (crcFoldN_lt l (by decide)) b h]
  unfold sumOf ls
  exact Eq.refl _
/-- A frame's bytes. -/
def frameL (b : List UInt8) : List UInt8 := word4 b.length ++ word4 (sumOf (word4 b.length) b) ++ b
def word (n : Nat) : ByteArray := strOfNums ([((n : Nat) : Int) / 16777216 % 256, (n : Int) / 65536 % 256, (n : Int) / 256 % 256, (n : Int) % 256] : List Int)
theorem word_size (n : Nat) : (word n).size = 4 := by unfold word; rw [strOfNums_size]; rfl
theorem word_bytes (n : Nat) : ls (word n) = word4 n := word_ls n
def frame (b : ByteArray) : ByteArray := word b.size ++ word (sumOf (word4 b.size) (ls b)) ++ b
theorem frame_ls (b : ByteArray) : ls (frame b) = frameL (ls b) := by
  unfold frame frameL
  rw [ls_append, ls_append, word_bytes, word_bytes, ls_len]
theorem frame_size (b : ByteArray) : (frame b).size = b.size + 8 := by
  unfold frame
  rw [ByteArray.size_append, ByteArray.size_append, word_size, word_size]
  omega
theorem frame_is (b : ByteArray) : crc_Frame.f b = some (if (b.size : Int) > 400000 then ((⟨#[]⟩ : ByteArray), 3) else (frame b, 0)) := by
  unfold crc_Frame.f
  by_cases h : (b.size : Int) > 400000
  · rw [if_pos h, if_pos h]
  · rw [if_neg h, if_neg h]
    have e0 : ((b.size : Int)) % 4294967296 = ((b.size : Nat) : Int) := by omega
    rw [e0]
    have hw : crc_word.f ((b.size : Nat) : Int) = some (word b.size) := rfl
    have hs : crc_Sum.f (word b.size) = some ((sum0 (word4 b.size) : Nat) : Int) := by
      rw [sum_zero _ (by rw [word_size]; omega), word_bytes]
    have hm := sum_on (word4 b.size) b (by omega)
    have hw2 : crc_word.f ((sumOf (word4 b.size) (ls b) : Nat) : Int) = some (word (sumOf (word4 b.size) (ls b))) := by
      generalize sumOf (word4 b.size) (ls b) = q
      rfl
    rw [hw, Option.bind_some, hs, Option.bind_some, hm, Option.bind_some, hw2, Option.bind_some]
    rw [if_pos (by rw [word_size, word_size]; omega), if_pos (by rw [ByteArray.size_append, word_size, word_size]; omega)]
    unfold frame
    exact Eq.refl _
/-- What Take answers. -/
def takeV (s : ByteArray) : ByteArray × Int × Int :=
  if s.size < 4 then (⟨#[]⟩, 0, 2) else if 400000 < num4 (ls s) then (⟨#[]⟩, 0, 3) else if s.size < 8 + num4 (ls s) then (⟨#[]⟩, 0, 2)
  else if sumOf ((ls s).take 4) (((ls s).drop 8).take (num4 (ls s))) = num4 ((ls s).drop 4) then (s.extract 8 (8 + num4 (ls s)), ((8 + num4 (ls s) : Nat) : Int), 0) else (⟨#[]⟩, 0, 4)
theorem take_is (s : ByteArray) (hs : s.size ≤ 9223372036854775807) : crc_Take.f s = some (takeV s) := by
  unfold crc_Take.f takeV
  by_cases h4 : s.size < 4
  · rw [if_pos (by omega), if_pos h4]
  · rw [if_neg (by omega), if_neg h4, num_is s (by omega), Option.bind_some]
    have hn := num4_lt (ls s)
    generalize hn4 : num4 (ls s) = n at *
    by_cases h5 : 400000 < n
    · rw [if_pos (by omega), if_pos h5]
    · rw [if_neg (by omega), if_neg h5]
      have w1 : IntKind.u64.wrap ((s.size : Int)) = (s.size : Int) := by rw [IntKind.wrap_u64]; omega
      have w2 : IntKind.u64.wrap ((n : Int)) = (n : Int) := by rw [IntKind.wrap_u64]; omega
      have w3 : IntKind.u64.wrap (8 + (n : Int)) = ((8 + n : Nat) : Int) := by rw [IntKind.wrap_u64]; omega
      rw [w1, w2, w3]
      by_cases h6 : s.size < 8 + n
      · rw [if_pos (by omega), if_pos h6]
      · rw [if_neg (by omega), if_neg h6]
        have w4 : (8 + (n : Int)) % 4294967296 = ((8 + n : Nat) : Int) := by omega
        have w5 : wrap64 (n : Int) = (n : Int) := by unfold wrap64; omega
        have w6 : wrap64 (8 + (n : Int)) = ((8 + n : Nat) : Int) := by unfold wrap64; omega
        rw [w4, w5, w6, if_pos (by omega), if_pos (by omega), if_pos (by decide), if_pos (by omega)]
        have e4 : (s.extract 0 4).size = 4 := by rw [← ls_len, ls_extract, List.length_take, List.length_drop, ls_len]; omega
        have hsum : crc_Sum.f (s.extract 0 4) = some ((sum0 ((ls s).take 4) : Nat) : Int) := by
          rw [sum_zero _ (by omega), ls_extract, List.drop_zero]
        have e8 : (s.extract 8 (8 + n)).size ≤ n := by rw [← ls_len, ls_extract, List.length_take]; omega
        have hm := sum_on ((ls s).take 4) (s.extract 8 (8 + n)) (by omega)
        rw [ls_extract s 8 (8 + n), show 8 + n - 8 = n by omega] at hm
        have e5 : (s.extract 4 s.size).size = s.size - 4 := by rw [← ls_len, ls_extract, List.length_take, List.length_drop, ls_len]; omega
        have hnum : crc_number.f (s.extract 4 s.size) = some ((num4 ((ls s).drop 4) : Nat) : Int) := by
          rw [num_is _ (by omega), ls_extract, List.take_of_length_le (by rw [List.length_drop, ls_len]; omega)]
        rw [show (((8 + n : Nat) : Int)).toNat = 8 + n from rfl]
        rw [hsum, Option.bind_some, hm, Option.bind_some, hnum, Option.bind_some]
        by_cases h7 : sumOf ((ls s).take 4) (((ls s).drop 8).take n) = num4 ((ls s).drop 4)
        · rw [if_pos (by rw [h7]), if_pos h7]
        · rw [if_neg (fun h => h7 (Int.ofNat_inj.1 h)), if_neg h7]
end Go.Proofs.YtkcooehlahifkaaDoor.P
