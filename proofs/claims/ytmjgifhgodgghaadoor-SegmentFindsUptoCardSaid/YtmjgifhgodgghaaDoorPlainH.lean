/- The sum, frames, and what is taken of frames, told plainly. -/
import Derived.OpenShut
import Derived.Test.YtmjgifhgodgghaaDoorPx27
import Derived.Test.YtmjgifhgodgghaaDoorPx3
import Derived.Test.YtmjgifhgodgghaaDoorPx4
import Derived.Test.YtmjgifhgodgghaaDoorPx6
import Derived.Test.YtmjgifhgodgghaaDoorPx9
import Derived.Test.YtmjgifhgodgghaaDoorPlainC
namespace Go.Proofs.YtmjgifhgodgghaaDoor.P
open Go.RowKit Go.Proofs.YtmjgifhgodgghaaDoorW.PrintWords Go.Proofs.YtmjgifhgodgghaaDoorW.PrintLast Go.Proofs.YtmjgifhgodgghaaDoorW.PrintMore
set_option linter.unusedSimpArgs false
set_option linter.unusedVariables false
set_option maxRecDepth 100000
/-- One step of the sum. -/
def stp (v : Nat) : Nat := (v / 2) ^^^ ((v % 2) * 0x82F63B78)
def stpN : Nat → Nat → Nat
  | 0, v => v
  | n + 1, v => stpN n (stp v)
theorem stpN_add (m n v : Nat) : stpN (m + n) v = stpN n (stpN m v) := by
  induction m generalizing v with
  | zero => simp [stpN]
  | succ m ih => rw [Nat.succ_add]; exact ih _
theorem xlc (a b c : Nat) : a ^^^ (b ^^^ c) = b ^^^ (a ^^^ c) := by rw [← Nat.xor_assoc, Nat.xor_comm a b, Nat.xor_assoc]
theorem xcl (a b : Nat) : a ^^^ (a ^^^ b) = b := by rw [← Nat.xor_assoc, Nat.xor_self, Nat.zero_xor]
theorem xor_div2 (a b : Nat) : (a ^^^ b) / 2 = (a / 2) ^^^ (b / 2) := by
  have := @Nat.shiftRight_xor_distrib 1 a b
  simpa [Nat.shiftRight_succ] using this
theorem xor_mod2 (a b : Nat) : (a ^^^ b) % 2 = (a % 2) ^^^ (b % 2) := by
  have := @Nat.xor_mod_two_pow a b 1
  simpa using this
theorem stp_xor (a b : Nat) : stp (a ^^^ b) = stp a ^^^ stp b := by
  unfold stp
  rw [xor_div2, xor_mod2]
  rcases Nat.mod_two_eq_zero_or_one a with h | h <;> rcases Nat.mod_two_eq_zero_or_one b with h' | h' <;> rw [h, h'] <;> simp [Nat.xor_assoc, Nat.xor_comm, xlc, xcl]
theorem stpN_xor (n a b : Nat) : stpN n (a ^^^ b) = stpN n a ^^^ stpN n b := by
  induction n generalizing a b with
  | zero => rfl
  | succ n ih => simp only [stpN]; rw [stp_xor, ih]
theorem stp_even (h : Nat) : stp (2 * h) = h := by
  unfold stp
  rw [show 2 * h / 2 = h by omega, show 2 * h % 2 = 0 by omega]
  simp
theorem stpN_four (h : Nat) : stpN 4 (16 * h) = h := by
  show stp (stp (stp (stp (16 * h)))) = h
  rw [show 16 * h = 2 * (8 * h) by omega, stp_even, show 8 * h = 2 * (4 * h) by omega, stp_even, show 4 * h = 2 * (2 * h) by omega, stp_even, stp_even]
theorem split16 (v : Nat) : v = (16 * (v / 16)) ^^^ (v % 16) := by
  have h1 : v % 16 < 2 ^ 4 := by omega
  have h2 := Nat.two_pow_add_eq_or_of_lt h1 (v / 16)
  have h3 : 2 ^ 4 * (v / 16) ^^^ v % 16 = 2 ^ 4 * (v / 16) ||| v % 16 := by
    apply Nat.eq_of_testBit_eq
    intro i
    rw [Nat.testBit_xor, Nat.testBit_or, Nat.testBit_two_pow_mul]
    by_cases hi : i < 4
    · simp [show ¬ 4 ≤ i by omega]
    · have : (v % 16).testBit i = false := Nat.testBit_lt_two_pow (Nat.lt_of_lt_of_le h1 (Nat.pow_le_pow_right (by omega) (by omega)))
      simp [this]
  have h4 : 2 ^ 4 * (v / 16) + v % 16 = v := by omega
  show v = 2 ^ 4 * (v / 16) ^^^ v % 16
  rw [h3, ← h2, h4]
def tabN : List Nat := [0x00000000, 0x105EC76F, 0x20BD8EDE, 0x30E349B1, 0x417B1DBC, 0x5125DAD3, 0x61C69362, 0x7198540D, 0x82F63B78, 0x92A8FC17, 0xA24BB5A6, 0xB21572C9, 0xC38D26C4, 0xD3D3E1AB, 0xE330A81A, 0xF36E6F75]
theorem tab_is : ∀ j : Fin 16, stpN 4 j.val = tabN.getD j.val 0 := by decide
theorem nibble (v : Nat) : stpN 4 v = (v / 16) ^^^ tabN.getD (v % 16) 0 := by
  have h := split16 v
  have e : stpN 4 v = stpN 4 ((16 * (v / 16)) ^^^ (v % 16)) := by rw [← h]
  rw [e, stpN_xor, stpN_four, tab_is ⟨v % 16, by omega⟩]
/-- The bits of a byte, one behind the other: u after k bits. -/
def bitst (u b : Nat) : Nat := if b ≠ u % 2 then (u / 2) ^^^ 0x82F63B78 else u / 2
theorem bitst_is (u d : Nat) : stp (u ^^^ d) = bitst u (d % 2) ^^^ (d / 2) := by
  unfold stp bitst
  rw [xor_div2, xor_mod2]
  rcases Nat.mod_two_eq_zero_or_one u with h | h <;> rcases Nat.mod_two_eq_zero_or_one d with h' | h' <;> rw [h, h'] <;> simp [Nat.xor_assoc, Nat.xor_comm, xlc, xcl]
def bitsN : Nat → Nat → Nat → Nat
  | 0, u, _ => u
  | n + 1, u, d => bitsN n (bitst u (d % 2)) (d / 2)
theorem bitsN_is (n u d : Nat) : stpN n (u ^^^ d) = bitsN n u d ^^^ (d / 2 ^ n) := by
  induction n generalizing u d with
  | zero => simp [stpN, bitsN]
  | succ n ih =>
    simp only [stpN, bitsN]
    rw [bitst_is, ih, Nat.div_div_eq_div_mul, Nat.pow_succ, Nat.mul_comm]
theorem bitsN_byte (u c : Nat) (hc : c < 256) : bitsN 8 u c = stpN 8 (u ^^^ c) := by
  rw [bitsN_is, show c / 2 ^ 8 = 0 by omega]
  simp
theorem stp_lt {v : Nat} (h : v < 4294967296) : stp v < 4294967296 := by
  unfold stp
  refine Nat.xor_lt_two_pow (n := 32) (Nat.lt_of_le_of_lt (Nat.div_le_self v 2) h) ?_
  rcases Nat.mod_two_eq_zero_or_one v with h' | h' <;> rw [h'] <;> decide
/-- The highest bit of a step tells the lowest one of what was. -/
theorem stp_zero {v : Nat} (h : v < 4294967296) (hz : stp v = 0) : v = 0 := by
  unfold stp at hz
  rcases Nat.mod_two_eq_zero_or_one v with h' | h'
  · rw [h'] at hz
    simp at hz
    omega
  · rw [h'] at hz
    have h1 : v / 2 = 0x82F63B78 := by
      have e := congrArg (fun x => x ^^^ 0x82F63B78) hz
      simp only [Nat.one_mul, Nat.xor_assoc, Nat.xor_self, Nat.xor_zero, Nat.zero_xor] at e
      exact e
    omega
theorem stpN_zero (n : Nat) {v : Nat} (h : v < 4294967296) (hz : stpN n v = 0) : v = 0 := by
  induction n generalizing v with
  | zero => exact hz
  | succ n ih => exact stp_zero h (ih (stp_lt h) hz)
theorem tabN_eq : tabN = crcTabN := rfl
theorem crcStepN_is (s : Nat) : crcStepN s = stpN 4 s := (nibble s).symm
theorem crcByteN_is (s c : Nat) : crcByteN s c = stpN 8 (s ^^^ c) := by
  unfold crcByteN
  rw [crcStepN_is, crcStepN_is, ← stpN_add]
theorem bt_nat (s : ByteArray) (i : Nat) : bt s (i : Int) = ((s.data.toList.getD i 0).toNat : Int) := by
  unfold bt
  have e : ((i : Int)).toNat = i := rfl
  rw [e]
  by_cases h : i < s.size
  · rw [dif_pos h]
    have hl : i < s.data.toList.length := by rw [Array.length_toList]; exact h
    rw [List.getD_eq_getElem?_getD, List.getElem?_eq_getElem hl]
    simp only [Option.getD_some]
    rfl
  · rw [dif_neg h]
    have hl : s.data.toList.length ≤ i := by rw [Array.length_toList]; exact Nat.not_lt.1 h
    rw [List.getD_eq_getElem?_getD, List.getElem?_eq_none hl]
    rfl
theorem shr8 (c j : Nat) (hj : j ≤ 8) : shr .u8 (c : Int) (j : Int) = ((c / 2 ^ j : Nat) : Int) := by
  unfold shr
  have e2 : (2 : Int) ^ j = ((2 ^ j : Nat) : Int) := by simp
  rw [show min ((j : Int)).toNat IntKind.u8.bits = j from Nat.min_eq_left hj]
  rw [e2]
  rfl
theorem xor0 : 4294967295 ^^^ (0 : Int).toNat = 4294967295 := by decide
theorem more_zero (s : ByteArray) (h : s.size ≤ 9223372036854775807) : crc_More.f 0 s = some ((4294967295 ^^^ crcFoldN 4294967295 s.data.toList : Nat) : Int) := by
  unfold crc_More.f
  rw [if_pos ⟨by decide, by decide, h⟩, xor0]
theorem more_on (m : Nat) (hm : m < 4294967296) (s : ByteArray) (h : s.size ≤ 9223372036854775807) : crc_More.f ((4294967295 ^^^ m : Nat) : Int) s = some ((4294967295 ^^^ crcFoldN m s.data.toList : Nat) : Int) := by
  have hx : 4294967295 ^^^ m < 4294967296 := xor_lt32 (by decide) hm
  unfold crc_More.f
  rw [if_pos ⟨by omega, by omega, h⟩]
  rw [show (((4294967295 ^^^ m : Nat) : Int)).toNat = 4294967295 ^^^ m from rfl, xcl]
theorem fold_append (s : Nat) (a b : List UInt8) : crcFoldN s (a ++ b) = crcFoldN (crcFoldN s a) b := by simp [crcFoldN]
theorem cdata_append (a b : ByteArray) : (a ++ b).data.toList = a.data.toList ++ b.data.toList := by rw [ByteArray.data_append, Array.toList_append]
theorem wf_u32 {x : Int} (h : (Lit.int .u32 x).wf = true) : 0 ≤ x ∧ x < 4294967296 := by
  have h2 := bounds_u32 h
  omega
def ls (s : ByteArray) : List UInt8 := s.data.toList
theorem ls_len (s : ByteArray) : (ls s).length = s.size := by unfold ls; rw [Array.length_toList]; rfl
theorem ls_append (a b : ByteArray) : ls (a ++ b) = ls a ++ ls b := cdata_append a b
theorem ls_extract (s : ByteArray) (a b : Nat) : ls (s.extract a b) = ((ls s).drop a).take (b - a) := by
  unfold ls
  rw [ByteArray.data_extract, Array.toList_extract]
theorem ls_inj {a b : ByteArray} (h : ls a = ls b) : a = b := by
  cases a; cases b
  unfold ls at h
  simp only [Array.toList_inj] at h
  rw [h]
/-- byte i of a text (0 behind its end) -/
def by8 (l : List UInt8) (i : Nat) : Nat := (l.getD i 0).toNat
theorem by8_lt (l : List UInt8) (i : Nat) : by8 l i < 256 := UInt8.toNat_lt _
/-- The number of four bytes. -/
def num4 (l : List UInt8) : Nat := by8 l 0 * 16777216 + by8 l 1 * 65536 + by8 l 2 * 256 + by8 l 3
theorem num4_lt (l : List UInt8) : num4 l < 4294967296 := by
  have := by8_lt l 0; have := by8_lt l 1; have := by8_lt l 2; have := by8_lt l 3
  unfold num4
  omega
/-- A number's four bytes. -/
def word4 (n : Nat) : List UInt8 := [UInt8.ofNat (n / 16777216), UInt8.ofNat (n / 65536), UInt8.ofNat (n / 256), UInt8.ofNat n]
theorem num4_word (n : Nat) (h : n < 4294967296) (l : List UInt8) : num4 (word4 n ++ l) = n := by
  unfold num4 by8 word4
  simp only [List.cons_append, List.nil_append, List.getD_cons_zero, List.getD_cons_succ, UInt8.toNat_ofNat']
  omega
theorem or_join (a b : Nat) (k : Nat) (hb : b < 2 ^ k) : a * 2 ^ k ||| b = a * 2 ^ k + b := by
  rw [Nat.mul_comm]
  exact (Nat.two_pow_add_eq_or_of_lt hb a).symm
theorem cnum_is (s : ByteArray) (h : 4 ≤ s.size) : crc_number.f s = some ((num4 (ls s) : Nat) : Int) := by
  unfold crc_number.f
  rw [if_pos (by omega), if_pos (by omega), if_pos (by omega), if_pos (by omega)]
  have b0 : bt s 0 = ((by8 (ls s) 0 : Nat) : Int) := bt_nat s 0
  have b1 : bt s 1 = ((by8 (ls s) 1 : Nat) : Int) := bt_nat s 1
  have b2 : bt s 2 = ((by8 (ls s) 2 : Nat) : Int) := bt_nat s 2
  have b3 : bt s 3 = ((by8 (ls s) 3 : Nat) : Int) := bt_nat s 3
  rw [b0, b1, b2, b3]
  unfold num4
  have h0 := by8_lt (ls s) 0
  have h1 := by8_lt (ls s) 1
  have h2 := by8_lt (ls s) 2
  have h3 := by8_lt (ls s) 3
  generalize by8 (ls s) 0 = n0 at *
  generalize by8 (ls s) 1 = n1 at *
  generalize by8 (ls s) 2 = n2 at *
  generalize by8 (ls s) 3 = n3 at *
  have e0 : (n0 : Int) % 4294967296 * 16777216 % 4294967296 = ((n0 * 16777216 : Nat) : Int) := by omega
  have e1 : (n1 : Int) % 4294967296 * 65536 % 4294967296 = ((n1 * 65536 : Nat) : Int) := by omega
  have e2 : (n2 : Int) % 4294967296 * 256 % 4294967296 = ((n2 * 256 : Nat) : Int) := by omega
  have e3 : (n3 : Int) % 4294967296 = ((n3 : Nat) : Int) := by omega
  rw [e0, e1, e2, e3, u32_or_nat _ _ (by omega) (by omega)]
  rw [show n0 * 16777216 ||| n1 * 65536 = n0 * 16777216 + n1 * 65536 from or_join n0 (n1 * 65536) 24 (by omega)]
  rw [u32_or_nat _ _ (by omega) (by omega)]
  rw [show (n0 * 16777216 + n1 * 65536) ||| n2 * 256 = n0 * 16777216 + n1 * 65536 + n2 * 256 by
    have := or_join (n0 * 256 + n1) (n2 * 256) 16 (by omega)
    rw [show (n0 * 256 + n1) * 2 ^ 16 = n0 * 16777216 + n1 * 65536 by omega] at this
    exact this]
  rw [u32_or_nat _ _ (by omega) (by omega)]
  rw [show (n0 * 16777216 + n1 * 65536 + n2 * 256) ||| n3 = n0 * 16777216 + n1 * 65536 + n2 * 256 + n3 by
    have := or_join (n0 * 65536 + n1 * 256 + n2) n3 8 (by omega)
    rw [show (n0 * 65536 + n1 * 256 + n2) * 2 ^ 8 = n0 * 16777216 + n1 * 65536 + n2 * 256 by omega] at this
    exact this]
theorem word_ls (n : Nat) : ls (strOfNums ([((n : Nat) : Int) / 16777216 % 256, (n : Int) / 65536 % 256, (n : Int) / 256 % 256, (n : Int) % 256] : List Int)) = word4 n := by
  unfold ls
  rw [strOfNums_data]
  unfold word4
  have e : ∀ m : Nat, UInt8.ofNat (((m : Int) % 256).toNat) = UInt8.ofNat m := by
    intro m
    have : ((m : Int) % 256).toNat = m % 256 := by omega
    rw [this]
    apply UInt8.toNat_inj.1
    simp
  simp only [List.map_cons, List.map_nil]
  rw [show ((n : Int) / 16777216) = ((n / 16777216 : Nat) : Int) from rfl, show ((n : Int) / 65536) = ((n / 65536 : Nat) : Int) from rfl, show ((n : Int) / 256) = ((n / 256 : Nat) : Int) from rfl, e, e, e, e]
/-- The sum that stands in a frame: of the length's bytes, gone on with the body. -/
def sumOf (l b : List UInt8) : Nat := 4294967295 ^^^ crcFoldN (crcFoldN 4294967295 l) b
theorem sumOf_lt (l b : List UInt8) : sumOf l b < 4294967296 := xor_lt32 (by decide) (crcFoldN_lt _ (crcFoldN_lt _ (by decide)))
/-- The sum of a text. -/
def sum0 (l : List UInt8) : Nat := 4294967295 ^^^ crcFoldN 4294967295 l
theorem sum_zero (s : ByteArray) (h : s.size ≤ 9223372036854775807) : crc_Sum.f s = some ((sum0 (ls s) : Nat) : Int) := by
  unfold crc_Sum.f
  rw [more_zero s h, Option.bind_some]
  unfold sum0 ls
  exact Eq.refl _
theorem sum_on (l : List UInt8) (b : ByteArray) (h : b.size ≤ 9223372036854775807) : crc_More.f ((sum0 l : Nat) : Int) b = some ((sumOf l (ls b) : Nat) : Int) := by
  unfold sum0
  rw [more_on _ (crcFoldN_lt l (by decide)) b h]
  unfold sumOf ls
  exact Eq.refl _
/-- A frame's bytes. -/
def frameL (b : List UInt8) : List UInt8 := word4 b.length ++ word4 (sumOf (word4 b.length) b) ++ b
def word (n : Nat) : ByteArray := strOfNums ([((n : Nat) : Int) / 16777216 % 256, (n : Int) / 65536 % 256, (n : Int) / 256 % 256, (n : Int) % 256] : List Int)
theorem word_size (n : Nat) : (word n).size = 4 := by unfold word; rw [strOfNums_size]; rfl
theorem word_bytes (n : Nat) : ls (word n) = word4 n := word_ls n
def frame (b : ByteArray) : ByteArray := word b.size ++ word (sumOf (word4 b.size) (ls b)) ++ b
theorem frame_ls (b : ByteArray) : ls (frame b) = frameL (ls b) := by
  unfold frame frameL
  rw [ls_append, ls_append, word_bytes, word_bytes, ls_len]
theorem frame_size (b : ByteArray) : (frame b).size = b.size + 8 := by
  unfold frame
  rw [ByteArray.size_append, ByteArray.size_append, word_size, word_size]
  omega
theorem frame_is (b : ByteArray) : crc_Frame.f b = some (if (b.size : Int) > 400000 then ((⟨#[]⟩ : ByteArray), 3) else (frame b, 0)) := by
  unfold crc_Frame.f
  by_cases h : (b.size : Int) > 400000
  · rw [if_pos h, if_pos h]
  · rw [if_neg h, if_neg h]
    have e0 : ((b.size : Int)) % 4294967296 = ((b.size : Nat) : Int) := by omega
    rw [e0]
    have hw : crc_word.f ((b.size : Nat) : Int) = some (word b.size) := rfl
    have hs : crc_Sum.f (word b.size) = some ((sum0 (word4 b.size) : Nat) : Int) := by
      rw [sum_zero _ (by rw [word_size]; omega), word_bytes]
    have hm := sum_on (word4 b.size) b (by omega)
    have hw2 : crc_word.f ((sumOf (word4 b.size) (ls b) : Nat) : Int) = some (word (sumOf (word4 b.size) (ls b))) := by
      generalize sumOf (word4 b.size) (ls b) = q
      rfl
    rw [hw, Option.bind_some, hs, Option.bind_some, hm, Option.bind_some, hw2, Option.bind_some]
    rw [if_pos (by rw [word_size, word_size]; omega), if_pos (by rw [ByteArray.size_append, word_size, word_size]; omega)]
    unfold frame
    exact Eq.refl _
/-- What Take answers. -/
def takeV (s : ByteArray) : ByteArray × Int × Int :=
  if s.size < 4 then (⟨#[]⟩, 0, 2) else if 400000 < num4 (ls s) then (⟨#[]⟩, 0, 3) else if s.size < 8 + num4 (ls s) then (⟨#[]⟩, 0, 2)
  else if sumOf ((ls s).take 4) (((ls s).drop 8).take (num4 (ls s))) = num4 ((ls s).drop 4) then (s.extract 8 (8 + num4 (ls s)), ((8 + num4 (ls s) : Nat) : Int), 0) else (⟨#[]⟩, 0, 4)
theorem take_is (s : ByteArray) (hs : s.size ≤ 9223372036854775807) : crc_Take.f s = some (takeV s) := by
  unfold crc_Take.f takeV
  by_cases h4 : s.size < 4
  · rw [if_pos (by omega), if_pos h4]
  · rw [if_neg (by omega), if_neg h4, cnum_is s (by omega), Option.bind_some]
    have hn := num4_lt (ls s)
    generalize hn4 : num4 (ls s) = n at *
    by_cases h5 : 400000 < n
    · rw [if_pos (by omega), if_pos h5]
    · rw [if_neg (by omega), if_neg h5]
      have w1 : IntKind.u64.wrap ((s.size : Int)) = (s.size : Int) := by rw [IntKind.wrap_u64]; omega
      have w2 : IntKind.u64.wrap ((n : Int)) = (n : Int) := by rw [IntKind.wrap_u64]; omega
      have w3 : IntKind.u64.wrap (8 + (n : Int)) = ((8 + n : Nat) : Int) := by rw [IntKind.wrap_u64]; omega
      rw [w1, w2, w3]
      by_cases h6 : s.size < 8 + n
      · rw [if_pos (by omega), if_pos h6]
      · rw [if_neg (by omega), if_neg h6]
        have w4 : (8 + (n : Int)) % 4294967296 = ((8 + n : Nat) : Int) := by omega
        have w5 : wrap64 (n : Int) = (n : Int) := by unfold wrap64; omega
        have w6 : wrap64 (8 + (n : Int)) = ((8 + n : Nat) : Int) := by unfold wrap64; omega
        rw [w4, w5, w6, if_pos (by omega), if_pos (by omega), if_pos (by decide), if_pos (by omega)]
        have e4 : (s.extract 0 4).size = 4 := by rw [← ls_len, ls_extract, List.length_take, List.length_drop, ls_len]; omega
        have hsum : crc_Sum.f (s.extract 0 4) = some ((sum0 ((ls s).take 4) : Nat) : Int) := by
          rw [sum_zero _ (by omega), ls_extract, List.drop_zero]
        have e8 : (s.extract 8 (8 + n)).size ≤ n := by rw [← ls_len, ls_extract, List.length_take]; omega
        have hm := sum_on ((ls s).take 4) (s.extract 8 (8 + n)) (by omega)
        rw [ls_extract s 8 (8 + n), show 8 + n - 8 = n by omega] at hm
        have e5 : (s.extract 4 s.size).size = s.size - 4 := by rw [← ls_len, ls_extract, List.length_take, List.length_drop, ls_len]; omega
        have hnum : crc_number.f (s.extract 4 s.size) = some ((num4 ((ls s).drop 4) : Nat) : Int) := by
          rw [cnum_is _ (by omega), ls_extract, List.take_of_length_le (by rw [List.length_drop, ls_len]; omega)]
        rw [show (((8 + n : Nat) : Int)).toNat = 8 + n from rfl]
        rw [hsum, Option.bind_some, hm, Option.bind_some, hnum, Option.bind_some]
        by_cases h7 : sumOf ((ls s).take 4) (((ls s).drop 8).take n) = num4 ((ls s).drop 4)
        · rw [if_pos (by rw [h7]), if_pos h7]
        · rw [if_neg (fun h => h7 (Int.ofNat_inj.1 h)), if_neg h7]
theorem sum0_append (l b : List UInt8) : sum0 (l ++ b) = sumOf l b := by
  unfold sum0 sumOf
  rw [fold_append]
theorem num4_take (l : List UInt8) (n : Nat) (h : 4 ≤ n) : num4 (l.take n) = num4 l := by
  have e : ∀ i, i < 4 → by8 (l.take n) i = by8 l i := by
    intro i hi
    unfold by8
    rw [List.getD_eq_getElem?_getD, List.getD_eq_getElem?_getD, List.getElem?_take_of_lt (by omega)]
  unfold num4
  rw [e 0 (by omega), e 1 (by omega), e 2 (by omega), e 3 (by omega)]
/-- What Take tells: a frame within the text, or nothing. -/
theorem take_tells (s : ByteArray) : (takeV s).2.2 = 0 ∧ (takeV s).2.1 = (((takeV s).1.size + 8 : Nat) : Int) ∧ (takeV s).1.size + 8 ≤ s.size ∨ (takeV s).2.2 ≠ 0 ∧ (takeV s).1 = ⟨#[]⟩ ∧ (takeV s).2.1 = 0 := by
  unfold takeV
  by_cases h4 : s.size < 4
  · rw [if_pos h4]; right; exact ⟨by decide, rfl, rfl⟩
  · rw [if_neg h4]
    generalize num4 (ls s) = n
    by_cases h5 : 400000 < n
    · rw [if_pos h5]; right; exact ⟨by decide, rfl, rfl⟩
    · rw [if_neg h5]
      by_cases h6 : s.size < 8 + n
      · rw [if_pos h6]; right; exact ⟨by decide, rfl, rfl⟩
      · rw [if_neg h6]
        generalize num4 ((ls s).drop 4) = q
        generalize sumOf ((ls s).take 4) (((ls s).drop 8).take n) = p
        by_cases h7 : p = q
        · rw [if_pos h7]
          have e8 : (s.extract 8 (8 + n)).size = n := by rw [← ls_len, ls_extract, List.length_take, List.length_drop, ls_len]; omega
          left
          refine ⟨rfl, ?_, ?_⟩
          · show ((8 + n : Nat) : Int) = (((s.extract 8 (8 + n)).size + 8 : Nat) : Int)
            omega
          · show (s.extract 8 (8 + n)).size + 8 ≤ s.size
            omega
        · rw [if_neg h7]; right; exact ⟨by decide, rfl, rfl⟩
theorem word4_len (n : Nat) : (word4 n).length = 4 := rfl
theorem frameL_len (b : List UInt8) : (frameL b).length = b.length + 8 := by
  unfold frameL
  rw [List.length_append, List.length_append, word4_len, word4_len]
  omega
theorem word4_inj {m n : Nat} (hm : m < 4294967296) (hn : n < 4294967296) (h : word4 m = word4 n) : m = n := by
  have := congrArg num4 h
  rw [← List.append_nil (word4 m), ← List.append_nil (word4 n), num4_word m hm, num4_word n hn] at this
  exact this
theorem drop4 (n : Nat) (x : List UInt8) : (word4 n ++ x).drop 4 = x := List.drop_left' (word4_len n)
theorem take4 (n : Nat) (x : List UInt8) : (word4 n ++ x).take 4 = word4 n := List.take_left' (word4_len n)
/-- The bytes of a frame, its sum under a letter. -/
theorem frameL_q (b : ByteArray) : ∃ q, q < 4294967296 ∧ sumOf (word4 b.size) (ls b) = q ∧ frameL (ls b) = word4 b.size ++ (word4 q ++ ls b) := by
  refine ⟨_, sumOf_lt (word4 b.size) (ls b), Eq.refl _, ?_⟩
  unfold frameL
  rw [ls_len, List.append_assoc]
/-- Take of a frame with a rest behind it. -/
theorem take_frame (b : ByteArray) (hb : b.size ≤ 400000) (s : ByteArray) (r : List UInt8) (hs : ls s = frameL (ls b) ++ r) : takeV s = (b, ((b.size + 8 : Nat) : Int), 0) := by
  have hl : s.size = b.size + 8 + r.length := by rw [← ls_len, hs, List.length_append, frameL_len, ls_len]
  obtain ⟨q, hql, hq, hf⟩ := frameL_q b
  have h1 : ls s = word4 b.size ++ (word4 q ++ (ls b ++ r)) := by rw [hs, hf, List.append_assoc, List.append_assoc]
  have hn : num4 (ls s) = b.size := by rw [h1]; exact num4_word _ (by omega) _
  have hd4 : (ls s).drop 4 = word4 q ++ (ls b ++ r) := by rw [h1, drop4]
  have ht4 : (ls s).take 4 = word4 b.size := by rw [h1, take4]
  have hd8 : (ls s).drop 8 = ls b ++ r := by rw [show 8 = 4 + 4 by omega, ← List.drop_drop, hd4, drop4]
  unfold takeV
  rw [hn, if_neg (by omega), if_neg (by omega), if_neg (by omega), hd4, ht4, hd8]
  have e1 : (ls b ++ r).take b.size = ls b := by rw [← ls_len, List.take_left]
  rw [e1, num4_word _ hql, hq, if_pos rfl]
  have e2 : s.extract 8 (8 + b.size) = b := by
    apply ls_inj
    rw [ls_extract, hd8, show 8 + b.size - 8 = b.size by omega, e1]
  rw [e2, show 8 + b.size = b.size + 8 by omega]
/-- Take of a beginning of a frame, shorter than it. -/
theorem take_torn (b : ByteArray) (hb : b.size ≤ 400000) (s : ByteArray) (r t : List UInt8) (hs : ls s ++ t = frameL (ls b) ++ r) (hlt : s.size < b.size + 8) : takeV s = (⟨#[]⟩, 0, 2) := by
  unfold takeV
  by_cases h4 : s.size < 4
  · rw [if_pos h4]
  · obtain ⟨q, hql, hq, hf⟩ := frameL_q b
    have h1 : ls s ++ t = word4 b.size ++ (word4 q ++ (ls b ++ r)) := by rw [hs, hf, List.append_assoc, List.append_assoc]
    have hn : num4 (ls s) = b.size := by
      rw [← num4_take (ls s) 4 (by omega)]
      have : (ls s).take 4 = (ls s ++ t).take 4 := by rw [List.take_append_of_le_length (by rw [ls_len]; omega)]
      rw [this, h1, take4, ← List.append_nil (word4 b.size)]
      exact num4_word _ (by omega) _
    rw [if_neg h4, hn, if_neg (by omega), if_pos (by omega)]
def nextV (s : ByteArray) (least : Int) (u : Nat) : Option ((SR × Nat) ⊕ Int) :=
  if u = s.size then none
  else if (takeV (s.extract u s.size)).2.2 = 0 then
    (if (recV (takeV (s.extract u s.size)).1).2 = 0 then
      (if (recV (takeV (s.extract u s.size)).1).1.f0 < least then some (.inr 11) else some (.inl ((recV (takeV (s.extract u s.size)).1).1, (takeV (s.extract u s.size)).1.size + 8)))
    else some (.inr (recV (takeV (s.extract u s.size)).1).2))
  else some (.inr (takeV (s.extract u s.size)).2.2)
def scanV (s : ByteArray) : Nat → Int → Nat → List (SR × Nat) × Nat × Int
  | 0, _, u => ([], u, 0)
  | n + 1, least, u => match nextV s least u with
    | none => ([], u, 0)
    | some (.inr e) => ([], u, e)
    | some (.inl (x, z)) => ((x, u) :: (scanV s n (x.f0 + 1) (u + z)).1, (scanV s n (x.f0 + 1) (u + z)).2)
theorem nextV_inl {s : ByteArray} {least : Int} {u : Nat} {x : SR} {z : Nat} (hu : u ≤ s.size) (h : nextV s least u = some (.inl (x, z))) :
    RecP x ∧ least ≤ x.f0 ∧ 8 ≤ z ∧ u + z ≤ s.size ∧ (takeV (s.extract u s.size)).2.2 = 0 ∧ (takeV (s.extract u s.size)).2.1 = (z : Int) ∧ recV (takeV (s.extract u s.size)).1 = (x, 0) := by
  unfold nextV at h
  split at h
  · cases h
  · split at h
    · rename_i h1
      split at h
      · rename_i h2
        split at h
        · cases h
        · rename_i h3
          injection h with h
          injection h with h
          obtain ⟨rfl, rfl⟩ := Prod.mk.inj h
          rcases take_tells (s.extract u s.size) with ⟨_, g2, g3⟩ | ⟨g1, _⟩
          · rw [ByteArray.size_extract] at g3
            refine ⟨?_, by omega, by omega, by omega, h1, g2, Prod.ext rfl h2⟩
            rcases recV_or (takeV (s.extract u s.size)).1 with ⟨r, hr, hp⟩ | hr
            · rw [hr]; exact hp
            · rw [hr] at h2; simp at h2
          · exact absurd h1 g1
      · cases h
    · cases h
theorem nextV_err {s : ByteArray} {least : Int} {u : Nat} {e : Int} (h : nextV s least u = some (.inr e)) : e ≠ 0 := by
  unfold nextV at h
  split at h
  · cases h
  · split at h
    · split at h
      · split at h
        · injection h with h
          injection h with h
          rw [← h]; decide
        · cases h
      · rename_i h2
        injection h with h
        injection h with h
        rw [← h]; exact h2
    · rename_i h1
      injection h with h
      injection h with h
      rw [← h]; exact h1
/-- Enough rounds tell the same. -/
theorem scanV_more (s : ByteArray) : ∀ (n m : Nat) (least : Int) (u : Nat), u ≤ s.size → s.size - u < n → s.size - u < m → scanV s n least u = scanV s m least u
  | 0, m, least, u => by intro _ h; omega
  | n + 1, m, least, u => by
    intro hu h1 h2
    obtain ⟨m, rfl⟩ : ∃ z, m = z + 1 := ⟨m - 1, by omega⟩
    simp only [scanV]
    cases hx : nextV s least u with
    | none => rfl
    | some v =>
      cases v with
      | inr e => rfl
      | inl p =>
        obtain ⟨x, z⟩ := p
        obtain ⟨_, _, h8, hz, _⟩ := nextV_inl hu hx
        dsimp only
        rw [scanV_more s n m (x.f0 + 1) (u + z) hz (by omega) (by omega)]
/-- Where records begin at a later least offset that the first one keeps to, all is the same. -/
theorem nextV_least {s : ByteArray} {a b : Int} {u : Nat} {x : SR} {z : Nat} (hu : u ≤ s.size) (h : nextV s a u = some (.inl (x, z))) (hb : b ≤ x.f0) : nextV s b u = some (.inl (x, z)) := by
  obtain ⟨_, _, _, _, h1, h2, h3⟩ := nextV_inl hu h
  unfold nextV at h ⊢
  rw [h3] at h ⊢
  dsimp only at h ⊢
  split at h
  · cases h
  · rename_i h4
    rw [if_neg h4, if_pos h1, if_pos rfl, if_neg (by omega)]
    first | rw [if_pos h1, if_pos rfl] at h | rw [if_pos rfl] at h
    split at h
    · cases h
    · exact h
/-- All that is told: right records, whose offsets rise. -/
def risesR : Int → List SR → Prop
  | _, [] => True
  | a, x :: r => RecP x ∧ a ≤ x.f0 ∧ risesR (x.f0 + 1) r
theorem scanV_rises (s : ByteArray) : ∀ (n : Nat) (least : Int) (u : Nat), u ≤ s.size → risesR least ((scanV s n least u).1.map (·.1)) ∧ (scanV s n least u).2.1 ≤ s.size ∧ u + 8 * (scanV s n least u).1.length ≤ (scanV s n least u).2.1
  | 0, least, u => fun hu => ⟨trivial, hu, by simp [scanV]⟩
  | n + 1, least, u => by
    intro hu
    simp only [scanV]
    cases hx : nextV s least u with
    | none => exact ⟨trivial, hu, by simp⟩
    | some v =>
      cases v with
      | inr e => exact ⟨trivial, hu, by simp⟩
      | inl p =>
        obtain ⟨x, z⟩ := p
        obtain ⟨h1, h2, h8, hz, _⟩ := nextV_inl hu hx
        obtain ⟨i1, i2, i3⟩ := scanV_rises s n (x.f0 + 1) (u + z) hz
        exact ⟨⟨h1, h2, i1⟩, i2, by dsimp only; rw [List.length_cons]; omega⟩
theorem risesR_mono {a b : Int} (h : b ≤ a) : ∀ {l : List SR}, risesR a l → risesR b l
  | [], _ => trivial
  | x :: r, hl => ⟨hl.1, by have := hl.2.1; omega, hl.2.2⟩
theorem risesR_ge : ∀ {l : List SR} {a : Int}, risesR a l → ∀ x ∈ l, a ≤ x.f0 ∧ RecP x
  | [], _, _ => fun x hx => by cases hx
  | y :: r, a, h => by
    intro x hx
    rcases List.mem_cons.1 hx with rfl | hx
    · exact ⟨h.2.1, h.1⟩
    · obtain ⟨h1, h2⟩ := risesR_ge h.2.2 x hx
      have := h.2.1
      exact ⟨by omega, h2⟩
/-- From a record's place on the same records are told, whatever least offset (not above the record's) is asked for. -/
theorem scanV_suffix (s : ByteArray) (base : Int) : ∀ (n : Nat) (least : Int) (u : Nat) (p q : List (SR × Nat)) (y : SR × Nat), u ≤ s.size → s.size - u < n → base ≤ least → (scanV s n least u).1 = p ++ y :: q →
    ∃ e, scanV s (s.size + 1) base y.2 = (y :: q, e) ∧ e = (scanV s n least u).2 ∧ y.2 ≤ s.size
  | 0, least, u, p, q, y => by intro _ h; omega
  | n + 1, least, u, p, q, y => by
    intro hu hn hb h
    simp only [scanV] at h ⊢
    cases hx : nextV s least u with
    | none => rw [hx] at h; simp at h
    | some v =>
      cases v with
      | inr e => rw [hx] at h; simp at h
      | inl pr =>
        obtain ⟨x, z⟩ := pr
        obtain ⟨h1, h2, h8, hz, _⟩ := nextV_inl hu hx
        rw [hx] at h
        dsimp only at h ⊢
        cases p with
        | nil =>
          rw [List.nil_append] at h
          injection h with ha hq
          subst ha
          refine ⟨_, ?_, rfl, hu⟩
          have hnx := nextV_least hu hx (show base ≤ x.f0 by omega)
          show scanV s (s.size + 1) base u = _
          simp only [scanV]
          rw [hnx]
          dsimp only
          rw [scanV_more s s.size n (x.f0 + 1) (u + z) hz (by omega) (by omega), hq]
        | cons a p =>
          rw [List.cons_append] at h
          injection h with ha hq
          exact scanV_suffix s base n (x.f0 + 1) (u + z) p q y hz (by omega) (by omega) hq
theorem sright_is (a : Int) (p : ByteArray) (c : Int) (q v : ByteArray) : segment_Right.f a p c q v = some (decide (RecP ⟨a, p, c, q, v⟩)) := by
  have h1 : mn a c ≥ 0 ↔ 0 ≤ a ∧ 0 ≤ c := by unfold mn; split <;> omega
  have h2 : mx a c ≤ 9007199254740991 ↔ a ≤ 9007199254740991 ∧ c ≤ 9007199254740991 := by unfold mx; split <;> omega
  unfold segment_Right.f
  by_cases g1 : mn a c ≥ 0
  case neg => rw [if_neg g1, decide_eq_false (by intro h; unfold RecP at h; dsimp only at h; exact g1 (h1.2 ⟨h.1.1, h.2.1.1⟩))]
  rw [if_pos g1]
  by_cases g2 : mx a c ≤ 9007199254740991
  case neg => rw [if_neg g2, decide_eq_false (by intro h; unfold RecP at h; dsimp only at h; exact g2 (h2.2 ⟨h.1.2, h.2.1.2⟩))]
  rw [if_pos g2]
  by_cases g3 : (p.size : Int) ≤ 20
  case neg => rw [if_neg g3, decide_eq_false (by intro h; unfold RecP at h; dsimp only at h; omega)]
  rw [if_pos g3]
  by_cases g4 : (q.size : Int) ≤ 100
  case neg => rw [if_neg g4, decide_eq_false (by intro h; unfold RecP at h; dsimp only at h; omega)]
  rw [if_pos g4]
  congr 1
  refine decide_eq_decide.2 ?_
  unfold RecP
  dsimp only
  rw [h1] at g1
  rw [h2] at g2
  omega
theorem sone_is (r : SR) (k : Nat) (hk : 1012 ≤ k) : segment_One.f k r.f0 r.f1 r.f2 r.f3 r.f4 = some (if RecP r then (frame (recB r), 0) else (⟨#[]⟩, 1)) := by
  unfold segment_One.f
  rw [sright_is]
  simp only [Option.bind_some]
  by_cases h : RecP r
  · have hr := h
    unfold RecP at hr
    rw [if_pos (by simpa using h), if_pos h, wrapU64 (by omega) (by omega), wrapU64 (by omega) (by omega)]
    rw [show codec_Encode.f k [(⟨3, r.f0, ⟨#[]⟩⟩ : SI), ⟨4, 0, r.f1⟩, ⟨3, r.f2, ⟨#[]⟩⟩, ⟨4, 0, r.f3⟩, ⟨4, 0, r.f4⟩] = some (recB r, 0) from (encode_is (rItems r) (rItems_wf h) k hk).trans (by rw [rItems_encS h])]
    simp only [Option.bind_some, if_true]
    have := recB_le h
    rw [frame_is, if_neg (by omega)]
    rfl
  · rw [if_neg (by simpa using h), if_neg h]
theorem srecord_is (b : ByteArray) (hb : b.size ≤ 1000000000000000) (k : Nat) (hk : 6010 ≤ k) : segment_record.f k b = some ((recV b).1.f0, (recV b).1.f1, (recV b).1.f2, (recV b).1.f3, (recV b).1.f4, (recV b).2) := by
  unfold segment_record.f
  rw [decode_is _ b (by decide) hb k (by omega)]
  simp only [Option.bind_some]
  obtain ⟨k, rfl⟩ : ∃ m, k = m + 1 := ⟨k - 1, by omega⟩
  have hbad : ∀ l, segment_record.j0 (k + 1) l true = some (0, ⟨#[]⟩, 0, ⟨#[]⟩, ⟨#[]⟩, 10) := fun l => by
    simp only [segment_record.j0]
    rw [if_pos trivial]
  by_cases h : (decodeS [108, 116, 108, 116, 116] b).2 = 0
  case neg =>
    unfold recV
    rw [if_neg h, hbad, if_neg (fun hc => h hc.1)]
    rfl
  obtain ⟨l, hd⟩ : ∃ l, decodeS [108, 116, 108, 116, 116] b = (l, 0) := ⟨_, Prod.ext rfl h⟩
  obtain ⟨v0, t1, v2, t3, t4, rfl, p0, p1, q0, q1, _⟩ := rec_items hb hd
  have hrv : recV b = if RecP ⟨v0, t1, v2, t3, t4⟩ then (⟨v0, t1, v2, t3, t4⟩, 0) else (zR, 10) := by
    unfold recV
    rw [hd]
    dsimp only
    by_cases hr : RecP ⟨v0, t1, v2, t3, t4⟩
    · rw [if_pos hr, if_pos ⟨rfl, hr⟩]; rfl
    · rw [if_neg hr, if_neg (fun hc => hr hc.2)]
  rw [hd, hrv]
  dsimp only
  rw [if_pos rfl, if_pos (by simp), show rd_T60 [(⟨3, v0, ⟨#[]⟩⟩ : SI), ⟨4, 0, t1⟩, ⟨3, v2, ⟨#[]⟩⟩, ⟨4, 0, t3⟩, ⟨4, 0, t4⟩] 0 = ⟨3, v0, ⟨#[]⟩⟩ from rfl, show rd_T60 [(⟨3, v0, ⟨#[]⟩⟩ : SI), ⟨4, 0, t1⟩, ⟨3, v2, ⟨#[]⟩⟩, ⟨4, 0, t3⟩, ⟨4, 0, t4⟩] 2 = ⟨3, v2, ⟨#[]⟩⟩ from rfl]
  dsimp only
  by_cases c0 : v0 > 9007199254740991
  · rw [if_pos c0, hbad, if_neg (by intro h; unfold RecP at h; dsimp only at h; omega)]
    rfl
  rw [if_neg c0, if_pos (by simp)]
  by_cases c2 : v2 > 9007199254740991
  · rw [decide_eq_true c2, hbad, if_neg (by intro h; unfold RecP at h; dsimp only at h; omega)]
    rfl
  rw [decide_eq_false c2]
  simp only [segment_record.j0]
  rw [if_neg (by decide), if_pos (by simp), if_pos (by simp), if_pos (by simp), if_pos (by simp), if_pos (by simp)]
  rw [show rd_T60 [(⟨3, v0, ⟨#[]⟩⟩ : SI), ⟨4, 0, t1⟩, ⟨3, v2, ⟨#[]⟩⟩, ⟨4, 0, t3⟩, ⟨4, 0, t4⟩] 0 = ⟨3, v0, ⟨#[]⟩⟩ from rfl, show rd_T60 [(⟨3, v0, ⟨#[]⟩⟩ : SI), ⟨4, 0, t1⟩, ⟨3, v2, ⟨#[]⟩⟩, ⟨4, 0, t3⟩, ⟨4, 0, t4⟩] 1 = ⟨4, 0, t1⟩ from rfl, show rd_T60 [(⟨3, v0, ⟨#[]⟩⟩ : SI), ⟨4, 0, t1⟩, ⟨3, v2, ⟨#[]⟩⟩, ⟨4, 0, t3⟩, ⟨4, 0, t4⟩] 2 = ⟨3, v2, ⟨#[]⟩⟩ from rfl, show rd_T60 [(⟨3, v0, ⟨#[]⟩⟩ : SI), ⟨4, 0, t1⟩, ⟨3, v2, ⟨#[]⟩⟩, ⟨4, 0, t3⟩, ⟨4, 0, t4⟩] 3 = ⟨4, 0, t3⟩ from rfl, show rd_T60 [(⟨3, v0, ⟨#[]⟩⟩ : SI), ⟨4, 0, t1⟩, ⟨3, v2, ⟨#[]⟩⟩, ⟨4, 0, t3⟩, ⟨4, 0, t4⟩] 4 = ⟨4, 0, t4⟩ from rfl]
  dsimp only
  rw [show wrap64 v0 = v0 by unfold wrap64; omega, show wrap64 v2 = v2 by unfold wrap64; omega, sright_is]
  simp only [Option.bind_some]
  by_cases hr : RecP ⟨v0, t1, v2, t3, t4⟩
  · rw [if_pos (by simpa using hr), if_pos hr]
  · rw [if_neg (by simpa using hr), if_neg hr]
    rfl
/-- The reader's next record. -/
def nextT (s : ByteArray) (u : Nat) (least err : Int) : Option ((SR × Nat) ⊕ Int) → Int × ByteArray × Int × ByteArray × ByteArray × Bool × ByteArray × Int × Int × Int
  | none => (0, ⟨#[]⟩, 0, ⟨#[]⟩, ⟨#[]⟩, false, s, (u : Int), least, err)
  | some (.inr e) => (0, ⟨#[]⟩, 0, ⟨#[]⟩, ⟨#[]⟩, false, s, (u : Int), least, e)
  | some (.inl (x, z)) => (x.f0, x.f1, x.f2, x.f3, x.f4, true, s, ((u + z : Nat) : Int), x.f0 + 1, err)
theorem snext_is (s : ByteArray) (hs : s.size ≤ 1000000000000000) (u : Nat) (hu : u ≤ s.size) (least err : Int) (k : Nat) (hk : 6020 ≤ k) : segment_reader_next.f k s (u : Int) least err = some (nextT s u least err (nextV s least u)) := by
  unfold segment_reader_next.f nextV
  by_cases h0 : u = s.size
  · rw [if_pos (by omega), if_pos h0]
    rfl
  rw [if_neg (by omega), if_neg h0, if_pos (by omega), if_pos (by omega), show ((u : Int)).toNat = u from rfl, take_is _ (by rw [ByteArray.size_extract]; omega)]
  simp only [Option.bind_some]
  by_cases h1 : (takeV (s.extract u s.size)).2.2 = 0
  case neg => rw [if_neg h1, if_neg h1]; rfl
  rw [if_pos h1, if_pos h1]
  obtain ⟨g2, g3⟩ : (takeV (s.extract u s.size)).2.1 = (((takeV (s.extract u s.size)).1.size + 8 : Nat) : Int) ∧ (takeV (s.extract u s.size)).1.size + 8 ≤ (s.extract u s.size).size := by
    rcases take_tells (s.extract u s.size) with ⟨_, g2, g3⟩ | ⟨g1, _⟩
    · exact ⟨g2, g3⟩
    · exact absurd h1 g1
  rw [ByteArray.size_extract] at g3
  rw [srecord_is _ (by omega) k (by omega), g2]
  simp only [Option.bind_some]
  obtain ⟨k, rfl⟩ : ∃ m, k = m + 2 := ⟨k - 2, by omega⟩
  generalize (takeV (s.extract u s.size)).1 = b at *
  rcases recV_or b with ⟨r, hr, hp⟩ | hr
  · rw [hr]
    dsimp only
    have hp' := hp
    unfold RecP at hp'
    rw [if_pos rfl, if_pos rfl]
    simp only [segment_reader_next.j0, segment_reader_next.j1]
    by_cases h2 : r.f0 < least
    · rw [if_pos (by simpa using h2), if_pos h2, if_neg (by decide)]
      rfl
    · rw [if_neg (by simpa using h2), if_neg h2, if_pos trivial, show wrap64 ((u : Int) + ((b.size + 8 : Nat) : Int)) = ((u + (b.size + 8) : Nat) : Int) by unfold wrap64; omega, show wrap64 (r.f0 + 1) = r.f0 + 1 by unfold wrap64; omega]
      rfl
  · rw [hr]
    dsimp only
    rw [if_neg (by decide), if_neg (by decide)]
    simp only [segment_reader_next.j0, segment_reader_next.j1]
    rw [if_neg (by decide), if_neg (by decide)]
    rfl
theorem sscan_loop (s : ByteArray) (hs : s.size ≤ 1000000000000000) : ∀ (n : Nat) (u k : Nat) (least : Int) (acc : List SR), u ≤ s.size → s.size - u < n → n + 6100 < k → 8 * acc.length + (s.size - u) < 17592186044416 →
    segment_Scan.l0 k acc s (u : Int) least 0 = some (acc ++ (scanV s n least u).1.map (·.1), (((scanV s n least u).2.1 : Nat) : Int), (scanV s n least u).2.2)
  | 0, u, k, least, acc => by intro _ h; omega
  | n + 1, u, k, least, acc => by
    intro hu hn hk ha
    obtain ⟨k, rfl⟩ : ∃ m, k = m + 1 := ⟨k - 1, by omega⟩
    simp only [segment_Scan.l0]
    rw [snext_is s hs u hu least 0 k (by omega)]
    simp only [Option.bind_some, scanV]
    cases hx : nextV s least u with
    | none => simp [nextT]
    | some v =>
      cases v with
      | inr e => simp [nextT]
      | inl p =>
        obtain ⟨x, z⟩ := p
        obtain ⟨_, _, h8, hz, _⟩ := nextV_inl hu hx
        simp only [nextT]
        rw [if_pos trivial, if_pos (by omega), sscan_loop s hs n (u + z) k (x.f0 + 1) _ hz (by omega) (by omega) (by rw [List.length_append]; simp; omega)]
        simp
theorem sscan_is (s : ByteArray) (base : Int) (hs : s.size < 17592186044416) (k : Nat) (hk : s.size + 6200 < k) : segment_Scan.f k base s = some ((scanV s (s.size + 1) base 0).1.map (·.1), (((scanV s (s.size + 1) base 0).2.1 : Nat) : Int), (scanV s (s.size + 1) base 0).2.2) := by
  unfold segment_Scan.f
  have := sscan_loop s (by omega) (s.size + 1) 0 k base [] (Nat.zero_le _) (by omega) (by omega) (by simp; omega)
  rw [List.nil_append] at this
  exact this
/-! The index. -/
abbrev SE := S44
def idxV (ev : Nat) : Nat → List (SR × Nat) → List SE
  | _, [] => []
  | i, p :: r => (if i % ev = 0 then [⟨p.1.f0, (p.2 : Int)⟩] else []) ++ idxV ev (i + 1) r
theorem tmod_nat (i : Nat) (ev : Nat) : Int.tmod (i : Int) (ev : Int) = ((i % ev : Nat) : Int) := (Int.ofNat_tmod i ev).symm
theorem sindex_loop (s : ByteArray) (hs : s.size ≤ 1000000000000000) (ev : Nat) (he : 1 ≤ ev) : ∀ (n : Nat) (u k i : Nat) (least : Int) (acc : List SE), u ≤ s.size → s.size - u < n → n + 6100 < k → i ≤ u → acc.length ≤ i → 8 * acc.length + (s.size - u) < 17592186044416 →
    segment_Index.l0 k (ev : Int) acc (i : Int) s (u : Int) least 0 = some (acc ++ idxV ev i (scanV s n least u).1, 0)
  | 0, u, k, i, least, acc => by intro _ h; omega
  | n + 1, u, k, i, least, acc => by
    intro hu hn hk hi ha hb
    obtain ⟨k, rfl⟩ : ∃ m, k = m + 1 := ⟨k - 1, by omega⟩
    have ew : wrap64 ((i : Int) + 1) = ((i + 1 : Nat) : Int) := by unfold wrap64; omega
    simp only [segment_Index.l0]
    rw [snext_is s hs u hu least 0 k (by omega)]
    simp only [Option.bind_some, scanV]
    cases hx : nextV s least u with
    | none => simp [nextT, idxV]
    | some v =>
      cases v with
      | inr e => simp [nextT, idxV]
      | inl p =>
        obtain ⟨x, z⟩ := p
        obtain ⟨_, _, h8, hz, _⟩ := nextV_inl hu hx
        simp only [nextT, idxV]
        rw [if_pos trivial, if_neg (by omega), tmod_nat, ew]
        by_cases hm : i % ev = 0
        · rw [if_pos (by omega), if_pos (by omega), if_pos hm, sindex_loop s hs ev he n (u + z) k (i + 1) (x.f0 + 1) _ hz (by omega) (by omega) (by omega) (by rw [List.length_append]; simp; omega) (by rw [List.length_append]; simp; omega)]
          simp
        · rw [if_neg (by omega), if_neg hm, sindex_loop s hs ev he n (u + z) k (i + 1) (x.f0 + 1) _ hz (by omega) (by omega) (by omega) (by omega) (by omega)]
          simp
theorem sindex_is (s : ByteArray) (base : Int) (hs : s.size < 17592186044416) (ev : Int) (k : Nat) (hk : s.size + 6200 < k) : segment_Index.f k base s ev = some (if ev < 1 then ([], 1) else (idxV ev.toNat 0 (scanV s (s.size + 1) base 0).1, 0)) := by
  unfold segment_Index.f
  by_cases h : ev < 1
  · rw [if_pos h, if_pos h]
  · rw [if_neg h, if_neg h]
    obtain ⟨e, rfl⟩ : ∃ e : Nat, ev = (e : Int) := ⟨ev.toNat, by omega⟩
    have := sindex_loop s (by omega) e (by omega) (s.size + 1) 0 k 0 base [] (Nat.zero_le _) (by omega) (by omega) (Nat.le_refl _) (by simp) (by simp; omega)
    rw [List.nil_append] at this
    exact this
/-! From an offset on. -/
def pickV (off : Int) (most : Nat) (l : List (SR × Nat)) : List SR := ((l.map (·.1)).filter fun r => decide (off ≤ r.f0)).take most
theorem sfrom_loop (s : ByteArray) (hs : s.size ≤ 1000000000000000) (off most : Int) : ∀ (n : Nat) (u k : Nat) (least : Int) (acc : List SR), u ≤ s.size → s.size - u < n → n + 6100 < k → 8 * acc.length + (s.size - u) < 17592186044416 →
    segment_From.l0 k off most acc s (u : Int) least 0 = some (acc ++ pickV off (most - acc.length).toNat (scanV s n least u).1)
  | 0, u, k, least, acc => by intro _ h; omega
  | n + 1, u, k, least, acc => by
    intro hu hn hk ha
    obtain ⟨k, rfl⟩ : ∃ m, k = m + 1 := ⟨k - 1, by omega⟩
    simp only [segment_From.l0]
    by_cases hm : (acc.length : Int) < most
    case neg =>
      rw [if_neg hm, show (most - (acc.length : Int)).toNat = 0 by omega]
      simp [pickV]
    rw [if_pos hm, snext_is s hs u hu least 0 k (by omega)]
    simp only [Option.bind_some, scanV]
    cases hx : nextV s least u with
    | none => simp [nextT, pickV]
    | some v =>
      cases v with
      | inr e => simp [nextT, pickV]
      | inl p =>
        obtain ⟨x, z⟩ := p
        obtain ⟨_, _, h8, hz, _⟩ := nextV_inl hu hx
        rw [show nextT s u least 0 (some (.inl (x, z))) = (x.f0, x.f1, x.f2, x.f3, x.f4, true, s, ((u + z : Nat) : Int), x.f0 + 1, 0) from rfl]
        dsimp only
        first | rw [if_pos rfl] | rw [if_pos trivial]
        by_cases ho : x.f0 ≥ off
        · rw [if_pos ho, if_pos (by omega), sfrom_loop s hs off most n (u + z) k (x.f0 + 1) _ hz (by omega) (by omega) (by rw [List.length_append]; simp; omega)]
          have e : (most - (acc.length : Int)).toNat = (most - ((acc ++ [x]).length : Int)).toNat + 1 := by rw [List.length_append]; simp; omega
          unfold pickV
          rw [e, List.map_cons, List.filter_cons_of_pos (by simpa using ho), List.take_succ_cons, List.append_assoc]
          rfl
        · rw [if_neg ho, sfrom_loop s hs off most n (u + z) k (x.f0 + 1) _ hz (by omega) (by omega) (by omega)]
          unfold pickV
          rw [List.map_cons, List.filter_cons_of_neg (by simpa using ho)]
theorem srch_spec (p : Nat → Bool) (J : Nat) (hp : ∀ a b, a ≤ b → b < J → p a = true → p b = true) : ∀ (n i j : Nat), i ≤ j → j ≤ J → j - i < n → (∀ a, a < i → p a = false) → (∀ a, j ≤ a → a < J → p a = true) →
    (∀ a, a < srchS p n i j → p a = false) ∧ (∀ a, srchS p n i j ≤ a → a < J → p a = true)
  | 0, i, j => by intro _ _ h; omega
  | n + 1, i, j => by
    intro hij hj hn h1 h2
    simp only [srchS]
    by_cases c : i < j
    · rw [if_pos c]
      by_cases d : p ((i + j) / 2) = true
      · rw [if_pos d]
        exact srch_spec p J hp n i ((i + j) / 2) (by omega) (by omega) (by omega) h1 (fun a ha hb => hp _ a ha hb d)
      · rw [if_neg d]
        refine srch_spec p J hp n ((i + j) / 2 + 1) j (by omega) hj (by omega) (fun a ha => ?_) h2
        by_cases e : p a = true
        · exact absurd (hp a _ (by omega) (by omega) e) d
        · simpa using e
    · rw [if_neg c]
      have : i = j := by omega
      subst this
      exact ⟨h1, h2⟩
def risesE : Int → List SE → Prop
  | _, [] => True
  | a, x :: r => a ≤ x.f0 ∧ risesE (x.f0 + 1) r
theorem risesE_ge : ∀ {l : List SE} {a : Int}, risesE a l → ∀ x ∈ l, a ≤ x.f0
  | [], _, _ => fun x hx => by cases hx
  | y :: r, a, h => by
    intro x hx
    rcases List.mem_cons.1 hx with rfl | hx
    · exact h.1
    · have := risesE_ge h.2 x hx
      have := h.1
      omega
theorem risesE_lt : ∀ {l : List SE} {a : Int}, risesE a l → ∀ (i j : Nat) (hi : i < l.length) (hj : j < l.length), i < j → l[i].f0 < l[j].f0
  | [], _, _ => fun i j hi => absurd hi (by simp)
  | y :: r, a, h => by
    intro i j hi hj hij
    obtain ⟨j, rfl⟩ : ∃ m, j = m + 1 := ⟨j - 1, by omega⟩
    cases i with
    | zero =>
      have := risesE_ge h.2 (r[j]'(by simpa using hj)) (List.getElem_mem _)
      simp only [List.getElem_cons_zero, List.getElem_cons_succ]
      omega
    | succ i =>
      simp only [List.getElem_cons_succ]
      exact risesE_lt h.2 i j (by simpa using hi) (by simpa using hj) (by omega)
theorem rdE (l : List SE) (i : Nat) (h : i < l.length) : rd_T44 l (i : Int) = l[i] := by
  unfold rd_T44
  rw [show ((i : Int)).toNat = i from rfl, List.getD_eq_getElem?_getD, List.getElem?_eq_getElem h]
  rfl
/-- The place of the last entry that isn't beyond an offset. -/
def findV : List SE → Int → Int → Int
  | [], _, b => b
  | x :: r, off, b => findV r off (if x.f0 ≤ off then x.f1 else b)
theorem findV_none : ∀ (l : List SE) (off b : Int), (∀ x ∈ l, off < x.f0) → findV l off b = b
  | [], _, _ => fun _ => rfl
  | x :: r, off, b => by
    intro h
    have := h x (List.mem_cons_self ..)
    show findV r off (if x.f0 ≤ off then x.f1 else b) = b
    rw [if_neg (by omega)]
    exact findV_none r off b (fun y hy => h y (List.mem_cons_of_mem _ hy))
theorem findV_cut : ∀ (l : List SE) (off b : Int) (k : Nat), (∀ (i : Nat) (hi : i < l.length), i < k → l[i].f0 ≤ off) → (∀ (i : Nat) (hi : i < l.length), k ≤ i → off < l[i].f0) → k ≤ l.length → findV l off b = if k = 0 then b else (l.getD (k - 1) ⟨0, 0⟩).f1
  | [], off, b, k => by
    intro _ _ h
    have : k = 0 := by simpa using h
    subst this
    rfl
  | x :: r, off, b, k => by
    intro h1 h2 hk
    show findV r off (if x.f0 ≤ off then x.f1 else b) = _
    cases k with
    | zero =>
      have := h2 0 (by simp) (Nat.le_refl _)
      rw [if_neg (by simpa using this), if_pos rfl]
      exact findV_none r off b (fun y hy => by
        obtain ⟨i, hi, rfl⟩ := List.getElem_of_mem hy
        exact h2 (i + 1) (by simpa using hi) (by omega))
    | succ k =>
      have := h1 0 (by simp) (by omega)
      rw [if_pos (by simpa using this), if_neg (by omega)]
      rw [findV_cut r off x.f1 k (fun i hi hlt => h1 (i + 1) (by simpa using hi) (by omega)) (fun i hi hge => h2 (i + 1) (by simpa using hi) (by omega)) (by simpa using hk)]
      cases k with
      | zero => rfl
      | succ k => rfl
theorem sfind_is (l : List SE) (a off : Int) (hl : risesE a l) (hn : l.length ≤ 1000000000000000) : segment_Find.f l off = some (findV l off 0) := by
  unfold segment_Find.f
  rw [if_pos hn]
  have hg : ∀ (i : Nat) (hi : i < l.length), gtE l off i = decide (off < l[i].f0) := fun i hi => by unfold gtE; rw [rdE l i hi]
  obtain ⟨h1, h2⟩ := srch_spec (gtE l off) l.length (fun x y hxy hy hx => by
    rw [hg x (by omega), decide_eq_true_eq] at hx
    rw [hg y hy, decide_eq_true_eq]
    by_cases e : x = y
    · subst e; exact hx
    · have := risesE_lt hl x y (by omega) hy (by omega)
      omega) (l.length + 1) 0 l.length (Nat.zero_le _) (Nat.le_refl _) (by omega) (fun a ha => absurd ha (by omega)) (fun a ha hb => absurd hb (by omega))
  obtain ⟨_, h3⟩ := srchS_le (gtE l off) (l.length + 1) 0 l.length (Nat.zero_le _)
  generalize srchS (gtE l off) (l.length + 1) 0 l.length = k at *
  rw [findV_cut l off 0 k (fun i hi hlt => by
      have := h1 i hlt
      rw [hg i hi, decide_eq_false_iff_not] at this
      omega) (fun i hi hge => by
      have := h2 i hge hi
      rw [hg i hi, decide_eq_true_eq] at this
      exact this) h3]
  by_cases hk : k = 0
  · rw [if_pos hk, if_pos hk]
  · rw [if_neg hk, if_neg hk]
    rfl
/-- The index of records rises as they do. -/
theorem idxV_rises (ev : Nat) : ∀ (l : List (SR × Nat)) (i : Nat) (a : Int), risesR a (l.map (·.1)) → risesE a (idxV ev i l)
  | [], i, a => fun _ => trivial
  | p :: r, i, a => by
    intro h
    have h2 : risesR (p.1.f0 + 1) (r.map (·.1)) := h.2.2
    have hge : a ≤ p.1.f0 := h.2.1
    simp only [idxV]
    by_cases hm : i % ev = 0
    · rw [if_pos hm]
      exact ⟨hge, idxV_rises ev r (i + 1) (p.1.f0 + 1) h2⟩
    · rw [if_neg hm, List.nil_append]
      exact idxV_rises ev r (i + 1) a (risesR_mono (by omega) h2)
theorem idxV_len (ev : Nat) : ∀ (l : List (SR × Nat)) (i : Nat), (idxV ev i l).length ≤ l.length
  | [], i => Nat.le_refl _
  | p :: r, i => by
    have := idxV_len ev r (i + 1)
    simp only [idxV]
    rw [List.length_append, List.length_cons]
    by_cases hm : i % ev = 0
    · rw [if_pos hm]; simp; omega
    · rw [if_neg hm]; simp; omega
/-- Where the search leads to: the beginning, or a record whose offset isn't beyond the one asked for. -/
theorem findV_idx (ev : Nat) (off : Int) : ∀ (l : List (SR × Nat)) (i : Nat) (b : Int), findV (idxV ev i l) off b = b ∨ ∃ p y q, l = p ++ y :: q ∧ y.1.f0 ≤ off ∧ findV (idxV ev i l) off b = (y.2 : Int)
  | [], i, b => .inl rfl
  | x :: r, i, b => by
    simp only [idxV]
    have key : ∀ b', (findV (idxV ev (i + 1) r) off b' = b' ∨ ∃ p y q, r = p ++ y :: q ∧ y.1.f0 ≤ off ∧ findV (idxV ev (i + 1) r) off b' = (y.2 : Int)) := fun b' => findV_idx ev off r (i + 1) b'
    by_cases hm : i % ev = 0
    · rw [if_pos hm]
      show findV (idxV ev (i + 1) r) off (if x.1.f0 ≤ off then (x.2 : Int) else b) = b ∨ _
      by_cases ho : x.1.f0 ≤ off
      · rw [if_pos ho]
        rcases key (x.2 : Int) with h | ⟨p, y, q, h1, h2, h3⟩
        · refine .inr ⟨[], x, r, rfl, ho, ?_⟩
          show findV (idxV ev (i + 1) r) off (if x.1.f0 ≤ off then (x.2 : Int) else b) = _
          rw [if_pos ho]; exact h
        · refine .inr ⟨x :: p, y, q, by rw [h1]; rfl, h2, ?_⟩
          show findV (idxV ev (i + 1) r) off (if x.1.f0 ≤ off then (x.2 : Int) else b) = _
          rw [if_pos ho]; exact h3
      · rw [if_neg ho]
        rcases key b with h | ⟨p, y, q, h1, h2, h3⟩
        · exact .inl h
        · refine .inr ⟨x :: p, y, q, by rw [h1]; rfl, h2, ?_⟩
          show findV (idxV ev (i + 1) r) off (if x.1.f0 ≤ off then (x.2 : Int) else b) = _
          rw [if_neg ho]; exact h3
    · rw [if_neg hm, List.nil_append]
      rcases key b with h | ⟨p, y, q, h1, h2, h3⟩
      · exact .inl h
      · exact .inr ⟨x :: p, y, q, by rw [h1]; rfl, h2, h3⟩
theorem filter_ahead (off : Int) : ∀ (p : List SR) (y : SR) (q : List SR) (a : Int), risesR a (p ++ y :: q) → y.f0 ≤ off → (p ++ y :: q).filter (fun r => decide (off ≤ r.f0)) = (y :: q).filter (fun r => decide (off ≤ r.f0))
  | [], y, q, a => fun _ _ => rfl
  | x :: p, y, q, a => by
    intro h hy
    have h2 : risesR (x.f0 + 1) (p ++ y :: q) := h.2.2
    have := (risesR_ge h2 y (List.mem_append_right _ (List.mem_cons_self ..))).1
    rw [List.cons_append, List.filter_cons_of_neg (by simp; omega)]
    exact filter_ahead off p y q _ h2 hy
/-- From, by an index of the records, or by none. -/
theorem sfrom_is (s : ByteArray) (base off most : Int) (hs : s.size < 17592186044416) (ix : List SE) (hix : ix = [] ∨ ∃ ev, ix = idxV ev 0 (scanV s (s.size + 1) base 0).1) (k : Nat) (hk : s.size + 6200 < k) :
    segment_From.f k base s ix off most = some (pickV off most.toNat (scanV s (s.size + 1) base 0).1) := by
  obtain ⟨hr, hu, hlen⟩ := scanV_rises s (s.size + 1) base 0 (Nat.zero_le _)
  have hrise : risesE base ix := by
    rcases hix with rfl | ⟨ev, rfl⟩
    · exact trivial
    · exact idxV_rises ev _ 0 base hr
  have hil : ix.length ≤ 1000000000000000 := by
    rcases hix with rfl | ⟨ev, rfl⟩
    · simp
    · have := idxV_len ev (scanV s (s.size + 1) base 0).1 0
      omega
  unfold segment_From.f
  rw [sfind_is ix base off hrise hil]
  simp only [Option.bind_some]
  have main : ∀ (u : Nat), u ≤ s.size → segment_From.l0 k off most [] s (u : Int) base 0 = some (pickV off most.toNat (scanV s (s.size + 1) base u).1) := by
    intro u hu
    have := sfrom_loop s (by omega) off most (s.size + 1) u k base [] hu (by omega) (by omega) (by simp; omega)
    rw [List.nil_append] at this
    rw [this]
    simp
  have hcase : findV ix off 0 = 0 ∨ ∃ p y q, (scanV s (s.size + 1) base 0).1 = p ++ y :: q ∧ y.1.f0 ≤ off ∧ findV ix off 0 = (y.2 : Int) := by
    rcases hix with rfl | ⟨ev, rfl⟩
    · exact .inl rfl
    · exact findV_idx ev off _ 0 0
  rcases hcase with h | ⟨p, y, q, h1, h2, h3⟩
  · rw [h, if_neg (by omega), if_neg (by omega)]
    exact main 0 (Nat.zero_le _)
  · obtain ⟨e, g1, g2, g3⟩ := scanV_suffix s base (s.size + 1) base 0 p q y (Nat.zero_le _) (by omega) (Int.le_refl _) h1
    rw [h3, if_neg (by omega), if_neg (by omega), main y.2 g3, g1]
    congr 1
    unfold pickV
    rw [h1, List.map_append, List.map_cons]
    rw [h1, List.map_append, List.map_cons] at hr
    rw [filter_ahead off _ _ _ _ hr h2]
end Go.Proofs.YtmjgifhgodgghaaDoor.P
