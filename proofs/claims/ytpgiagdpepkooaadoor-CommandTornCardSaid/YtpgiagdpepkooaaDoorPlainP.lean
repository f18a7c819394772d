/- The sum, frames, and what is taken of frames, told plainly. -/
import Derived.OpenShut
import Derived.Test.YtpgiagdpepkooaaDoorPx9
namespace Go.Proofs.YtpgiagdpepkooaaDoor.P
open Go.RowKit Go.Proofs.YtpgiagdpepkooaaDoorW.PrintWords Go.Proofs.YtpgiagdpepkooaaDoorW.PrintLast Go.Proofs.YtpgiagdpepkooaaDoorW.PrintMore
set_option linter.unusedSimpArgs false
set_option linter.unusedVariables false
set_option maxRecDepth 100000
/-- One step of the sum. -/
def stp (v : Nat) : Nat := (v / 2) ^^^ ((v % 2) * 0x82F63B78)
def stpN : Nat → Nat → Nat
  | 0, v => v
  | n + 1, v => stpN n (stp v)
theorem stpN_add (m n v : Nat) : stpN (m + n) v = stpN n (stpN m v) := by
  induction m generalizing v with
  | zero => simp [stpN]
  | succ m ih => rw [Nat.succ_add]; exact ih _
theorem xlc (a b c : Nat) : a ^^^ (b ^^^ c) = b ^^^ (a ^^^ c) := by rw [← Nat.xor_assoc, Nat.xor_comm a b, Nat.xor_assoc]
theorem xcl (a b : Nat) : a ^^^ (a ^^^ b) = b := by rw [← Nat.xor_assoc, Nat.xor_self, Nat.zero_xor]
theorem xor_div2 (a b : Nat) : (a ^^^ b) / 2 = (a / 2) ^^^ (b / 2) := by
  have := @Nat.shiftRight_xor_distrib 1 a b
  simpa [Nat.shiftRight_succ] using this
theorem xor_mod2 (a b : Nat) : (a ^^^ b) % 2 = (a % 2) ^^^ (b % 2) := by
  have := @Nat.xor_mod_two_pow a b 1
  simpa using this
theorem stp_xor (a b : Nat) : stp (a ^^^ b) = stp a ^^^ stp b := by
  unfold stp
  rw [xor_div2, xor_mod2]
  rcases Nat.mod_two_eq_zero_or_one a with h | h <;> rcases Nat.mod_two_eq_zero_or_one b with h' | h' <;> rw [h, h'] <;> simp [Nat.xor_assoc, Nat.xor_comm, xlc, xcl]
theorem stpN_xor (n a b : Nat) : stpN n (a ^^^ b) = stpN n a ^^^ stpN n b := by
  induction n generalizing a b with
  | zero => rfl
  | succ n ih => simp only [stpN]; rw [stp_xor, ih]
theorem stp_even (h : Nat) : stp (2 * h) = h := by
  unfold stp
  rw [show 2 * h / 2 = h by omega, show 2 * h % 2 = 0 by omega]
  simp
theorem stpN_four (h : Nat) : stpN 4 (16 * h) = h := by
  show stp (stp (stp (stp (16 * h)))) = h
  rw [show 16 * h = 2 * (8 * h) by omega, stp_even, show 8 * h = 2 * (4 * h) by omega, stp_even, show 4 * h = 2 * (2 * h) by omega, stp_even, stp_even]
theorem split16 (v : Nat) : v = (16 * (v / 16)) ^^^ (v % 16) := by
  have h1 : v % 16 < 2 ^ 4 := by omega
  have h2 := Nat.two_pow_add_eq_or_of_lt h1 (v / 16)
  have h3 : 2 ^ 4 * (v / 16) ^^^ v % 16 = 2 ^ 4 * (v / 16) ||| v % 16 := by
    apply Nat.eq_of_testBit_eq
    intro i
    rw [Nat.testBit_xor, Nat.testBit_or, Nat.testBit_two_pow_mul]
    by_cases hi : i < 4
    · simp [show ¬ 4 ≤ i by omega]
    · have : (v % 16).testBit i = false := Nat.testBit_lt_two_pow (Nat.lt_of_lt_of_le h1 (Nat.pow_le_pow_right (by omega) (by omega)))
      simp [this]
  have h4 : 2 ^ 4 * (v / 16) + v % 16 = v := by omega
  show v = 2 ^ 4 * (v / 16) ^^^ v % 16
  rw [h3, ← h2, h4]
def tabN : List Nat := [0x00000000, 0x105EC76F, 0x20BD8EDE, 0x30E349B1, 0x417B1DBC, 0x5125DAD3, 0x61C69362, 0x7198540D, 0x82F63B78, 0x92A8FC17, 0xA24BB5A6, 0xB21572C9, 0xC38D26C4, 0xD3D3E1AB, 0xE330A81A, 0xF36E6F75]
theorem tab_is : ∀ j : Fin 16, stpN 4 j.val = tabN.getD j.val 0 := by decide
theorem nibble (v : Nat) : stpN 4 v = (v / 16) ^^^ tabN.getD (v % 16) 0 := by
  have h := split16 v
  have e : stpN 4 v = stpN 4 ((16 * (v / 16)) ^^^ (v % 16)) := by rw [← h]
  rw [e, stpN_xor, stpN_four, tab_is ⟨v % 16, by omega⟩]
/-- The bits of a byte, one behind the other: u after k bits. -/
def bitst (u b : Nat) : Nat := if b ≠ u % 2 then (u / 2) ^^^ 0x82F63B78 else u / 2
theorem bitst_is (u d : Nat) : stp (u ^^^ d) = bitst u (d % 2) ^^^ (d / 2) := by
  unfold stp bitst
  rw [xor_div2, xor_mod2]
  rcases Nat.mod_two_eq_zero_or_one u with h | h <;> rcases Nat.mod_two_eq_zero_or_one d with h' | h' <;> rw [h, h'] <;> simp [Nat.xor_assoc, Nat.xor_comm, xlc, xcl]
def bitsN : Nat → Nat → Nat → Nat
  | 0, u, _ => u
  | n + 1, u, d => bitsN n (bitst u (d % 2)) (d / 2)
theorem bitsN_is (n u d : Nat) : stpN n (u ^^^ d) = bitsN n u d ^^^ (d / 2 ^ n) := by
  induction n generalizing u d with
  | zero => simp [stpN, bitsN]
  | succ n ih =>
    simp only [stpN, bitsN]
    rw [bitst_is, ih, Nat.div_div_eq_div_mul, Nat.pow_succ, Nat.mul_comm]
theorem bitsN_byte (u c : Nat) (hc : c < 256) : bitsN 8 u c = stpN 8 (u ^^^ c) := by
  rw [bitsN_is, show c / 2 ^ 8 = 0 by omega]
  simp
theorem stp_lt {v : Nat} (h : v < 4294967296) : stp v < 4294967296 := by
  unfold stp
  refine Nat.xor_lt_two_pow (n := 32) (Nat.lt_of_le_of_lt (Nat.div_le_self v 2) h) ?_
  rcases Nat.mod_two_eq_zero_or_one v with h' | h' <;> rw [h'] <;> decide
/-- The highest bit of a step tells the lowest one of what was. -/
theorem stp_zero {v : Nat} (h : v < 4294967296) (hz : stp v = 0) : v = 0 := by
  unfold stp at hz
  rcases Nat.mod_two_eq_zero_or_one v with h' | h'
  · rw [h'] at hz
    simp at hz
    omega
  · rw [h'] at hz
    have h1 : v / 2 = 0x82F63B78 := by
      have e := congrArg (fun x => x ^^^ 0x82F63B78) hz
      simp only [Nat.one_mul, Nat.xor_assoc, Nat.xor_self, Nat.xor_zero, Nat.zero_xor] at e
      exact e
    omega
theorem stpN_zero (n : Nat) {v : Nat} (h : v < 4294967296) (hz : stpN n v = 0) : v = 0 := by
  induction n generalizing v with
  | zero => exact hz
  | succ n ih => exact stp_zero h (ih (stp_lt h) hz)
theorem tabN_eq : tabN = crcTabN := rfl
theorem crcStepN_is (s : Nat) : crcStepN s = stpN 4 s := (nibble s).symm
theorem crcByteN_is (s c : Nat) : crcByteN s c = stpN 8 (s ^^^ c) := by
  unfold crcByteN
  rw [crcStepN_is, crcStepN_is, ← stpN_add]
theorem bt_nat (s : ByteArray) (i : Nat) : bt s (i : Int) = ((s.data.toList.getD i 0).toNat : Int) := by
  unfold bt
  have e : ((i : Int)).toNat = i := rfl
  rw [e]
  by_cases h : i < s.size
  · rw [dif_pos h]
    have hl : i < s.data.toList.length := by rw [Array.length_toList]; exact h
    rw [List.getD_eq_getElem?_getD, List.getElem?_eq_getElem hl]
    simp only [Option.getD_some]
    rfl
  · rw [dif_neg h]
    have hl : s.data.toList.length ≤ i := by rw [Array.length_toList]; exact Nat.not_lt.1 h
    rw [List.getD_eq_getElem?_getD, List.getElem?_eq_none hl]
    rfl
theorem shr8 (c j : Nat) (hj : j ≤ 8) : shr .u8 (c : Int) (j : Int) = ((c / 2 ^ j : Nat) : Int) := by
  unfold shr
  have e2 : (2 : Int) ^ j = ((2 ^ j : Nat) : Int) := by simp
  rw [show min ((j : Int)).toNat IntKind.u8.bits = j from Nat.min_eq_left hj]
  rw [e2]
  rfl
theorem xor0 : 4294967295 ^^^ (0 : Int).toNat = 4294967295 := by decide
theorem more_zero (s : ByteArray) (h : s.size ≤ 9223372036854775807) : crc_More.f 0 s = some ((4294967295 ^^^ crcFoldN 4294967295 s.data.toList : Nat) : Int) := by
  unfold crc_More.f
  rw [if_pos ⟨by decide, by decide, h⟩, xor0]
theorem more_on (m : Nat) (hm : m < 4294967296) (s : ByteArray) (h : s.size ≤ 9223372036854775807) : crc_More.f ((4294967295 ^^^ m : Nat) : Int) s = some ((4294967295 ^^^ crcFoldN m s.data.toList : Nat) : Int) := by
  have hx : 4294967295 ^^^ m < 4294967296 := xor_lt32 (by decide) hm
  unfold crc_More.f
  rw [if_pos ⟨by omega, by omega, h⟩]
  rw [show (((4294967295 ^^^ m : Nat) : Int)).toNat = 4294967295 ^^^ m from rfl, xcl]
theorem fold_append (s : Nat) (a b : List UInt8) : crcFoldN s (a ++ b) = crcFoldN (crcFoldN s a) b := by simp [crcFoldN]
theorem cdata_append (a b : ByteArray) : (a ++ b).data.toList = a.data.toList ++ b.data.toList := by rw [ByteArray.data_append, Array.toList_append]
theorem wf_u32 {x : Int} (h : (Lit.int .u32 x).wf = true) : 0 ≤ x ∧ x < 4294967296 := by
  have h2 := bounds_u32 h
  omega
def ls (s : ByteArray) : List UInt8 := s.data.toList
theorem ls_len (s : ByteArray) : (ls s).length = s.size := by unfold ls; rw [Array.length_toList]; rfl
theorem ls_append (a b : ByteArray) : ls (a ++ b) = ls a ++ ls b := cdata_append a b
theorem ls_extract (s : ByteArray) (a b : Nat) : ls (s.extract a b) = ((ls s).drop a).take (b - a) := by
  unfold ls
  rw [ByteArray.data_extract, Array.toList_extract]
theorem ls_inj {a b : ByteArray} (h : ls a = ls b) : a = b := by
  cases a; cases b
  unfold ls at h
  simp only [Array.toList_inj] at h
  rw [h]
/-- byte i of a text (0 behind its end) -/
def by8 (l : List UInt8) (i : Nat) : Nat := (l.getD i 0).toNat
theorem by8_lt (l : List UInt8) (i : Nat) : by8 l i < 256 := UInt8.toNat_lt _
/-- The number of four bytes. -/
def num4 (l : List UInt8) : Nat := by8 l 0 * 16777216 + by8 l 1 * 65536 + by8 l 2 * 256 + by8 l 3
theorem num4_lt (l : List UInt8) : num4 l < 4294967296 := by
  have := by8_lt l 0; have := by8_lt l 1; have := by8_lt l 2; have := by8_lt l 3
  unfold num4
  omega
/-- A number's four bytes. -/
def word4 (n : Nat) : List UInt8 := [UInt8.ofNat (n / 16777216), UInt8.ofNat (n / 65536), UInt8.ofNat (n / 256), UInt8.ofNat n]
theorem num4_word (n : Nat) (h : n < 4294967296) (l : List UInt8) : num4 (word4 n ++ l) = n := by
  unfold num4 by8 word4
  simp only [List.cons_append, List.nil_append, List.getD_cons_zero, List.getD_cons_succ, UInt8.toNat_ofNat']
  omega
theorem or_join (a b : Nat) (k : Nat) (hb : b < 2 ^ k) : a * 2 ^ k ||| b = a * 2 ^ k + b := by
  rw [Nat.mul_comm]
  exact (Nat.two_pow_add_eq_or_of_lt hb a).symm
theorem cnum_is (s : ByteArray) (h : 4 ≤ s.size) : crc_number.f s = some ((num4 (ls s) : Nat) : Int) := by
  unfold crc_number.f
  rw [if_pos (by omega), if_pos (by omega), if_pos (by omega), if_pos (by omega)]
  have b0 : bt s 0 = ((by8 (ls s) 0 : Nat) : Int) := bt_nat s 0
  have b1 : bt s 1 = ((by8 (ls s) 1 : Nat) : Int) := bt_nat s 1
  have b2 : bt s 2 = ((by8 (ls s) 2 : Nat) : Int) := bt_nat s 2
  have b3 : bt s 3 = ((by8 (ls s) 3 : Nat) : Int) := bt_nat s 3
  rw [b0, b1, b2, b3]
  unfold num4
  have h0 := by8_lt (ls s) 0
  have h1 := by8_lt (ls s) 1
  have h2 := by8_lt (ls s) 2
  have h3 := by8_lt (ls s) 3
  generalize by8 (ls s) 0 = n0 at *
  generalize by8 (ls s) 1 = n1 at *
  generalize by8 (ls s) 2 = n2 at *
  generalize by8 (ls s) 3 = n3 at *
  have e0 : (n0 : Int) % 4294967296 * 16777216 % 4294967296 = ((n0 * 16777216 : Nat) : Int) := by omega
  have e1 : (n1 : Int) % 4294967296 * 65536 % 4294967296 = ((n1 * 65536 : Nat) : Int) := by omega
  have e2 : (n2 : Int) % 4294967296 * 256 % 4294967296 = ((n2 * 256 : Nat) : Int) := by omega
  have e3 : (n3 : Int) % 4294967296 = ((n3 : Nat) : Int) := by omega
  rw [e0, e1, e2, e3, u32_or_nat _ _ (by omega) (by omega)]
  rw [show n0 * 16777216 ||| n1 * 65536 = n0 * 16777216 + n1 * 65536 from or_join n0 (n1 * 65536) 24 (by omega)]
  rw [u32_or_nat _ _ (by omega) (by omega)]
  rw [show (n0 * 16777216 + n1 * 65536) ||| n2 * 256 = n0 * 16777216 + n1 * 65536 + n2 * 256 by
    have := or_join (n0 * 256 + n1) (n2 * 256) 16 (by omega)
    rw [show (n0 * 256 + n1) * 2 ^ 16 = n0 * 16777216 + n1 * 65536 by omega] at this
    exact this]
  rw [u32_or_nat _ _ (by omega) (by omega)]
  rw [show (n0 * 16777216 + n1 * 65536 + n2 * 256) ||| n3 = n0 * 16777216 + n1 * 65536 + n2 * 256 + n3 by
    have := or_join (n0 * 65536 + n1 * 256 + n2) n3 8 (by omega)
    rw [show (n0 * 65536 + n1 * 256 + n2) * 2 ^ 8 = n0 * 16777216 + n1 * 65536 + n2 * 256 by omega] at this
    exact this]
theorem word_ls (n : Nat) : ls (strOfNums ([((n : Nat) : Int) / 16777216 % 256, (n : Int) / 65536 % 256, (n : Int) / 256 % 256, (n : Int) % 256] : List Int)) = word4 n := by
  unfold ls
  rw [strOfNums_data]
  unfold word4
  have e : ∀ m : Nat, UInt8.ofNat (((m : Int) % 256).toNat) = UInt8.ofNat m := by
    intro m
    have : ((m : Int) % 256).toNat = m % 256 := by omega
    rw [this]
    apply UInt8.toNat_inj.1
    simp
  simp only [List.map_cons, List.map_nil]
  rw [show ((n : Int) / 16777216) = ((n / 16777216 : Nat) : Int) from rfl, show ((n : Int) / 65536) = ((n / 65536 : Nat) : Int) from rfl, show ((n : Int) / 256) = ((n / 256 : Nat) : Int) from rfl, e, e, e, e]
/-- The sum that stands in a frame: of the length's bytes, gone on with the body. -/
def sumOf (l b : List UInt8) : Nat := 4294967295 ^^^ crcFoldN (crcFoldN 4294967295 l) b
theorem sumOf_lt (l b : List UInt8) : sumOf l b < 4294967296 := xor_lt32 (by decide) (crcFoldN_lt _ (crcFoldN_lt _ (by decide)))
/-- The sum of a text. -/
def sum0 (l : List UInt8) : Nat := 4294967295 ^^^ crcFoldN 4294967295 l
theorem sum_zero (s : ByteArray) (h : s.size ≤ 9223372036854775807) : crc_Sum.f s = some ((sum0 (ls s) : Nat) : Int) := by
  unfold crc_Sum.f
  rw [more_zero s h, Option.bind_some]
  unfold sum0 ls
  exact Eq.refl _
theorem sum_on (l : List UInt8) (b : ByteArray) (h : b.size ≤ 9223372036854775807) : crc_More.f ((sum0 l : Nat) : Int) b = some ((sumOf l (ls b) : Nat) : Int) := by
  unfold sum0
  rw [more_on _ (crcFoldN_lt l (by decide)) b h]
  unfold sumOf ls
  exact Eq.refl _
/-- A frame's bytes. -/
def frameL (b : List UInt8) : List UInt8 := word4 b.length ++ word4 (sumOf (word4 b.length) b) ++ b
def word (n : Nat) : ByteArray := strOfNums ([((n : Nat) : Int) / 16777216 % 256, (n : Int) / 65536 % 256, (n : Int) / 256 % 256, (n : Int) % 256] : List Int)
theorem word_size (n : Nat) : (word n).size = 4 := by unfold word; rw [strOfNums_size]; rfl
theorem word_bytes (n : Nat) : ls (word n) = word4 n := word_ls n
def frame (b : ByteArray) : ByteArray := word b.size ++ word (sumOf (word4 b.size) (ls b)) ++ b
theorem frame_ls (b : ByteArray) : ls (frame b) = frameL (ls b) := by
  unfold frame frameL
  rw [ls_append, ls_append, word_bytes, word_bytes, ls_len]
theorem frame_size (b : ByteArray) : (frame b).size = b.size + 8 := by
  unfold frame
  rw [ByteArray.size_append, ByteArray.size_append, word_size, word_size]
  omega
theorem frame_is (b : ByteArray) : crc_Frame.f b = some (if (b.size : Int) > 400000 then ((⟨#[]⟩ : ByteArray), 3) else (frame b, 0)) := by
  unfold crc_Frame.f
  by_cases h : (b.size : Int) > 400000
  · rw [if_pos h, if_pos h]
  · rw [if_neg h, if_neg h]
    have e0 : ((b.size : Int)) % 4294967296 = ((b.size : Nat) : Int) := by omega
    rw [e0]
    have hw : crc_word.f ((b.size : Nat) : Int) = some (word b.size) := rfl
    have hs : crc_Sum.f (word b.size) = some ((sum0 (word4 b.size) : Nat) : Int) := by
      rw [sum_zero _ (by rw [word_size]; omega), word_bytes]
    have hm := sum_on (word4 b.size) b (by omega)
    have hw2 : crc_word.f ((sumOf (word4 b.size) (ls b) : Nat) : Int) = some (word (sumOf (word4 b.size) (ls b))) := by
      generalize sumOf (word4 b.size) (ls b) = q
      rfl
    rw [hw, Option.bind_some, hs, Option.bind_some, hm, Option.bind_some, hw2, Option.bind_some]
    rw [if_pos (by rw [word_size, word_size]; omega), if_pos (by rw [ByteArray.size_append, word_size, word_size]; omega)]
    unfold frame
    exact Eq.refl _
/-- What Take answers. -/
def takeV (s : ByteArray) : ByteArray × Int × Int :=
  if s.size < 4 then (⟨#[]⟩, 0, 2) else if 400000 < num4 (ls s) then (⟨#[]⟩, 0, 3) else if s.size < 8 + num4 (ls s) then (⟨#[]⟩, 0, 2)
  else if sumOf ((ls s).take 4) (((ls s).drop 8).take (num4 (ls s))) = num4 ((ls s).drop 4) then (s.extract 8 (8 + num4 (ls s)), ((8 + num4 (ls s) : Nat) : Int), 0) else (⟨#[]⟩, 0, 4)
theorem take_is (s : ByteArray) (hs : s.size ≤ 9223372036854775807) : crc_Take.f s = some (takeV s) := by
  unfold crc_Take.f takeV
  by_cases h4 : s.size < 4
  · rw [if_pos (by omega), if_pos h4]
  · rw [if_neg (by omega), if_neg h4, cnum_is s (by omega), Option.bind_some]
    have hn := num4_lt (ls s)
    generalize hn4 : num4 (ls s) = n at *
    by_cases h5 : 400000 < n
    · rw [if_pos (by omega), if_pos h5]
    · rw [if_neg (by omega), if_neg h5]
      have w1 : IntKind.u64.wrap ((s.size : Int)) = (s.size : Int) := by rw [IntKind.wrap_u64]; omega
      have w2 : IntKind.u64.wrap ((n : Int)) = (n : Int) := by rw [IntKind.wrap_u64]; omega
      have w3 : IntKind.u64.wrap (8 + (n : Int)) = ((8 + n : Nat) : Int) := by rw [IntKind.wrap_u64]; omega
      rw [w1, w2, w3]
      by_cases h6 : s.size < 8 + n
      · rw [if_pos (by omega), if_pos h6]
      · rw [if_neg (by omega), if_neg h6]
        have w4 : (8 + (n : Int)) % 4294967296 = ((8 + n : Nat) : Int) := by omega
        have w5 : wrap64 (n : Int) = (n : Int) := by unfold wrap64; omega
        have w6 : wrap64 (8 + (n : Int)) = ((8 + n : Nat) : Int) := by unfold wrap64; omega
        rw [w4, w5, w6, if_pos (by omega), if_pos (by omega), if_pos (by decide), if_pos (by omega)]
        have e4 : (s.extract 0 4).size = 4 := by rw [← ls_len, ls_extract, List.length_take, List.length_drop, ls_len]; omega
        have hsum : crc_Sum.f (s.extract 0 4) = some ((sum0 ((ls s).take 4) : Nat) : Int) := by
          rw [sum_zero _ (by omega), ls_extract, List.drop_zero]
        have e8 : (s.extract 8 (8 + n)).size ≤ n := by rw [← ls_len, ls_extract, List.length_take]; omega
        have hm := sum_on ((ls s).take 4) (s.extract 8 (8 + n)) (by omega)
        rw [ls_extract s 8 (8 + n), show 8 + n - 8 = n by omega] at hm
        have e5 : (s.extract 4 s.size).size = s.size - 4 := by rw [← ls_len, ls_extract, List.length_take, List.length_drop, ls_len]; omega
        have hnum : crc_number.f (s.extract 4 s.size) = some ((num4 ((ls s).drop 4) : Nat) : Int) := by
          rw [cnum_is _ (by omega), ls_extract, List.take_of_length_le (by rw [List.length_drop, ls_len]; omega)]
        rw [show (((8 + n : Nat) : Int)).toNat = 8 + n from rfl]
        rw [hsum, Option.bind_some, hm, Option.bind_some, hnum, Option.bind_some]
        by_cases h7 : sumOf ((ls s).take 4) (((ls s).drop 8).take n) = num4 ((ls s).drop 4)
        · rw [if_pos (by rw [h7]), if_pos h7]
        · rw [if_neg (fun h => h7 (Int.ofNat_inj.1 h)), if_neg h7]
theorem sum0_append (l b : List UInt8) : sum0 (l ++ b) = sumOf l b := by
  unfold sum0 sumOf
  rw [fold_append]
theorem num4_take (l : List UInt8) (n : Nat) (h : 4 ≤ n) : num4 (l.take n) = num4 l := by
  have e : ∀ i, i < 4 → by8 (l.take n) i = by8 l i := by
    intro i hi
    unfold by8
    rw [List.getD_eq_getElem?_getD, List.getD_eq_getElem?_getD, List.getElem?_take_of_lt (by omega)]
  unfold num4
  rw [e 0 (by omega), e 1 (by omega), e 2 (by omega), e 3 (by omega)]
/-- What Take tells: a frame within the text, or nothing. -/
theorem take_tells (s : ByteArray) : (takeV s).2.2 = 0 ∧ (takeV s).2.1 = (((takeV s).1.size + 8 : Nat) : Int) ∧ (takeV s).1.size + 8 ≤ s.size ∨ (takeV s).2.2 ≠ 0 ∧ (takeV s).1 = ⟨#[]⟩ ∧ (takeV s).2.1 = 0 := by
  unfold takeV
  by_cases h4 : s.size < 4
  · rw [if_pos h4]; right; exact ⟨by decide, rfl, rfl⟩
  · rw [if_neg h4]
    generalize num4 (ls s) = n
    by_cases h5 : 400000 < n
    · rw [if_pos h5]; right; exact ⟨by decide, rfl, rfl⟩
    · rw [if_neg h5]
      by_cases h6 : s.size < 8 + n
      · rw [if_pos h6]; right; exact ⟨by decide, rfl, rfl⟩
      · rw [if_neg h6]
        generalize num4 ((ls s).drop 4) = q
        generalize sumOf ((ls s).take 4) (((ls s).drop 8).take n) = p
        by_cases h7 : p = q
        · rw [if_pos h7]
          have e8 : (s.extract 8 (8 + n)).size = n := by rw [← ls_len, ls_extract, List.length_take, List.length_drop, ls_len]; omega
          left
          refine ⟨rfl, ?_, ?_⟩
          · show ((8 + n : Nat) : Int) = (((s.extract 8 (8 + n)).size + 8 : Nat) : Int)
            omega
          · show (s.extract 8 (8 + n)).size + 8 ≤ s.size
            omega
        · rw [if_neg h7]; right; exact ⟨by decide, rfl, rfl⟩
theorem word4_len (n : Nat) : (word4 n).length = 4 := rfl
theorem frameL_len (b : List UInt8) : (frameL b).length = b.length + 8 := by
  unfold frameL
  rw [List.length_append, List.length_append, word4_len, word4_len]
  omega
theorem word4_inj {m n : Nat} (hm : m < 4294967296) (hn : n < 4294967296) (h : word4 m = word4 n) : m = n := by
  have := congrArg num4 h
  rw [← List.append_nil (word4 m), ← List.append_nil (word4 n), num4_word m hm, num4_word n hn] at this
  exact this
theorem drop4 (n : Nat) (x : List UInt8) : (word4 n ++ x).drop 4 = x := List.drop_left' (word4_len n)
theorem take4 (n : Nat) (x : List UInt8) : (word4 n ++ x).take 4 = word4 n := List.take_left' (word4_len n)
/-- The bytes of a frame, its sum under a letter. -/
theorem frameL_q (b : ByteArray) : ∃ q, q < 4294967296 ∧ sumOf (word4 b.size) (ls b) = q ∧ frameL (ls b) = word4 b.size ++ (word4 q ++ ls b) := by
  refine ⟨_, sumOf_lt (word4 b.size) (ls b), Eq.refl _, ?_⟩
  unfold frameL
  rw [ls_len, List.append_assoc]
/-- Take of a frame with a rest behind it. -/
theorem take_frame (b : ByteArray) (hb : b.size ≤ 400000) (s : ByteArray) (r : List UInt8) (hs : ls s = frameL (ls b) ++ r) : takeV s = (b, ((b.size + 8 : Nat) : Int), 0) := by
  have hl : s.size = b.size + 8 + r.length := by rw [← ls_len, hs, List.length_append, frameL_len, ls_len]
  obtain ⟨q, hql, hq, hf⟩ := frameL_q b
  have h1 : ls s = word4 b.size ++ (word4 q ++ (ls b ++ r)) := by rw [hs, hf, List.append_assoc, List.append_assoc]
  have hn : num4 (ls s) = b.size := by rw [h1]; exact num4_word _ (by omega) _
  have hd4 : (ls s).drop 4 = word4 q ++ (ls b ++ r) := by rw [h1, drop4]
  have ht4 : (ls s).take 4 = word4 b.size := by rw [h1, take4]
  have hd8 : (ls s).drop 8 = ls b ++ r := by rw [show 8 = 4 + 4 by omega, ← List.drop_drop, hd4, drop4]
  unfold takeV
  rw [hn, if_neg (by omega), if_neg (by omega), if_neg (by omega), hd4, ht4, hd8]
  have e1 : (ls b ++ r).take b.size = ls b := by rw [← ls_len, List.take_left]
  rw [e1, num4_word _ hql, hq, if_pos rfl]
  have e2 : s.extract 8 (8 + b.size) = b := by
    apply ls_inj
    rw [ls_extract, hd8, show 8 + b.size - 8 = b.size by omega, e1]
  rw [e2, show 8 + b.size = b.size + 8 by omega]
/-- Take of a beginning of a frame, shorter than it. -/
theorem take_torn (b : ByteArray) (hb : b.size ≤ 400000) (s : ByteArray) (r t : List UInt8) (hs : ls s ++ t = frameL (ls b) ++ r) (hlt : s.size < b.size + 8) : takeV s = (⟨#[]⟩, 0, 2) := by
  unfold takeV
  by_cases h4 : s.size < 4
  · rw [if_pos h4]
  · obtain ⟨q, hql, hq, hf⟩ := frameL_q b
    have h1 : ls s ++ t = word4 b.size ++ (word4 q ++ (ls b ++ r)) := by rw [hs, hf, List.append_assoc, List.append_assoc]
    have hn : num4 (ls s) = b.size := by
      rw [← num4_take (ls s) 4 (by omega)]
      have : (ls s).take 4 = (ls s ++ t).take 4 := by rw [List.take_append_of_le_length (by rw [ls_len]; omega)]
      rw [this, h1, take4, ← List.append_nil (word4 b.size)]
      exact num4_word _ (by omega) _
    rw [if_neg h4, hn, if_neg (by omega), if_pos (by omega)]
end Go.Proofs.YtpgiagdpepkooaaDoor.P
