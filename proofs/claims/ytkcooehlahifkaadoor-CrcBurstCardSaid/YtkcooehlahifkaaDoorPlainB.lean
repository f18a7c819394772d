/- The plain mathematics of frames: four bytes are a number, a frame is taken as it was made; the program's Frame and Take and the document's. -/
import Derived.Test.YtkcooehlahifkaaDoorPlainA
namespace Go.Proofs.YtkcooehlahifkaaDoor.P
open Go.RowKit Go.Proofs.YtkcooehlahifkaaDoorW.PrintWords Go.Proofs.YtkcooehlahifkaaDoorW.PrintLast Go.Proofs.YtkcooehlahifkaaDoorW.PrintMore
set_option linter.unusedSimpArgs false
set_option linter.unusedVariables false
def ls (s : ByteArray) : List UInt8 := s.data.toList
theorem ls_len (s : ByteArray) : (ls s).length = s.size := by unfold ls; rw [Array.length_toList]; rfl
theorem ls_append (a b : ByteArray) : ls (a ++ b) = ls a ++ ls b := data_append a b
theorem ls_extract (s : ByteArray) (a b : Nat) : ls (s.extract a b) = ((ls s).drop a).take (b - a) := by
  unfold ls
  rw [ByteArray.data_extract, Array.toList_extract]
theorem ls_inj {a b : ByteArray} (h : ls a = ls b) : a = b := by
  cases a; cases b
  unfold ls at h
  simp only [Array.toList_inj] at h
  rw [h]
/-- byte i of a text (0 behind its end) -/
def by8 (l : List UInt8) (i : Nat) : Nat := (l.getD i 0).toNat
theorem by8_lt (l : List UInt8) (i : Nat) : by8 l i < 256 := UInt8.toNat_lt _
/-- The number of four bytes. -/
def num4 (l : List UInt8) : Nat := by8 l 0 * 16777216 + by8 l 1 * 65536 + by8 l 2 * 256 + by8 l 3
theorem num4_lt (l : List UInt8) : num4 l < 4294967296 := by
  have := by8_lt l 0; have := by8_lt l 1; have := by8_lt l 2; have := by8_lt l 3
  unfold num4
  omega
/-- A number's four bytes. -/
def word4 (n : Nat) : List UInt8 := [UInt8.ofNat (n / 16777216), UInt8.ofNat (n / 65536), UInt8.ofNat (n / 256), UInt8.ofNat n]
theorem num4_word (n : Nat) (h : n < 4294967296) (l : List UInt8) : num4 (word4 n ++ l) = n := by
  unfold num4 by8 word4
  simp only [List.cons_append, List.nil_append, List.getD_cons_zero, List.getD_cons_succ, UInt8.toNat_ofNat']
  omega
theorem or_join (a b : Nat) (k : Nat) (hb : b < 2 ^ k) : a * 2 ^ k ||| b = a * 2 ^ k + b := by
  rw [Nat.mul_comm]
  exact (Nat.two_pow_add_eq_or_of_lt hb a).symm
theorem num_is (s : ByteArray) (h : 4 ≤ s.size) : crc_number.f s = some ((num4 (ls s) : Nat) : Int) := by
  unfold crc_number.f
  rw [if_pos (by omega), if_pos (by omega), if_pos (by omega), if_pos (by omega)]
  have b0 : bt s 0 = ((by8 (ls s) 0 : Nat) : Int) := bt_nat s 0
  have b1 : bt s 1 = ((by8 (ls s) 1 : Nat) : Int) := bt_nat s 1
  have b2 : bt s 2 = ((by8 (ls s) 2 : Nat) : Int) := bt_nat s 2
  have b3 : bt s 3 = ((by8 (ls s) 3 : Nat) : Int) := bt_nat s 3
  rw [b0, b1, b2, b3]
  unfold num4
  have h0 := by8_lt (ls s) 0
  have h1 := by8_lt (ls s) 1
  have h2 := by8_lt (ls s) 2
  have h3 := by8_lt (ls s) 3
  generalize by8 (ls s) 0 = n0 at *
  generalize by8 (ls s) 1 = n1 at *
  generalize by8 (ls s) 2 = n2 at *
  generalize by8 (ls s) 3 = n3 at *
  have e0 : (n0 : Int) % 4294967296 * 16777216 % 4294967296 = ((n0 * 16777216 : Nat) : Int) := by omega
  have e1 : (n1 : Int) % 4294967296 * 65536 % 4294967296 = ((n1 * 65536 : Nat) : Int) := by omega
  have e2 : (n2 : Int) % 4294967296 * 256 % 4294967296 = ((n2 * 256 : Nat) : Int) := by omega
  have e3 : (n3 : Int) % 4294967296 = ((n3 : Nat) : Int) := by omega
  rw [e0, e1, e2, e3, u32_or_nat _ _ (by omega) (by omega)]
  rw [show n0 * 16777216 ||| n1 * 65536 = n0 * 16777216 + n1 * 65536 from or_join n0 (n1 * 65536) 24 (by omega)]
  rw [u32_or_nat _ _ (by omega) (by omega)]
  rw [show (n0 * 16777216 + n1 * 65536) ||| n2 * 256 = n0 * 16777216 + n1 * 65536 + n2 * 256 by
    have := or_join (n0 * 256 + n1) (n2 * 256) 16 (by omega)
    rw [show (n0 * 256 + n1) * 2 ^ 16 = n0 * 16777216 + n1 * 65536 by omega] at this
    exact this]
  rw [u32_or_nat _ _ (by omega) (by omega)]
  rw [show (n0 * 16777216 + n1 * 65536 + n2 * 256) ||| n3 = n0 * 16777216 + n1 * 65536 + n2 * 256 + n3 by
    have := or_join (n0 * 65536 + n1 * 256 + n2) n3 8 (by omega)
    rw [show (n0 * 65536 + n1 * 256 + n2) * 2 ^ 8 = n0 * 16777216 + n1 * 65536 + n2 * 256 by omega] at this
    exact this]
theorem rnum_is (s : ByteArray) (h : 4 ≤ s.size) : carillonref02_value.f s = some ((num4 (ls s) : Nat) : Int) := num_is s h
theorem word_ls (n : Nat) : ls (strOfNums ([((n : Nat) : Int) / 16777216 % 256, (n : Int) / 65536 % 256, (n : Int) / 256 % 256, (n : Int) % 256] : List Int)) = word4 n := by
  unfold ls
  rw [strOfNums_data]
  unfold word4
  have e : ∀ m : Nat, UInt8.ofNat (((m : Int) % 256).toNat) = UInt8.ofNat m := by
    intro m
    have : ((m : Int) % 256).toNat = m % 256 := by omega
    rw [this]
    apply UInt8.toNat_inj.1
    simp
  simp only [List.map_cons, List.map_nil]
  rw [show ((n : Int) / 16777216) = ((n / 16777216 : Nat) : Int) from rfl, show ((n : Int) / 65536) = ((n / 65536 : Nat) : Int) from rfl, show ((n : Int) / 256) = ((n / 256 : Nat) : Int) from rfl, e, e, e, e]
end Go.Proofs.YtkcooehlahifkaaDoor.P
