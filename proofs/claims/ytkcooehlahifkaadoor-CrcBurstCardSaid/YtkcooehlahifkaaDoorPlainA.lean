/- The plain mathematics of the sum: steps, their linearity, the table, the bits; what the program's and the document's sums are. -/
import Derived.Test.YtkcooehlahifkaaDoorPx1
import Derived.OpenShut
import Derived.Test.YtkcooehlahifkaaDoorPx2
namespace Go.Proofs.YtkcooehlahifkaaDoor.P
open Go.RowKit Go.Proofs.YtkcooehlahifkaaDoorW.PrintWords Go.Proofs.YtkcooehlahifkaaDoorW.PrintLast Go.Proofs.YtkcooehlahifkaaDoorW.PrintMore
set_option linter.unusedSimpArgs false
set_option linter.unusedVariables false
/-- One step of the sum. -/
def stp (v : Nat) : Nat := (v / 2) ^^^ ((v % 2) * 0x82F63B78)
def stpN : Nat → Nat → Nat
  | 0, v => v
  | n + 1, v => stpN n (stp v)
theorem stpN_add (m n v : Nat) : stpN (m + n) v = stpN n (stpN m v) := by
  induction m generalizing v with
  | zero => simp [stpN]
  | succ m ih => rw [Nat.succ_add]; exact ih _
theorem xlc (a b c : Nat) : a ^^^ (b ^^^ c) = b ^^^ (a ^^^ c) := by rw [← Nat.xor_assoc, Nat.xor_comm a b, Nat.xor_assoc]
theorem xcl (a b : Nat) : a ^^^ (a ^^^ b) = b := by rw [← Nat.xor_assoc, Nat.xor_self, Nat.zero_xor]
theorem xor_div2 (a b : Nat) : (a ^^^ b) / 2 = (a / 2) ^^^ (b / 2) := by
  have := @Nat.shiftRight_xor_distrib 1 a b
  simpa [Nat.shiftRight_succ] using this
theorem xor_mod2 (a b : Nat) : (a ^^^ b) % 2 = (a % 2) ^^^ (b % 2) := by
  have := @Nat.xor_mod_two_pow a b 1
  simpa using this
theorem stp_xor (a b : Nat) : stp (a ^^^ b) = stp a ^^^ stp b := by
  unfold stp
  rw [xor_div2, xor_mod2]
  rcases Nat.mod_two_eq_zero_or_one a with h | h <;> rcases Nat.mod_two_eq_zero_or_one b with h' | h' <;> rw [h, h'] <;> simp [Nat.xor_assoc, Nat.xor_comm, xlc, xcl]
theorem stpN_xor (n a b : Nat) : stpN n (a ^^^ b) = stpN n a ^^^ stpN n b := by
  induction n generalizing a b with
  | zero => rfl
  | succ n ih => simp only [stpN]; rw [stp_xor, ih]
theorem stp_even (h : Nat) : stp (2 * h) = h := by
  unfold stp
  rw [show 2 * h / 2 = h by omega, show 2 * h % 2 = 0 by omega]
  simp
theorem stpN_four (h : Nat) : stpN 4 (16 * h) = h := by
  show stp (stp (stp (stp (16 * h)))) = h
  rw [show 16 * h = 2 * (8 * h) by omega, stp_even, show 8 * h = 2 * (4 * h) by omega, stp_even, show 4 * h = 2 * (2 * h) by omega, stp_even, stp_even]
theorem split16 (v : Nat) : v = (16 * (v / 16)) ^^^ (v % 16) := by
  have h1 : v % 16 < 2 ^ 4 := by omega
  have h2 := Nat.two_pow_add_eq_or_of_lt h1 (v / 16)
  have h3 : 2 ^ 4 * (v / 16) ^^^ v % 16 = 2 ^ 4 * (v / 16) ||| v % 16 := by
    apply Nat.eq_of_testBit_eq
    intro i
    rw [Nat.testBit_xor, Nat.testBit_or, Nat.testBit_two_pow_mul]
    by_cases hi : i < 4
    · simp [show ¬ 4 ≤ i by omega]
    · have : (v % 16).testBit i = false := Nat.testBit_lt_two_pow (Nat.lt_of_lt_of_le h1 (Nat.pow_le_pow_right (by omega) (by omega)))
      simp [this]
  have h4 : 2 ^ 4 * (v / 16) + v % 16 = v := by omega
  show v = 2 ^ 4 * (v / 16) ^^^ v % 16
  rw [h3, ← h2, h4]
def tabN : List Nat := [0x00000000, 0x105EC76F, 0x20BD8EDE, 0x30E349B1, 0x417B1DBC, 0x5125DAD3, 0x61C69362, 0x7198540D, 0x82F63B78, 0x92A8FC17, 0xA24BB5A6, 0xB21572C9, 0xC38D26C4, 0xD3D3E1AB, 0xE330A81A, 0xF36E6F75]
theorem tab_is : ∀ j : Fin 16, stpN 4 j.val = tabN.getD j.val 0 := by decide
theorem nibble (v : Nat) : stpN 4 v = (v / 16) ^^^ tabN.getD (v % 16) 0 := by
  have h := split16 v
  have e : stpN 4 v = stpN 4 ((16 * (v / 16)) ^^^ (v % 16)) := by rw [← h]
  rw [e, stpN_xor, stpN_four, tab_is ⟨v % 16, by omega⟩]
/-- The bits of a byte, one behind the other: u after k bits. -/
def bitst (u b : Nat) : Nat := if b ≠ u % 2 then (u / 2) ^^^ 0x82F63B78 else u / 2
theorem bitst_is (u d : Nat) : stp (u ^^^ d) = bitst u (d % 2) ^^^ (d / 2) := by
  unfold stp bitst
  rw [xor_div2, xor_mod2]
  rcases Nat.mod_two_eq_zero_or_one u with h | h <;> rcases Nat.mod_two_eq_zero_or_one d with h' | h' <;> rw [h, h'] <;> simp [Nat.xor_assoc, Nat.xor_comm, xlc, xcl]
def bitsN : Nat → Nat → Nat → Nat
  | 0, u, _ => u
  | n + 1, u, d => bitsN n (bitst u (d % 2)) (d / 2)
theorem bitsN_is (n u d : Nat) : stpN n (u ^^^ d) = bitsN n u d ^^^ (d / 2 ^ n) := by
  induction n generalizing u d with
  | zero => simp [stpN, bitsN]
  | succ n ih =>
    simp only [stpN, bitsN]
    rw [bitst_is, ih, Nat.div_div_eq_div_mul, Nat.pow_succ, Nat.mul_comm]
theorem bitsN_byte (u c : Nat) (hc : c < 256) : bitsN 8 u c = stpN 8 (u ^^^ c) := by
  rw [bitsN_is, show c / 2 ^ 8 = 0 by omega]
  simp
theorem stp_lt {v : Nat} (h : v < 4294967296) : stp v < 4294967296 := by
  unfold stp
  refine Nat.xor_lt_two_pow (n := 32) (Nat.lt_of_le_of_lt (Nat.div_le_self v 2) h) ?_
  rcases Nat.mod_two_eq_zero_or_one v with h' | h' <;> rw [h'] <;> decide
/-- The highest bit of a step tells the lowest one of what was. -/
theorem stp_zero {v : Nat} (h : v < 4294967296) (hz : stp v = 0) : v = 0 := by
  unfold stp at hz
  rcases Nat.mod_two_eq_zero_or_one v with h' | h'
  · rw [h'] at hz
    simp at hz
    omega
  · rw [h'] at hz
    have h1 : v / 2 = 0x82F63B78 := by
      have e := congrArg (fun x => x ^^^ 0x82F63B78) hz
      simp only [Nat.one_mul, Nat.xor_assoc, Nat.xor_self, Nat.xor_zero, Nat.zero_xor] at e
      exact e
    omega
theorem stpN_zero (n : Nat) {v : Nat} (h : v < 4294967296) (hz : stpN n v = 0) : v = 0 := by
  induction n generalizing v with
  | zero => exact hz
  | succ n ih => exact stp_zero h (ih (stp_lt h) hz)
theorem tabN_eq : tabN = crcTabN := rfl
theorem crcStepN_is (s : Nat) : crcStepN s = stpN 4 s := (nibble s).symm
theorem crcByteN_is (s c : Nat) : crcByteN s c = stpN 8 (s ^^^ c) := by
  unfold crcByteN
  rw [crcStepN_is, crcStepN_is, ← stpN_add]
theorem bt_nat (s : ByteArray) (i : Nat) : bt s (i : Int) = ((s.data.toList.getD i 0).toNat : Int) := by
  unfold bt
  have e : ((i : Int)).toNat = i := rfl
  rw [e]
  by_cases h : i < s.size
  · rw [dif_pos h]
    have hl : i < s.data.toList.length := by rw [Array.length_toList]; exact h
    rw [List.getD_eq_getElem?_getD, List.getElem?_eq_getElem hl]
    simp only [Option.getD_some]
    rfl
  · rw [dif_neg h]
    have hl : s.data.toList.length ≤ i := by rw [Array.length_toList]; exact Nat.not_lt.1 h
    rw [List.getD_eq_getElem?_getD, List.getElem?_eq_none hl]
    rfl
theorem shr8 (c j : Nat) (hj : j ≤ 8) : shr .u8 (c : Int) (j : Int) = ((c / 2 ^ j : Nat) : Int) := by
  unfold shr
  have e2 : (2 : Int) ^ j = ((2 ^ j : Nat) : Int) := by simp
  rw [show min ((j : Int)).toNat IntKind.u8.bits = j from Nat.min_eq_left hj]
  rw [e2]
  rfl
theorem ref_bits (x1 : ByteArray) (i : Nat) (hi : i < x1.size) (n : Nat) : ∀ (j u k : Nat), j + n = 8 → u < 4294967296 →
    carillonref02_More.l1 (k + n + 1) x1 (u : Int) (i : Int) (j : Int) = carillonref02_More.l0 k x1 ((bitsN n u ((x1.data.toList.getD i 0).toNat / 2 ^ j) : Nat) : Int) (wrap64 ((i : Int) + 1)) := by
  induction n with
  | zero =>
    intro j u k hj hu
    obtain rfl : j = 8 := by omega
    rw [carillonref02_More.l1, if_neg (by decide)]
    rfl
  | succ n ih =>
    intro j u k hj hu
    have hjj : (j : Int) < 8 := by omega
    rw [show k + (n + 1) + 1 = (k + n + 1) + 1 by omega]
    rw [carillonref02_More.l1, if_pos hjj, if_pos (by omega), if_pos (by omega), if_pos (by omega), bt_nat, shr8 _ _ (by omega)]
    have hw : wrap64 ((j : Int) + 1) = ((j + 1 : Nat) : Int) := by unfold wrap64; omega
    have hd : Int.tdiv (u : Int) 2 = ((u / 2 : Nat) : Int) := by rw [Int.tdiv_eq_ediv_of_nonneg (by omega)]; rfl
    have hm : Int.tmod (u : Int) 2 = ((u % 2 : Nat) : Int) := by rw [Int.tmod_eq_emod_of_nonneg (by omega)]; rfl
    have hdm : ((u / 2 : Nat) : Int) % 4294967296 = ((u / 2 : Nat) : Int) := by omega
    generalize hc : (x1.data.toList.getD i 0).toNat = c
    have hc8 : c < 256 := by rw [← hc]; exact UInt8.toNat_lt _
    have hcj : c / 2 ^ j < 256 := Nat.lt_of_le_of_lt (Nat.div_le_self _ _) hc8
    have ih' := ih (j + 1) (bitst u (c / 2 ^ j % 2)) k (by omega) (by
      unfold bitst
      split
      · exact Nat.xor_lt_two_pow (n := 32) (by omega) (by decide)
      · omega)
    rw [hc] at ih'
    rw [hw, hd, hm, hdm]
    have hbit : (((c / 2 ^ j : Nat) : Int) % 4294967296 % 2 = ((u % 2 : Nat) : Int)) ↔ c / 2 ^ j % 2 = u % 2 := by omega
    simp only [bitsN]
    rw [Nat.div_div_eq_div_mul, ← Nat.pow_succ]
    by_cases hb : c / 2 ^ j % 2 = u % 2
    · rw [if_pos (hbit.2 hb), ← ih']
      unfold bitst
      rw [if_neg (by simpa using hb)]
    · rw [if_neg (fun h => hb (hbit.1 h)), ← ih']
      unfold bitst
      rw [if_pos hb]
      rw [show Go.bits .xor .u32 ((u / 2 : Nat) : Int) 2197175160 = ((u / 2 ^^^ 2197175160 : Nat) : Int) from u32_xor_nat (u / 2) 2197175160 (by omega) (by decide)]
theorem ref_bytes (x1 : ByteArray) (hs : x1.size ≤ 9223372036854775807) (n : Nat) : ∀ (i u k : Nat), i + n = x1.size → u < 4294967296 →
    carillonref02_More.l0 (k + 10 * n + 1) x1 (u : Int) (i : Int) = some ((4294967295 ^^^ crcFoldN u (x1.data.toList.drop i) : Nat) : Int) := by
  have hl : x1.data.toList.length = x1.size := by rw [Array.length_toList]; rfl
  induction n with
  | zero =>
    intro i u k hi hu
    rw [carillonref02_More.l0, if_neg (by omega), List.drop_of_length_le (by omega)]
    rw [show Go.bits .xor .u32 (u : Int) 4294967295 = ((u ^^^ 4294967295 : Nat) : Int) from u32_xor_nat u 4294967295 hu (by decide), Nat.xor_comm]
    rfl
  | succ n ih =>
    intro i u k hi hu
    rw [show k + 10 * (n + 1) + 1 = ((k + 10 * n + 1) + 8 + 1) + 1 by omega]
    rw [carillonref02_More.l0, if_pos (by omega)]
    have h := ref_bits x1 i (by omega) 8 0 u (k + 10 * n + 1) (by omega) hu
    rw [show ((0 : Nat) : Int) = 0 from rfl] at h
    rw [h, Nat.pow_zero, Nat.div_one]
    have hw : wrap64 ((i : Int) + 1) = ((i + 1 : Nat) : Int) := by unfold wrap64; omega
    have hc8 : (x1.data.toList.getD i 0).toNat < 256 := UInt8.toNat_lt _
    rw [hw, bitsN_byte _ _ hc8, ← crcByteN_is, ih (i + 1) _ k (by omega) (crcByteN_lt hu hc8)]
    rw [List.drop_eq_getElem_cons (i := i) (by omega)]
    have e : x1.data.toList[i]'(by omega) = x1.data.toList.getD i 0 := by rw [List.getD_eq_getElem?_getD, List.getElem?_eq_getElem (by omega)]; rfl
    rw [e]
    rfl
/-- The document's sum is the program's. -/
theorem ref_more (a0 : Int) (a1 : ByteArray) (h0 : 0 ≤ a0) (h1 : a0 < 4294967296) (hs : a1.size ≤ 9223372036854775807) : ∀ k, 10 * a1.size + 1 ≤ k → carillonref02_More.f k a0 a1 = crc_More.f a0 a1 := by
  intro k hk
  obtain ⟨m, rfl⟩ : ∃ m, k = m + 10 * a1.size + 1 := ⟨k - 10 * a1.size - 1, by omega⟩
  obtain ⟨n0, rfl⟩ : ∃ n0 : Nat, a0 = (n0 : Int) := ⟨a0.toNat, by omega⟩
  unfold carillonref02_More.f crc_More.f
  rw [if_pos ⟨h0, h1, hs⟩]
  rw [show Go.bits .xor .u32 (n0 : Int) 4294967295 = ((n0 ^^^ 4294967295 : Nat) : Int) from u32_xor_nat n0 4294967295 (by omega) (by decide)]
  have h := ref_bytes a1 hs a1.size 0 (n0 ^^^ 4294967295) m (by omega) (Nat.xor_lt_two_pow (n := 32) (by omega) (by decide))
  rw [show ((0 : Nat) : Int) = 0 from rfl] at h
  rw [h, List.drop_zero, Nat.xor_comm n0]
  rfl
theorem xor0 : 4294967295 ^^^ (0 : Int).toNat = 4294967295 := by decide
theorem more_zero (s : ByteArray) (h : s.size ≤ 9223372036854775807) : crc_More.f 0 s = some ((4294967295 ^^^ crcFoldN 4294967295 s.data.toList : Nat) : Int) := by
  unfold crc_More.f
  rw [if_pos ⟨by decide, by decide, h⟩, xor0]
theorem more_on (m : Nat) (hm : m < 4294967296) (s : ByteArray) (h : s.size ≤ 9223372036854775807) : crc_More.f ((4294967295 ^^^ m : Nat) : Int) s = some ((4294967295 ^^^ crcFoldN m s.data.toList : Nat) : Int) := by
  have hx : 4294967295 ^^^ m < 4294967296 := xor_lt32 (by decide) hm
  unfold crc_More.f
  rw [if_pos ⟨by omega, by omega, h⟩]
  rw [show (((4294967295 ^^^ m : Nat) : Int)).toNat = 4294967295 ^^^ m from rfl, xcl]
theorem fold_append (s : Nat) (a b : List UInt8) : crcFoldN s (a ++ b) = crcFoldN (crcFoldN s a) b := by simp [crcFoldN]
theorem data_append (a b : ByteArray) : (a ++ b).data.toList = a.data.toList ++ b.data.toList := by rw [ByteArray.data_append, Array.toList_append]
theorem wf_u32 {x : Int} (h : (Lit.int .u32 x).wf = true) : 0 ≤ x ∧ x < 4294967296 := by
  have h2 := bounds_u32 h
  omega
end Go.Proofs.YtkcooehlahifkaaDoor.P
