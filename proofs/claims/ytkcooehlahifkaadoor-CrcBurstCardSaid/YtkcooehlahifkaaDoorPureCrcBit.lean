/- A frame of which one bit is turned, but of its length, is none: the plain statement. -/
import Derived.Test.YtkcooehlahifkaaDoorKinds
import Derived.Test.YtkcooehlahifkaaDoorPx20
import Derived.Test.YtkcooehlahifkaaDoorPlainF
namespace Go.Proofs.YtkcooehlahifkaaDoor.P
open Go.RowKit Go.Proofs.YtkcooehlahifkaaDoorW.PrintWords
set_option linter.unusedVariables false
set_option linter.unusedSimpArgs false
def carillonlaw02_CrcBit.Pure : Prop := ∀ (x0 : ByteArray) (x1 : Int), x0.size ≤ 140737488351232 → (Lit.int .i64 x1).wf = true → carillonlaw02_CrcBit.f x0 x1 = some true
theorem wf_i64 {x : Int} (h : (Lit.int .i64 x).wf = true) : -9223372036854775808 ≤ x ∧ x ≤ 9223372036854775807 := by
  have h2 := bounds_i64 h
  omega
theorem num4_word0 (q : Nat) (hq : q < 4294967296) (B : List UInt8) : num4 (word4 q ++ B) = q := num4_word q hq B
/-- A number whose four bytes have one bit turned is another one. -/
theorem num4_turned (l : List UInt8) (hl : 4 ≤ l.length) (j k : Nat) (hj : j < 4) (hk : k < 8) : num4 (l.set j (UInt8.ofNat ((l.getD j 0).toNat ^^^ 2 ^ k))) ≠ num4 l := by
  intro h
  have hx : by8 l j ^^^ 2 ^ k < 256 := xor_pow_lt (by8_lt l j) hk
  have hne : by8 l j ^^^ 2 ^ k ≠ by8 l j := xor_pow_ne
  have hv : (UInt8.ofNat (by8 l j ^^^ 2 ^ k)).toNat = by8 l j ^^^ 2 ^ k := by rw [UInt8.toNat_ofNat', Nat.mod_eq_of_lt (by simpa using hx)]
  have hb : ∀ i, i < 4 → by8 (l.set j (UInt8.ofNat (by8 l j ^^^ 2 ^ k))) i = if j = i then by8 l j ^^^ 2 ^ k else by8 l i := by
    intro i hi
    rw [← hv]
    generalize UInt8.ofNat (by8 l j ^^^ 2 ^ k) = v
    unfold by8
    rw [List.getD_eq_getElem?_getD, List.getElem?_set]
    by_cases e : j = i
    · subst e
      rw [if_pos rfl, if_pos rfl, if_pos (by omega)]
      simp
    · rw [if_neg e, if_neg e, List.getD_eq_getElem?_getD]
  have h' : num4 (l.set j (UInt8.ofNat (by8 l j ^^^ 2 ^ k))) = num4 l := h
  unfold num4 at h'
  rw [hb 0 (by omega), hb 1 (by omega), hb 2 (by omega), hb 3 (by omega)] at h'
  have l0 := by8_lt l 0
  have l1 := by8_lt l 1
  have l2 := by8_lt l 2
  have l3 := by8_lt l 3
  obtain rfl | rfl | rfl | rfl : j = 0 ∨ j = 1 ∨ j = 2 ∨ j = 3 := by omega
  all_goals (simp only [if_true, if_false, Nat.reduceEqDiff, reduceIte] at h'; omega)
/-- What Take answers to a frame's bytes of which what stands behind the length is another body of that length, or another sum. -/
theorem take_broken (n q : Nat) (B : List UInt8) (hn : B.length = n) (hn4 : n ≤ 400000) (s : ByteArray) (X : List UInt8) (hs : ls s = word4 n ++ X) (hX : X.length = n + 4)
    (hbad : sumOf (word4 n) (X.drop 4) ≠ num4 X) : takeV s = (⟨#[]⟩, 0, 4) := by
  have hsz : s.size = n + 8 := by rw [← ls_len, hs, List.length_append, word4_len]; omega
  have e1 : num4 (ls s) = n := by rw [hs]; exact num4_word n (by omega) X
  have e2 : (ls s).take 4 = word4 n := by rw [hs]; exact take4 n X
  have e3 : (ls s).drop 4 = X := by rw [hs]; exact drop4 n X
  have e4 : (ls s).drop 8 = X.drop 4 := by rw [show 8 = 4 + 4 from rfl, ← List.drop_drop, e3]
  unfold takeV
  rw [e1, e2, e3, e4, List.take_of_length_le (by rw [List.length_drop]; omega)]
  rw [if_neg (by omega), if_neg (by omega), if_neg (by omega), if_neg hbad]
theorem CrcBit : carillonlaw02_CrcBit.Pure := by
  intro x0 x1 h0 h1
  have hw := wf_i64 h1
  unfold carillonlaw02_CrcBit.f
  generalize hB : x0.extract 0 (min x0.size 4000) = b
  have hb : b.size ≤ 4000 := by
    rw [← hB, ← ls_len, ls_extract, List.length_take]
    omega
  rw [frame_is, if_neg (by omega)]
  have hfs := frame_size b
  have hbr : takeV (turned (frame b) (turnAt (frame b).size x1)) = (⟨#[]⟩, 0, 4) := by
    have hp1 : 32 ≤ turnAt (frame b).size x1 := by unfold turnAt; omega
    have hp2 : turnAt (frame b).size x1 < 8 * (frame b).size := by
      unfold turnAt
      generalize (if x1 < 0 then -(x1 + 1) else x1).toNat = z
      have := Nat.mod_lt z (show 0 < 8 * (frame b).size - 32 by omega)
      omega
    generalize turnAt (frame b).size x1 = p at *
    obtain ⟨q, hq, hsum, hfr⟩ := frameL_q b
    rw [hfs] at hp2
    have hlen : (ls b).length = b.size := ls_len b
    have hls : ls (turned (frame b) p) = word4 b.size ++ (word4 q ++ ls b).set (p / 8 - 4) (UInt8.ofNat (((word4 q ++ ls b).getD (p / 8 - 4) 0).toNat ^^^ 2 ^ (p % 8))) := by
      rw [turned_ls, frame_ls, hfr]
      have e5 : (word4 b.size ++ (word4 q ++ ls b)).getD (p / 8) 0 = (word4 q ++ ls b).getD (p / 8 - 4) 0 := by
        rw [List.getD_eq_getElem?_getD, List.getElem?_append_right (by rw [word4_len]; omega), word4_len, List.getD_eq_getElem?_getD]
      rw [e5, List.set_append_right _ _ (by rw [word4_len]; omega), word4_len]
    refine take_broken b.size q (ls b) hlen (by omega) _ _ hls (by rw [List.length_set, List.length_append, word4_len, hlen]; omega) ?_
    by_cases h : p / 8 < 8
    · have e6 : ((word4 q ++ ls b).set (p / 8 - 4) (UInt8.ofNat (((word4 q ++ ls b).getD (p / 8 - 4) 0).toNat ^^^ 2 ^ (p % 8)))).drop 4 = ls b := by
        rw [List.drop_set, if_pos (by omega)]
        exact drop4 q (ls b)
      rw [e6, hsum]
      have := num4_turned (word4 q ++ ls b) (by rw [List.length_append, word4_len]; omega) (p / 8 - 4) (p % 8) (by omega) (by omega)
      rw [num4_word q hq] at this
      exact fun e => this e.symm
    · have e7 : (word4 q ++ ls b).set (p / 8 - 4) (UInt8.ofNat (((word4 q ++ ls b).getD (p / 8 - 4) 0).toNat ^^^ 2 ^ (p % 8))) = word4 q ++ (ls b).set ((p - 64) / 8) (UInt8.ofNat (((ls b).getD ((p - 64) / 8) 0).toNat ^^^ 2 ^ ((p - 64) % 8))) := by
        have e8 : (word4 q ++ ls b).getD (p / 8 - 4) 0 = (ls b).getD ((p - 64) / 8) 0 := by
          rw [List.getD_eq_getElem?_getD, List.getElem?_append_right (by rw [word4_len]; omega), word4_len, List.getD_eq_getElem?_getD, show p / 8 - 4 - 4 = (p - 64) / 8 by omega]
        rw [e8, List.set_append_right _ _ (by rw [word4_len]; omega), word4_len, show p / 8 - 4 - 4 = (p - 64) / 8 by omega, show (p - 64) % 8 = p % 8 by omega]
      rw [e7, drop4, num4_word q hq, ← hsum]
      refine sum_turned _ (ls b) _ (p - 64) 1 (by rw [List.length_set]) ?_ (by omega) (by omega) (by omega)
      rw [le_set _ _ (by omega), Nat.mul_one]
  have ht : crc_Take.f (turned (frame b) (turnAt (frame b).size x1)) = some ((⟨#[]⟩ : ByteArray), 0, 4) := by
    rw [take_is _ (by rw [← ls_len, turned_ls, List.length_set, ls_len]; omega), hbr]
  show (if (0 : Int) = 0 ∧ 8 ≤ (frame b).size ∧ (frame b).size ≤ 5000 ∧ x0.size ≤ 9223372036854775807 ∧ -9223372036854775808 ≤ x1 ∧ x1 ≤ 9223372036854775807 ∧ crc_Take.f (turned (frame b) (turnAt (frame b).size x1)) = some ((⟨#[]⟩ : ByteArray), 0, 4) then some true else none) = some true
  rw [if_pos ⟨rfl, by omega, by omega, by omega, hw.1, hw.2, ht⟩]
end Go.Proofs.YtkcooehlahifkaaDoor.P
