/- Turned bits: a text as one number, the sum as steps of that number. -/
import Derived.Test.YtpgiagdpepkooaaDoorPx9
import Derived.Test.YtpgiagdpepkooaaDoorPlainP
namespace Go.Proofs.YtpgiagdpepkooaaDoor.P
open Go.RowKit Go.Proofs.YtpgiagdpepkooaaDoorW.PrintWords Go.Proofs.YtpgiagdpepkooaaDoorW.PrintLast Go.Proofs.YtpgiagdpepkooaaDoorW.PrintMore
set_option linter.unusedSimpArgs false
set_option linter.unusedVariables false
set_option maxRecDepth 100000
theorem xor_pow_ltT {c k : Nat} (hc : c < 256) (hk : k < 8) : c ^^^ 2 ^ k < 256 := by
  have h2 : ∀ j : Fin 8, 2 ^ j.val < 2 ^ 8 := by decide
  exact Nat.xor_lt_two_pow (n := 8) hc (h2 ⟨k, hk⟩)
/-- A text as one number, its first byte the least. -/
def le : List UInt8 → Nat
  | [] => 0
  | c :: l => c.toNat ^^^ 256 * le l
theorem mul256_xor (a b : Nat) : 256 * (a ^^^ b) = 256 * a ^^^ 256 * b := by
  have := @Nat.shiftLeft_xor_distrib 8 a b
  rw [Nat.shiftLeft_eq, Nat.shiftLeft_eq, Nat.shiftLeft_eq] at this
  rw [Nat.mul_comm 256, Nat.mul_comm 256, Nat.mul_comm 256]
  exact this
theorem stpN_pow (f n h : Nat) : stpN (f + n) (2 ^ f * h) = stpN n h := by
  induction f with
  | zero => simp
  | succ f ih =>
    rw [show f + 1 + n = (f + n) + 1 by omega, show 2 ^ (f + 1) * h = 2 * (2 ^ f * h) by rw [Nat.pow_succ, Nat.mul_comm (2 ^ f) 2, Nat.mul_assoc]]
    show stpN (f + n) (stp (2 * (2 ^ f * h))) = _
    rw [stp_even, ih]
theorem stpN_256 (h : Nat) : stpN 8 (256 * h) = h := by
  have := stpN_pow 8 0 h
  exact this
theorem fold_cons (s : Nat) (c : UInt8) (l : List UInt8) : crcFoldN s (c :: l) = crcFoldN (crcByteN s c.toNat) l := rfl
theorem fold_le (l : List UInt8) : ∀ s, crcFoldN s l = stpN (8 * l.length) (s ^^^ le l) := by
  induction l with
  | nil => intro s; show s = s ^^^ 0; rw [Nat.xor_zero]
  | cons c l ih =>
    intro s
    rw [fold_cons, ih, crcByteN_is, List.length_cons, show 8 * (l.length + 1) = 8 + 8 * l.length by omega, stpN_add, le, ← Nat.xor_assoc, stpN_xor 8 (s ^^^ c.toNat) (256 * le l), stpN_256]
theorem le_set (l : List UInt8) : ∀ i, i < 8 * l.length → le (l.set (i / 8) (UInt8.ofNat ((l.getD (i / 8) 0).toNat ^^^ 2 ^ (i % 8)))) = le l ^^^ 2 ^ i := by
  induction l with
  | nil => intro i hi; simp at hi
  | cons c l ih =>
    intro i hi
    rw [List.length_cons] at hi
    by_cases h : i < 8
    · rw [show i / 8 = 0 by omega, show i % 8 = i by omega, List.set_cons_zero, List.getD_cons_zero, le, le]
      have hx : c.toNat ^^^ 2 ^ i < 256 := xor_pow_ltT (UInt8.toNat_lt _) h
      rw [UInt8.toNat_ofNat', Nat.mod_eq_of_lt (by simpa using hx), Nat.xor_assoc, Nat.xor_comm (2 ^ i), ← Nat.xor_assoc]
    · have h1 : i / 8 = (i - 8) / 8 + 1 := by omega
      have h2 : i % 8 = (i - 8) % 8 := by omega
      rw [h1, h2, List.set_cons_succ, List.getD_cons_succ, le, le, ih (i - 8) (by omega), mul256_xor, ← Nat.xor_assoc]
      congr 1
      rw [show (256 : Nat) = 2 ^ 8 from rfl, ← Nat.pow_add]
      congr 1
      omega
/-- What is turned within 32 bits changes the sum. -/
theorem sum_turned (a B B' : List UInt8) (f W : Nat) (hl : B'.length = B.length) (hd : le B' = le B ^^^ 2 ^ f * W) (hf : f ≤ 8 * B.length) (h0 : W ≠ 0) (hW : W < 4294967296) : sumOf a B' ≠ sumOf a B := by
  intro h
  unfold sumOf at h
  generalize crcFoldN 4294967295 a = s at h
  have h1 : crcFoldN s B' = crcFoldN s B := by
    have := congrArg (fun x => 4294967295 ^^^ x) h
    simpa only [xcl] using this
  rw [fold_le, fold_le, hl, hd, ← Nat.xor_assoc, stpN_xor] at h1
  have h2 : stpN (8 * B.length) (2 ^ f * W) = 0 := by
    have := congrArg (fun x => stpN (8 * B.length) (s ^^^ le B) ^^^ x) h1
    simpa only [xcl, Nat.xor_self] using this
  rw [show 8 * B.length = f + (8 * B.length - f) by omega, stpN_pow] at h2
  exact h0 (stpN_zero _ hW h2)
theorem xor_pow_ne {c k : Nat} : c ^^^ 2 ^ k ≠ c := by
  intro h
  have h2 := congrArg (fun x => c ^^^ x) h
  simp only [xcl, Nat.xor_self] at h2
  have := Nat.two_pow_pos k
  omega
/-- A number whose four bytes have one bit turned is another one. -/
theorem num4_turned (l : List UInt8) (hl : 4 ≤ l.length) (j k : Nat) (hj : j < 4) (hk : k < 8) : num4 (l.set j (UInt8.ofNat ((l.getD j 0).toNat ^^^ 2 ^ k))) ≠ num4 l := by
  intro h
  have hx : by8 l j ^^^ 2 ^ k < 256 := xor_pow_ltT (by8_lt l j) hk
  have hne : by8 l j ^^^ 2 ^ k ≠ by8 l j := xor_pow_ne
  have hv : (UInt8.ofNat (by8 l j ^^^ 2 ^ k)).toNat = by8 l j ^^^ 2 ^ k := by rw [UInt8.toNat_ofNat', Nat.mod_eq_of_lt (by simpa using hx)]
  have hb : ∀ i, i < 4 → by8 (l.set j (UInt8.ofNat (by8 l j ^^^ 2 ^ k))) i = if j = i then by8 l j ^^^ 2 ^ k else by8 l i := by
    intro i hi
    rw [← hv]
    generalize UInt8.ofNat (by8 l j ^^^ 2 ^ k) = v
    unfold by8
    rw [List.getD_eq_getElem?_getD, List.getElem?_set]
    by_cases e : j = i
    · subst e
      rw [if_pos rfl, if_pos rfl, if_pos (by omega)]
      simp
    · rw [if_neg e, if_neg e, List.getD_eq_getElem?_getD]
  have h' : num4 (l.set j (UInt8.ofNat (by8 l j ^^^ 2 ^ k))) = num4 l := h
  unfold num4 at h'
  rw [hb 0 (by omega), hb 1 (by omega), hb 2 (by omega), hb 3 (by omega)] at h'
  have l0 := by8_lt l 0
  have l1 := by8_lt l 1
  have l2 := by8_lt l 2
  have l3 := by8_lt l 3
  obtain rfl | rfl | rfl | rfl : j = 0 ∨ j = 1 ∨ j = 2 ∨ j = 3 := by omega
  all_goals (simp only [if_true, if_false, Nat.reduceEqDiff, reduceIte] at h'; omega)
/-- What Take answers where, behind a frame's length, another body of that length stands, or another sum, whatever stands behind. -/
theorem take_brokenT (n : Nat) (hn4 : n ≤ 400000) (s : ByteArray) (X R : List UInt8) (hs : ls s = word4 n ++ (X ++ R)) (hX : X.length = n + 4)
    (hbad : sumOf (word4 n) (X.drop 4) ≠ num4 X) : takeV s = (⟨#[]⟩, 0, 4) := by
  have hsz : s.size = n + 8 + R.length := by rw [← ls_len, hs, List.length_append, word4_len, List.length_append]; omega
  have e1 : num4 (ls s) = n := by rw [hs]; exact num4_word n (by omega) (X ++ R)
  have e2 : (ls s).take 4 = word4 n := by rw [hs]; exact take4 n (X ++ R)
  have e3 : (ls s).drop 4 = X ++ R := by rw [hs]; exact drop4 n (X ++ R)
  have e4 : (ls s).drop 8 = X.drop 4 ++ R := by rw [show 8 = 4 + 4 from rfl, ← List.drop_drop, e3, List.drop_append_of_le_length (by omega)]
  have e5 : num4 (X ++ R) = num4 X := by
    have := num4_take (X ++ R) X.length (by omega)
    rw [List.take_left] at this
    exact this.symm
  have e6 : (X.drop 4 ++ R).take n = X.drop 4 := List.take_left' (by rw [List.length_drop]; omega)
  unfold takeV
  rw [e1, e2, e3, e4, e5, e6]
  rw [if_neg (by omega), if_neg (by omega), if_neg (by omega), if_neg hbad]
def flipL (l : List UInt8) (p : Nat) : List UInt8 := l.set (p / 8) (UInt8.ofNat ((l.getD (p / 8) 0).toNat ^^^ 2 ^ (p % 8)))
/-- A frame of which one bit behind the length is turned, whatever stands behind it. -/
theorem take_flip (b : ByteArray) (hb : b.size ≤ 400000) (p : Nat) (hp1 : 32 ≤ p) (hp2 : p < 8 * (b.size + 8)) (s : ByteArray) (R : List UInt8) (hs : ls s = flipL (frameL (ls b)) p ++ R) : takeV s = (⟨#[]⟩, 0, 4) := by
  obtain ⟨q, hq, hsum, hfr⟩ := frameL_q b
  have hlen : (ls b).length = b.size := ls_len b
  have hls : flipL (frameL (ls b)) p = word4 b.size ++ (word4 q ++ ls b).set (p / 8 - 4) (UInt8.ofNat (((word4 q ++ ls b).getD (p / 8 - 4) 0).toNat ^^^ 2 ^ (p % 8))) := by
    unfold flipL
    rw [hfr]
    have e5 : (word4 b.size ++ (word4 q ++ ls b)).getD (p / 8) 0 = (word4 q ++ ls b).getD (p / 8 - 4) 0 := by
      rw [List.getD_eq_getElem?_getD, List.getElem?_append_right (by rw [word4_len]; omega), word4_len, List.getD_eq_getElem?_getD]
    rw [e5, List.set_append_right _ _ (by rw [word4_len]; omega), word4_len]
  rw [hls, List.append_assoc] at hs
  refine take_brokenT b.size hb _ _ R hs (by rw [List.length_set, List.length_append, word4_len, hlen]; omega) ?_
  by_cases h : p / 8 < 8
  · have e6 : ((word4 q ++ ls b).set (p / 8 - 4) (UInt8.ofNat (((word4 q ++ ls b).getD (p / 8 - 4) 0).toNat ^^^ 2 ^ (p % 8)))).drop 4 = ls b := by
      rw [List.drop_set, if_pos (by omega)]
      exact drop4 q (ls b)
    rw [e6, hsum]
    have := num4_turned (word4 q ++ ls b) (by rw [List.length_append, word4_len]; omega) (p / 8 - 4) (p % 8) (by omega) (by omega)
    rw [num4_word q hq] at this
    exact fun e => this e.symm
  · have e7 : (word4 q ++ ls b).set (p / 8 - 4) (UInt8.ofNat (((word4 q ++ ls b).getD (p / 8 - 4) 0).toNat ^^^ 2 ^ (p % 8))) = word4 q ++ (ls b).set ((p - 64) / 8) (UInt8.ofNat (((ls b).getD ((p - 64) / 8) 0).toNat ^^^ 2 ^ ((p - 64) % 8))) := by
      have e8 : (word4 q ++ ls b).getD (p / 8 - 4) 0 = (ls b).getD ((p - 64) / 8) 0 := by
        rw [List.getD_eq_getElem?_getD, List.getElem?_append_right (by rw [word4_len]; omega), word4_len, List.getD_eq_getElem?_getD, show p / 8 - 4 - 4 = (p - 64) / 8 by omega]
      rw [e8, List.set_append_right _ _ (by rw [word4_len]; omega), word4_len, show p / 8 - 4 - 4 = (p - 64) / 8 by omega, show (p - 64) % 8 = p % 8 by omega]
    rw [e7, drop4, num4_word q hq, ← hsum]
    refine sum_turned _ (ls b) _ (p - 64) 1 (by rw [List.length_set]) ?_ (by omega) (by omega) (by omega)
    rw [le_set _ _ (by omega), Nat.mul_one]
end Go.Proofs.YtpgiagdpepkooaaDoor.P
