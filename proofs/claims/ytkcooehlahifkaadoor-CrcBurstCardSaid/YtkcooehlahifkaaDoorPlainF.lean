/- Turned bits: a text as one number, the sum as steps of that number; what is turned within 32 bits changes the sum. -/
import Derived.Test.YtkcooehlahifkaaDoorPlainE
import Derived.Test.YtkcooehlahifkaaDoorPx20
namespace Go.Proofs.YtkcooehlahifkaaDoor.P
open Go.RowKit Go.Proofs.YtkcooehlahifkaaDoorW.PrintWords Go.Proofs.YtkcooehlahifkaaDoorW.PrintLast Go.Proofs.YtkcooehlahifkaaDoorW.PrintMore
set_option linter.unusedSimpArgs false
set_option linter.unusedVariables false
/-- A text as one number, its first byte the least. -/
def le : List UInt8 → Nat
  | [] => 0
  | c :: l => c.toNat ^^^ 256 * le l
theorem mul256_xor (a b : Nat) : 256 * (a ^^^ b) = 256 * a ^^^ 256 * b := by
  have := @Nat.shiftLeft_xor_distrib 8 a b
  rw [Nat.shiftLeft_eq, Nat.shiftLeft_eq, Nat.shiftLeft_eq] at this
  rw [Nat.mul_comm 256, Nat.mul_comm 256, Nat.mul_comm 256]
  exact this
theorem stpN_pow (f n h : Nat) : stpN (f + n) (2 ^ f * h) = stpN n h := by
  induction f with
  | zero => simp
  | succ f ih =>
    rw [show f + 1 + n = (f + n) + 1 by omega, show 2 ^ (f + 1) * h = 2 * (2 ^ f * h) by rw [Nat.pow_succ, Nat.mul_comm (2 ^ f) 2, Nat.mul_assoc]]
    show stpN (f + n) (stp (2 * (2 ^ f * h))) = _
    rw [stp_even, ih]
theorem stpN_256 (h : Nat) : stpN 8 (256 * h) = h := by
  have := stpN_pow 8 0 h
  exact this
theorem fold_cons (s : Nat) (c : UInt8) (l : List UInt8) : crcFoldN s (c :: l) = crcFoldN (crcByteN s c.toNat) l := rfl
theorem fold_le (l : List UInt8) : ∀ s, crcFoldN s l = stpN (8 * l.length) (s ^^^ le l) := by
  induction l with
  | nil => intro s; show s = s ^^^ 0; rw [Nat.xor_zero]
  | cons c l ih =>
    intro s
    rw [fold_cons, ih, crcByteN_is, List.length_cons, show 8 * (l.length + 1) = 8 + 8 * l.length by omega, stpN_add, le, ← Nat.xor_assoc, stpN_xor 8 (s ^^^ c.toNat) (256 * le l), stpN_256]
theorem le_set (l : List UInt8) : ∀ i, i < 8 * l.length → le (l.set (i / 8) (UInt8.ofNat ((l.getD (i / 8) 0).toNat ^^^ 2 ^ (i % 8)))) = le l ^^^ 2 ^ i := by
  induction l with
  | nil => intro i hi; simp at hi
  | cons c l ih =>
    intro i hi
    rw [List.length_cons] at hi
    by_cases h : i < 8
    · rw [show i / 8 = 0 by omega, show i % 8 = i by omega, List.set_cons_zero, List.getD_cons_zero, le, le]
      have hx : c.toNat ^^^ 2 ^ i < 256 := xor_pow_lt (UInt8.toNat_lt _) h
      rw [UInt8.toNat_ofNat', Nat.mod_eq_of_lt (by simpa using hx), Nat.xor_assoc, Nat.xor_comm (2 ^ i), ← Nat.xor_assoc]
    · have h1 : i / 8 = (i - 8) / 8 + 1 := by omega
      have h2 : i % 8 = (i - 8) % 8 := by omega
      rw [h1, h2, List.set_cons_succ, List.getD_cons_succ, le, le, ih (i - 8) (by omega), mul256_xor, ← Nat.xor_assoc]
      congr 1
      rw [show (256 : Nat) = 2 ^ 8 from rfl, ← Nat.pow_add]
      congr 1
      omega
/-- What is turned within 32 bits changes the sum. -/
theorem sum_turned (a B B' : List UInt8) (f W : Nat) (hl : B'.length = B.length) (hd : le B' = le B ^^^ 2 ^ f * W) (hf : f ≤ 8 * B.length) (h0 : W ≠ 0) (hW : W < 4294967296) : sumOf a B' ≠ sumOf a B := by
  intro h
  unfold sumOf at h
  generalize crcFoldN 4294967295 a = s at h
  have h1 : crcFoldN s B' = crcFoldN s B := by
    have := congrArg (fun x => 4294967295 ^^^ x) h
    simpa only [xcl] using this
  rw [fold_le, fold_le, hl, hd, ← Nat.xor_assoc, stpN_xor] at h1
  have h2 : stpN (8 * B.length) (2 ^ f * W) = 0 := by
    have := congrArg (fun x => stpN (8 * B.length) (s ^^^ le B) ^^^ x) h1
    simpa only [xcl, Nat.xor_self] using this
  rw [show 8 * B.length = f + (8 * B.length - f) by omega, stpN_pow] at h2
  exact h0 (stpN_zero _ hW h2)
theorem turned_ls (s : ByteArray) (i : Nat) : ls (turned s i) = (ls s).set (i / 8) (UInt8.ofNat (((ls s).getD (i / 8) 0).toNat ^^^ 2 ^ (i % 8))) := by
  unfold turned ls
  generalize s.data.toList.set (i / 8) (UInt8.ofNat ((s.data.toList.getD (i / 8) 0).toNat ^^^ 2 ^ (i % 8))) = l
  rw [strOfNums_data, List.map_map]
  have : ∀ l : List UInt8, l.map ((fun n : Int => UInt8.ofNat n.toNat) ∘ fun c : UInt8 => (c.toNat : Int)) = l := by
    intro l
    induction l with
    | nil => rfl
    | cons c l ih => rw [List.map_cons, ih]; simp
  exact this l
theorem xor_pow_ne {c k : Nat} : c ^^^ 2 ^ k ≠ c := by
  intro h
  have h2 := congrArg (fun x => c ^^^ x) h
  simp only [xcl, Nat.xor_self] at h2
  have := Nat.two_pow_pos k
  omega
end Go.Proofs.YtkcooehlahifkaaDoor.P
