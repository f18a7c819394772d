/- A frame in whose body a stretch of at most 32 bits is turned is none: the plain statement. -/
import Derived.Test.YtkcooehlahifkaaDoorKinds
import Derived.Test.YtkcooehlahifkaaDoorPx21
import Derived.Test.YtkcooehlahifkaaDoorPureCrcBit
namespace Go.Proofs.YtkcooehlahifkaaDoor.P
open Go.RowKit Go.Proofs.YtkcooehlahifkaaDoorW.PrintWords
set_option linter.unusedVariables false
set_option linter.unusedSimpArgs false
def carillonlaw02_CrcBurst.Pure : Prop := ∀ (x0 : ByteArray) (x1 : Int) (x2 : Int), x0.size ≤ 140737488351232 → (Lit.int .i64 x1).wf = true → (Lit.int .u32 x2).wf = true → carillonlaw02_CrcBurst.f x0 x1 x2 = some true
/-- What the first j bits of y turn. -/
def vOf (y : Nat) : Nat → Nat
  | 0 => 0
  | j + 1 => if y / 2 ^ j % 2 = 1 then vOf y j ^^^ 2 ^ j else vOf y j
theorem vOf_lt (y : Nat) : ∀ j, vOf y j < 2 ^ j := by
  intro j
  induction j with
  | zero => show 0 < 2 ^ 0; omega
  | succ j ih =>
    have h1 : 2 ^ j < 2 ^ (j + 1) := by rw [Nat.pow_succ]; have := Nat.two_pow_pos j; omega
    rw [vOf]
    by_cases h : y / 2 ^ j % 2 = 1
    · rw [if_pos h]
      exact Nat.xor_lt_two_pow (by omega) h1
    · rw [if_neg h]
      omega
theorem vOf_odd (y : Nat) (hy : y % 2 = 1) : ∀ j, vOf y (j + 1) % 2 = 1 := by
  intro j
  induction j with
  | zero =>
    show (if y / 2 ^ 0 % 2 = 1 then 0 ^^^ 2 ^ 0 else 0) % 2 = 1
    rw [if_pos (by rw [Nat.pow_zero, Nat.div_one]; exact hy)]
    rfl
  | succ j ih =>
    rw [vOf]
    by_cases h : y / 2 ^ (j + 1) % 2 = 1
    · rw [if_pos h, xor_mod2, ih, show 2 ^ (j + 1) % 2 = 0 by rw [Nat.pow_succ]; omega]
      rfl
    · rw [if_neg h]
      exact ih
theorem mulpow_xor (f a b : Nat) : 2 ^ f * (a ^^^ b) = 2 ^ f * a ^^^ 2 ^ f * b := by
  have := @Nat.shiftLeft_xor_distrib f a b
  rw [Nat.shiftLeft_eq, Nat.shiftLeft_eq, Nat.shiftLeft_eq] at this
  rw [Nat.mul_comm (2 ^ f), Nat.mul_comm (2 ^ f) a, Nat.mul_comm (2 ^ f) b]
  exact this
theorem flip_behind (H X : List UInt8) (hH : H.length = 8) (i : Nat) : flipL (H ++ X) (64 + i) = H ++ flipL X i := by
  unfold flipL
  have e8 : (H ++ X).getD ((64 + i) / 8) 0 = X.getD (i / 8) 0 := by
    rw [List.getD_eq_getElem?_getD, List.getElem?_append_right (by omega), hH, List.getD_eq_getElem?_getD, show (64 + i) / 8 - 8 = i / 8 by omega]
  rw [e8, List.set_append_right _ _ (by omega), hH, show (64 + i) / 8 - 8 = i / 8 by omega, show (64 + i) % 8 = i % 8 by omega]
theorem burst_is (H B : List UInt8) (hH : H.length = 8) (n f y : Nat) (hB : B.length = n) : ∀ j, f + j ≤ 8 * n → ∃ X, burstL (H ++ B) n f y j = H ++ X ∧ X.length = n ∧ le X = le B ^^^ 2 ^ f * vOf y j := by
  intro j
  induction j with
  | zero => intro _; exact ⟨B, rfl, hB, by show le B = le B ^^^ 2 ^ f * 0; rw [Nat.mul_zero, Nat.xor_zero]⟩
  | succ j ih =>
    intro hj
    obtain ⟨X, h1, h2, h3⟩ := ih (by omega)
    rw [burstL, vOf]
    by_cases h : y / 2 ^ j % 2 = 1
    · refine ⟨flipL X (f + j), ?_, by rw [flipL, List.length_set, h2], ?_⟩
      · rw [if_pos ⟨by omega, h⟩, h1, flip_behind H X hH]
      · rw [flipL, le_set X (f + j) (by omega), h3, if_pos h, mulpow_xor, Nat.xor_assoc, ← Nat.pow_add]
    · refine ⟨X, ?_, h2, ?_⟩
      · rw [if_neg (fun hh => h hh.2), h1]
      · rw [h3, if_neg h]
theorem strOf_ls (l : List UInt8) : ls (strOfNums (l.map fun c => (c.toNat : Int))) = l := by
  unfold ls
  rw [strOfNums_data, List.map_map]
  induction l with
  | nil => rfl
  | cons c l ih => rw [List.map_cons, ih]; simp
theorem or_one_odd (m : Nat) : (m ||| 1) % 2 = 1 := by
  have := @Nat.or_mod_two_pow m 1 1
  rw [Nat.pow_one] at this
  rw [this]
  rcases Nat.mod_two_eq_zero_or_one m with h | h <;> rw [h] <;> rfl
theorem CrcBurst : carillonlaw02_CrcBurst.Pure := by
  intro x0 x1 x2 h0 h1 h2
  have hw := wf_i64 h1
  have hw2 := wf_u32 h2
  unfold carillonlaw02_CrcBurst.f
  have hb : (x0.extract 0 (min x0.size 4000)).size = min x0.size 4000 := by rw [ByteArray.size_extract]; omega
  generalize x0.extract 0 (min x0.size 4000) = b at *
  rw [frame_is, if_neg (by omega)]
  have hfs := frame_size b
  have hbr : 0 < x0.size → crc_Take.f (bursted (frame b) (min x0.size 4000) (burstAt (min x0.size 4000) x1) (x2.toNat ||| 1)) = some ((⟨#[]⟩ : ByteArray), 0, 4) := by
    intro hpos
    rw [← hb]
    have hn : 0 < b.size := by omega
    have hf : burstAt b.size x1 < 8 * b.size := by unfold burstAt; exact Nat.mod_lt _ (by omega)
    generalize burstAt b.size x1 = f at *
    have hy := or_one_odd x2.toNat
    generalize x2.toNat ||| 1 = y at *
    obtain ⟨q, hq, hsum, hfr⟩ := frameL_q b
    have hlen : (ls b).length = b.size := ls_len b
    obtain ⟨X, e1, e2, e3⟩ := burst_is (word4 b.size ++ word4 q) (ls b) (by rw [List.length_append, word4_len, word4_len]) b.size f y hlen (min 32 (8 * b.size - f)) (by omega)
    have hls : ls (bursted (frame b) b.size f y) = word4 b.size ++ (word4 q ++ X) := by
      unfold bursted
      rw [strOf_ls, ← List.append_assoc, ← e1, List.append_assoc, ← hfr, ← frame_ls]
      rfl
    have hsz : (bursted (frame b) b.size f y).size = b.size + 8 := by
      rw [← ls_len, hls, List.length_append, List.length_append, word4_len, word4_len, e2]
      omega
    rw [take_is _ (by omega)]
    refine congrArg some (take_broken b.size q (ls b) hlen (by omega) _ _ hls (by rw [List.length_append, word4_len, e2]; omega) ?_)
    rw [drop4, num4_word q hq, ← hsum]
    obtain ⟨j, hj⟩ : ∃ j, min 32 (8 * b.size - f) = j + 1 := ⟨min 32 (8 * b.size - f) - 1, by omega⟩
    have hv1 := vOf_odd y hy j
    have hv2 := vOf_lt y (j + 1)
    have hp : 2 ^ (j + 1) ≤ 2 ^ 32 := Nat.pow_le_pow_right (by omega) (by omega)
    rw [hj] at e3
    refine sum_turned _ (ls b) X f (vOf y (j + 1)) (by rw [e2, hlen]) e3 (by omega) (by omega) (Nat.lt_of_lt_of_le hv2 hp)
  show (if (0 : Int) = 0 ∧ (frame b).size = min x0.size 4000 + 8 ∧ x0.size ≤ 9223372036854775807 ∧ -9223372036854775808 ≤ x1 ∧ x1 ≤ 9223372036854775807 ∧ 0 ≤ x2 ∧ x2 < 4294967296 ∧ (0 < x0.size → crc_Take.f (bursted (frame b) (min x0.size 4000) (burstAt (min x0.size 4000) x1) (x2.toNat ||| 1)) = some ((⟨#[]⟩ : ByteArray), 0, 4)) then some true else none) = some true
  rw [if_pos ⟨rfl, by omega, by omega, hw.1, hw.2, hw2.1, hw2.2, hbr⟩]
end Go.Proofs.YtkcooehlahifkaaDoor.P
