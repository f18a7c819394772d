/- The law CodecReads, over plain functions. -/
import Derived.Test.YthkncdnpfoccjaaDoorPx6
import Derived.Test.YthkncdnpfoccjaaDoorPx7
import Derived.Test.YthkncdnpfoccjaaDoorPlainC
namespace Go.Proofs.YthkncdnpfoccjaaDoor.P
open Go.RowKit Go.Proofs.YthkncdnpfoccjaaDoorW.PrintWords Go.Proofs.YthkncdnpfoccjaaDoorW.PrintLast Go.Proofs.YthkncdnpfoccjaaDoorW.PrintMore
set_option linter.unusedSimpArgs false
set_option linter.unusedVariables false
set_option maxRecDepth 100000
theorem decS_len (b : List Int) (n : Nat) : ∀ (cur : List Int) (out : List S32) (s : ByteArray), out.length + n = 1000 → (decS b n cur out s).1.length ≤ 1000 := by
  induction n with
  | zero =>
    intro cur out s h
    cases cur with
    | nil =>
      cases b with
      | nil => simp only [decS, nextK]; split <;> simp; omega
      | cons x xs => simp only [decS, nextK]; by_cases g : s.toList = ([] : List UInt8) <;> simp [g]; omega
    | cons x xs => simp [decS, nextK]
  | succ n ih =>
    intro cur out s h
    have arm : ∀ (k : Int) (ks : List Int), (match takeS k s with
        | Except.error e => (([] : List S32), e)
        | Except.ok (x, s') => decS b n ks (out ++ [x]) s').1.length ≤ 1000 := by
      intro k ks
      cases takeS k s with
      | error e => simp
      | ok p => exact ih ks _ _ (by simp; omega)
    cases cur with
    | nil =>
      cases b with
      | nil => simp only [decS, nextK]; split <;> simp; omega
      | cons x xs =>
        simp only [decS, nextK]
        by_cases g : s.toList = ([] : List UInt8)
        · simp [g]; omega
        · rw [if_neg g]; exact arm x xs
    | cons x xs => exact arm x xs
theorem decodeS_len (L : List UInt8) (s : ByteArray) : (decodeS L s).1.length ≤ 1000 := by
  unfold decodeS
  split
  · simp
  · exact decS_len _ 1000 _ _ _ (by simp)
theorem same_self (l : List S32) (hl : l.length ≤ 1048576) (d : Nat) : ∀ (i k : Nat), i + d = l.length → d < k → carillonlaw01_same.l0 k l l (i : Int) = some true := by
  induction d with
  | zero =>
    intro i k hi hk
    obtain ⟨k, rfl⟩ : ∃ m, k = m + 1 := ⟨k - 1, by omega⟩
    simp only [carillonlaw01_same.l0]
    rw [if_neg (by omega)]
  | succ d ih =>
    intro i k hi hk
    obtain ⟨k, rfl⟩ : ∃ m, k = m + 1 := ⟨k - 1, by omega⟩
    have ew : wrap64 ((i : Int) + 1) = ((i + 1 : Nat) : Int) := by rw [wrap64_id] <;> omega
    simp only [carillonlaw01_same.l0]
    rw [if_pos (by omega), if_pos (by omega), if_pos (by omega), if_neg (by simp), ew]
    exact ih (i + 1) k (by omega) (by omega)
theorem same_is (l : List S32) (hl : l.length ≤ 1048576) (k : Nat) (hk : l.length < k) : carillonlaw01_same.f k l l = some true := by
  unfold carillonlaw01_same.f
  rw [if_pos rfl]
  exact same_self l hl l.length 0 k (by omega) hk
theorem reads_clear (a0 a1 : ByteArray) (t : Bool) (want : List S32) (f x8 : Int) (d : Nat) : ∀ (k i : Nat) (y : List S32), y.length ≤ 1000 → i + d = y.length →
    carillonlaw01_CodecReads.l1 (k + d + 1) a0 a1 t want f x8 y (i : Int) = carillonlaw01_CodecReads.l0 k a0 a1 t want f (wrap64 (x8 + 1)) := by
  induction d with
  | zero =>
    intro k i y hy hi
    simp only [carillonlaw01_CodecReads.l1]
    rw [if_neg (by omega)]
  | succ d ih =>
    intro k i y hy hi
    have ew : wrap64 ((i : Int) + 1) = ((i + 1 : Nat) : Int) := by rw [wrap64_id] <;> omega
    rw [show k + (d + 1) + 1 = (k + d + 1) + 1 by omega]
    simp only [carillonlaw01_CodecReads.l1]
    rw [if_pos (by omega), if_pos (by omega), ew]
    exact ih k (i + 1) _ (by simpa using hy) (by simp; omega)
theorem reads_turn (a0 a1 : ByteArray) (hz : a0.size ≤ 1048576) (hs : a1.size ≤ 1048576) (x8 : Int) (h8 : x8 < 2) (k : Nat) (hk : 2000000 ≤ k) :
    ∃ k', k ≤ k' + 1010 ∧ carillonlaw01_CodecReads.l0 (k + 1) a0 a1 true (decodeS a0.data.toList a1).1 (decodeS a0.data.toList a1).2 x8 = carillonlaw01_CodecReads.l0 k' a0 a1 true (decodeS a0.data.toList a1).1 (decodeS a0.data.toList a1).2 (wrap64 (x8 + 1)) := by
  have hl := decodeS_len a0.data.toList a1
  refine ⟨k - (decodeS a0.data.toList a1).1.length - 1, by omega, ?_⟩
  simp only [carillonlaw01_CodecReads.l0]
  rw [if_pos h8, decode_is a0 a1 (by omega) (by omega) k (by omega)]
  simp only [Option.bind_some]
  rw [same_is _ (by omega) k (by omega)]
  simp only [Option.bind_some, if_true]
  have := reads_clear a0 a1 true (decodeS a0.data.toList a1).1 (decodeS a0.data.toList a1).2 x8 (decodeS a0.data.toList a1).1.length (k - (decodeS a0.data.toList a1).1.length - 1) 0 (decodeS a0.data.toList a1).1 hl (by omega)
  rw [show k - (decodeS a0.data.toList a1).1.length - 1 + (decodeS a0.data.toList a1).1.length + 1 = k by omega] at this
  exact this
theorem reads_all (a0 a1 : ByteArray) (hz : a0.size ≤ 1048576) (hs : a1.size ≤ 1048576) : carillonlaw01_CodecReads.f 3000001 a0 a1 = some true := by
  unfold carillonlaw01_CodecReads.f
  rw [rdecode_is a0 a1 hz (by omega) 3000001 (by omega), show carillonlaw01_examples.f = some true from rfl]
  simp only [Option.bind_some]
  obtain ⟨k1, h1, e1⟩ := reads_turn a0 a1 hz hs 0 (by decide) 3000000 (by omega)
  rw [e1, show wrap64 (0 + 1) = 1 by rw [wrap64_id] <;> omega]
  obtain ⟨k1, rfl⟩ : ∃ m, k1 = m + 1 := ⟨k1 - 1, by omega⟩
  obtain ⟨k2, h2, e2⟩ := reads_turn a0 a1 hz hs 1 (by decide) k1 (by omega)
  rw [e2, show wrap64 (1 + 1) = 2 by rw [wrap64_id] <;> omega]
  obtain ⟨k2, rfl⟩ : ∃ m, k2 = m + 1 := ⟨k2 - 1, by omega⟩
  simp only [carillonlaw01_CodecReads.l0]
  rw [if_neg (by decide)]
end Go.Proofs.YthkncdnpfoccjaaDoor.P
