/- The program's Common and Prefix, told plainly. -/
import Derived.Test.YtokebimfflobbaaDoorPx2
import Derived.Test.YtokebimfflobbaaDoorPlainA
namespace Go.Proofs.YtokebimfflobbaaDoor.P
open Go.RowKit Go.Proofs.YtokebimfflobbaaDoorW.PrintWords Go.Proofs.YtokebimfflobbaaDoorW.PrintLast Go.Proofs.YtokebimfflobbaaDoorW.PrintMore
set_option linter.unusedSimpArgs false
set_option linter.unusedVariables false
set_option maxRecDepth 100000
theorem wr_id {n : Int} (h0 : -9223372036854775808 ≤ n) (h1 : n < 9223372036854775808) : wrap64 n = n := by unfold wrap64; omega
theorem mn_nat (a b : Nat) : mn (a : Int) (b : Int) = ((min a b : Nat) : Int) := by unfold mn; split <;> omega
theorem rdS (l : List ByteArray) (i : Nat) : rdOf ByteArray.empty l (i : Int) = l.getD i ByteArray.empty := rfl
theorem drop_rd (l : List ByteArray) (i : Nat) (h : i < l.length) : l.drop i = l.getD i ByteArray.empty :: l.drop (i + 1) := by
  rw [List.drop_eq_getElem_cons h]
  simp [List.getD_eq_getElem?_getD, List.getElem?_eq_getElem h]
theorem common_loop (a b : List ByteArray) (ha : a.length ≤ 4611686018427387904) (d : Nat) : ∀ i k : Nat, i + d = min a.length b.length → d < k →
    flush_Common.l0 k a b ((min a.length b.length : Nat) : Int) ((min a.length b.length : Nat) : Int) (i : Int) = some (((i + cmn (a.drop i) (b.drop i) : Nat)) : Int) := by
  induction d with
  | zero =>
    intro i k hi hk
    obtain ⟨k, rfl⟩ : ∃ m, k = m + 1 := ⟨k - 1, by omega⟩
    simp only [flush_Common.l0]
    rw [if_neg (by omega)]
    have : cmn (a.drop i) (b.drop i) = 0 := by
      have := cmn_le (a.drop i) (b.drop i)
      rw [List.length_drop, List.length_drop] at this
      omega
    rw [this]
    congr 1
    omega
  | succ d ih =>
    intro i k hi hk
    obtain ⟨k, rfl⟩ : ∃ m, k = m + 1 := ⟨k - 1, by omega⟩
    have ew : wrap64 ((i : Int) + 1) = ((i + 1 : Nat) : Int) := by rw [wr_id] <;> omega
    simp only [flush_Common.l0]
    rw [if_pos (by omega), if_pos (by omega), if_pos (by omega), if_pos (by omega), rdS, rdS, ew, drop_rd a i (by omega), drop_rd b i (by omega)]
    simp only [cmn]
    by_cases g : (a.getD i ByteArray.empty).toList = (b.getD i ByteArray.empty).toList
    · rw [if_pos g, if_pos g, ih (i + 1) k (by omega) (by omega)]
      congr 1
      omega
    · rw [if_neg g, if_neg g]
      rfl
theorem common_is (a b : List ByteArray) (ha : a.length ≤ 4611686018427387904) (k : Nat) (hk : a.length < k) : flush_Common.f k a b = some (cmn a b : Int) := by
  unfold flush_Common.f
  rw [mn_nat, show (0 : Int) = ((0 : Nat) : Int) from rfl, common_loop a b ha (min a.length b.length) 0 k (by omega) (by omega)]
  simp
theorem prefix_is (a b : List ByteArray) (ha : a.length ≤ 4611686018427387904) (k : Nat) (hk : a.length < k) : flush_Prefix.f k a b = some (decide (cmn a b = a.length)) := by
  unfold flush_Prefix.f
  rw [common_is a b ha k hk]
  simp only [Option.bind_some]
  congr 1
  by_cases h : cmn a b = a.length
  · rw [h]; simp
  · have h' : ¬ (cmn a b : Int) = (a.length : Int) := by omega
    simp [h, h']
end Go.Proofs.YtokebimfflobbaaDoor.P
