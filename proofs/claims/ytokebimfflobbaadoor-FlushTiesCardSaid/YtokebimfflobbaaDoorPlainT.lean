/- The law FlushTies, over plain lists. -/
import Derived.Test.YtokebimfflobbaaDoorPx11
import Derived.Test.YtokebimfflobbaaDoorPlainB
namespace Go.Proofs.YtokebimfflobbaaDoor.P
open Go.RowKit Go.Proofs.YtokebimfflobbaaDoorW.PrintWords Go.Proofs.YtokebimfflobbaaDoorW.PrintLast Go.Proofs.YtokebimfflobbaaDoorW.PrintMore
set_option linter.unusedSimpArgs false
set_option linter.unusedVariables false
set_option maxRecDepth 100000
theorem pfx_end (a b : List ByteArray) (ha : a.length ≤ 4611686018427387904) (k : Nat) (hk : a.length < k) : flush_Prefix.f k (a.take ((cmn a b : Int)).toNat) b = some true := by
  have h := cmn_le a b
  have hl : (a.take ((cmn a b : Int)).toNat).length = cmn a b := by
    rw [show ((cmn a b : Int)).toNat = cmn a b from rfl, List.length_take]; omega
  rw [prefix_is _ b (by omega) k (by omega), hl, show ((cmn a b : Int)).toNat = cmn a b from rfl, cmn_take a b _ (Nat.le_refl _)]
  simp
theorem ties_loop (a b : List ByteArray) (ha : a.length ≤ 4611686018427387904) (d : Nat) : ∀ i k : Nat, i + d = cmn a b → a.length + d + 1 < k → carillonlaw19_FlushTies.l0 k a b true (cmn a b : Int) (i : Int) = some true := by
  have hc := cmn_le a b
  induction d with
  | zero =>
    intro i k hi hk
    obtain ⟨k, rfl⟩ : ∃ m, k = m + 1 := ⟨k - 1, by omega⟩
    have hp := pfx_end a b ha k (by omega)
    simp only [carillonlaw19_FlushTies.l0]
    rw [if_neg (by omega)]
    simp only [if_true, hp, Option.bind_some]
    by_cases h1 : (cmn a b : Int) = (a.length : Int)
    · rw [if_pos h1, if_pos (by omega), if_pos (by omega)]
    · rw [if_neg h1]
      by_cases h2 : (cmn a b : Int) = (b.length : Int)
      · rw [if_pos h2, if_pos (by omega), if_pos (by omega)]
      · rw [if_neg h2, if_pos (by omega), if_pos (by omega), if_pos (by omega), rdS, rdS, if_neg (cmn_at ByteArray.empty a b (by omega) (by omega)), if_pos (by omega)]
  | succ d ih =>
    intro i k hi hk
    obtain ⟨k, rfl⟩ : ∃ m, k = m + 1 := ⟨k - 1, by omega⟩
    have ew : wrap64 ((i : Int) + 1) = ((i + 1 : Nat) : Int) := by rw [wr_id] <;> omega
    simp only [carillonlaw19_FlushTies.l0]
    rw [if_pos (by omega), if_pos (by omega), if_pos (by omega), if_pos (by omega), rdS, rdS, if_pos (cmn_lt ByteArray.empty a b i (by omega)), ew]
    exact ih (i + 1) k (by omega) (by omega)
theorem ties_all (a b : List ByteArray) (ha : a.length ≤ 4611686018427387904) (hb : b.length ≤ 4611686018427387904) (k : Nat) (hk : 2 * a.length + b.length + 2 < k) : carillonlaw19_FlushTies.f k a b = some true := by
  have hc := cmn_le a b
  unfold carillonlaw19_FlushTies.f
  rw [show carillonlaw19_examples.f = some true from rfl, common_is a b ha k (by omega), common_is b a hb k (by omega), prefix_is a b ha k (by omega)]
  simp only [Option.bind_some]
  rw [cmn_comm b a, if_pos rfl, mn_nat, if_neg (by omega)]
  have e : (decide (cmn a b = a.length) != ((cmn a b : Int) == (a.length : Int))) = false := by
    by_cases h : cmn a b = a.length
    · simp [h]
    · have h' : ¬ (cmn a b : Int) = (a.length : Int) := by omega
      simp [h, h']
  rw [e, if_neg (by decide)]
  exact ties_loop a b ha (cmn a b) 0 k (by omega) (by omega)
end Go.Proofs.YtokebimfflobbaaDoor.P
