/- All frames of any bytes are told, as far as they are frames; what comes is its owner's: the plain statement. -/
import Derived.Test.YtkcooehlahifkaaDoorKinds
import Derived.Test.YtkcooehlahifkaaDoorPlainD
namespace Go.Proofs.YtkcooehlahifkaaDoor.P
open Go.RowKit Go.Proofs.YtkcooehlahifkaaDoorW.PrintWords
set_option linter.unusedVariables false
def carillonlaw02_CrcTakes.PureUpto : Prop := ∀ (x0 : ByteArray), x0.size ≤ 140737488351232 → (fun s : ByteArray => s.size + 1) x0 ≤ 1048576 → ∃ k, carillonlaw02_CrcTakes.f k x0 = some true
theorem takes_set (x0 : ByteArray) (x3 : Bool) (x4 : List ByteArray) (x5 x6 x7 : Int) (d : Nat) : ∀ (i k : Nat) (x8 : List ByteArray), i + d = x8.length → x8.length ≤ 1048576 →
    carillonlaw02_CrcTakes.l1 (k + d + 1) x0 x3 x4 x5 x6 x7 x8 (i : Int) = carillonlaw02_CrcTakes.l0 k x0 x3 x4 x5 x6 (wrap64 (x7 + 1)) := by
  induction d with
  | zero =>
    intro i k x8 hi hl
    rw [carillonlaw02_CrcTakes.l1, if_neg (by omega)]
  | succ d ih =>
    intro i k x8 hi hl
    have hw : wrap64 ((i : Int) + 1) = ((i + 1 : Nat) : Int) := by unfold wrap64; omega
    rw [show k + (d + 1) + 1 = (k + d + 1) + 1 by omega, carillonlaw02_CrcTakes.l1, if_pos (by omega), if_pos (by omega), hw]
    exact ih (i + 1) k _ (by rw [List.length_set]; omega) (by rw [List.length_set]; omega)
theorem CrcTakes : carillonlaw02_CrcTakes.PureUpto := by
  intro x0 h0 h1
  have hb : x0.size + 1 ≤ 1048576 := h1
  obtain ⟨r, r1, r2, r3⟩ := all_eq x0 (by omega) x0.size 0 (4000100 + 1048576) [] (by omega) (by omega) (by simp; omega)
  simp only [List.length_nil, Nat.zero_add] at r3
  have up : ∀ k, crc_All.f (4000100 + 1048576 + k) x0 = some r := by
    intro k
    induction k with
    | zero => exact r1
    | succ k ih => exact crc_All.mono x0 _ r ih
  have up2 : ∀ k, carillonref02_All.f (4000100 + 1048576 + k) x0 = some r := by
    intro k
    induction k with
    | zero => exact r2
    | succ k ih => exact carillonref02_All.mono x0 _ r ih
  refine ⟨4000100 + 1048576 + ((1 + r.1.length + 1) + (r.1.length + 1) + 1), ?_⟩
  unfold carillonlaw02_CrcTakes.f carillonlaw02_examples.f
  rw [up2, Option.bind_some, Option.bind_some]
  have round : ∀ (x7 : Int) (k : Nat), x7 < 2 → carillonlaw02_CrcTakes.l0 (4000100 + 1048576 + k + r.1.length + 1 + 1) x0 true r.1 r.2.1 r.2.2 x7 = carillonlaw02_CrcTakes.l0 (4000100 + 1048576 + k) x0 true r.1 r.2.1 r.2.2 (wrap64 (x7 + 1)) := by
    intro x7 k hx
    rw [carillonlaw02_CrcTakes.l0, if_pos hx]
    rw [show 4000100 + 1048576 + k + r.1.length + 1 = 4000100 + 1048576 + (k + r.1.length + 1) by omega, up, Option.bind_some, texts_refl _ (by omega) _ (by omega), Option.bind_some, if_pos rfl, if_pos rfl, if_pos rfl]
    rw [show 4000100 + 1048576 + (k + r.1.length + 1) = (4000100 + 1048576 + k) + r.1.length + 1 by omega]
    exact takes_set x0 true r.1 r.2.1 r.2.2 x7 r.1.length 0 (4000100 + 1048576 + k) r.1 (by omega) (by omega)
  rw [show 4000100 + 1048576 + ((1 + r.1.length + 1) + (r.1.length + 1) + 1) = 4000100 + 1048576 + (1 + r.1.length + 1) + r.1.length + 1 + 1 by omega]
  rw [round 0 _ (by decide), show wrap64 ((0 : Int) + 1) = 1 from by unfold wrap64; omega]
  rw [show 4000100 + 1048576 + (1 + r.1.length + 1) = 4000100 + 1048576 + 0 + r.1.length + 1 + 1 by omega, round 1 _ (by decide), show wrap64 ((1 : Int) + 1) = 2 from by unfold wrap64; omega]
  rw [show 4000100 + 1048576 + 0 = 4000100 + 1048575 + 1 by omega, carillonlaw02_CrcTakes.l0, if_neg (by decide)]
end Go.Proofs.YtkcooehlahifkaaDoor.P
