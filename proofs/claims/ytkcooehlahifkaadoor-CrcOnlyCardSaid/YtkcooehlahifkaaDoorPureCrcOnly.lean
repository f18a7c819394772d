/- Two bodies have one frame just if they are one; a frame has eight bytes more than its body: the plain statement. -/
import Derived.Test.YtkcooehlahifkaaDoorKinds
import Derived.Test.YtkcooehlahifkaaDoorPx5
import Derived.Test.YtkcooehlahifkaaDoorPlainE
namespace Go.Proofs.YtkcooehlahifkaaDoor.P
open Go.RowKit Go.Proofs.YtkcooehlahifkaaDoorW.PrintWords
set_option linter.unusedVariables false
def carillonlaw02_CrcOnly.Pure : Prop := ∀ (x0 : ByteArray) (x1 : ByteArray), x0.size ≤ 140737488351232 → x1.size ≤ 140737488351232 → carillonlaw02_CrcOnly.f x0 x1 = some true
theorem frame_inj {a b : ByteArray} (ha : a.size ≤ 400000) (hb : b.size ≤ 400000) (h : frame a = frame b) : a = b := by
  have h1 := take_frame a ha (frame a) [] (by rw [List.append_nil, frame_ls])
  have h2 := take_frame b hb (frame b) [] (by rw [List.append_nil, frame_ls])
  rw [h] at h1
  exact (Prod.mk.inj (h1.symm.trans h2)).1
theorem toList_inj' {a b : ByteArray} (h : a.toList = b.toList) : a = b := by
  rw [ByteArray.toList_eq, ByteArray.toList_eq] at h
  exact ls_inj h
theorem CrcOnly : carillonlaw02_CrcOnly.Pure := by
  intro x0 x1 h0 h1
  unfold carillonlaw02_CrcOnly.f carillonlaw02_examples.f
  rw [frame_is, frame_is, Option.bind_some, Option.bind_some, Option.bind_some]
  by_cases a : (x0.size : Int) > 400000
  · rw [if_pos a]
    by_cases b : (x1.size : Int) > 400000
    · rw [if_pos b]
      simp [a]
    · rw [if_neg b]
      simp [a]
  · rw [if_neg a]
    by_cases b : (x1.size : Int) > 400000
    · rw [if_pos b]
      simp only [if_true]
      rw [if_neg (by decide), if_neg a, decide_eq_true b]
    · rw [if_neg b]
      have hz : ((frame x0).size : Int) = wrap64 ((x0.size : Int) + 8) := by rw [frame_size]; unfold wrap64; omega
      have hx : ((frame x0).toList == (frame x1).toList) = (x0.toList == x1.toList) := by
        rw [Bool.eq_iff_iff, beq_iff_eq, beq_iff_eq]
        exact ⟨fun h => congrArg ByteArray.toList (frame_inj (by omega) (by omega) (toList_inj' h)), fun h => by rw [toList_inj' h]⟩
      show (if (0 : Int) = 0 then _ else _) = _
      rw [if_pos rfl, if_pos rfl, if_pos rfl, hx, hz]
      simp
end Go.Proofs.YtkcooehlahifkaaDoor.P
