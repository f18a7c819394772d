/- The law LinkBack, over plain functions. -/
import Derived.Test.YtdpogggajdfedaaDoorKinds
import Derived.Test.YtdpogggajdfedaaDoorPlainC
import Derived.Test.YtdpogggajdfedaaDoorPx12
namespace Go.Proofs.YtdpogggajdfedaaDoor.P
open Go.RowKit Go.Proofs.YtdpogggajdfedaaDoorW.PrintWords
set_option linter.unusedVariables false
set_option linter.unusedSimpArgs false
set_option maxRecDepth 100000
def carillonlaw09_LinkBack.Pure : Prop := ∀ (x0 : S23) (x1 : ByteArray), wf23 x0 → (∀ n ∈ lens23 x0, n ≤ 140737488351232) → x1.size ≤ 140737488351232 → ∃ k, carillonlaw09_LinkBack.f k (x0.f0) (x0.f1) (x0.f2) (x0.f3) (x0.f4) x1 = some true
theorem lo_wf {x : Int} (h : (Lit.int .i64 x).wf = true) : -9223372036854775808 ≤ x := by
  unfold Lit.wf at h
  simp only [Bool.and_eq_true, decide_eq_true_eq] at h
  have e1 : IntKind.i64.min = -9223372036854775808 := by decide
  rw [e1] at h
  exact h.1
theorem ex_f : carillonlaw09_examples.f = some true := rfl
theorem LinkBack : carillonlaw09_LinkBack.Pure := by
  intro x0 x1 h0 _ hs
  obtain ⟨K, hK⟩ : ∃ K, 4000200 ≤ K := ⟨_, Nat.le_refl _⟩
  refine ⟨K, ?_⟩
  unfold carillonlaw09_LinkBack.f
  rw [lenc_is x0 (lo_wf h0.1) K (by omega), ldec_is x1 (by omega) K (by omega), ex_f]
  simp only [Option.bind_some]
  have tail : (if (lnkV x1).2 = 0 then ((link_Encode.f K (lnkV x1).1.f0 (lnkV x1).1.f1 (lnkV x1).1.f2 (lnkV x1).1.f3 (lnkV x1).1.f4).bind fun bt324 => (if true = true then (if bt324.2 = 0 then (some (bt324.1.toList == x1.toList)) else (some false)) else (some false))) else (if true = true then (some ((lnkV x1).1.f0 == 0 && ((lnkV x1).1.f1 == 0 && ((lnkV x1).1.f2 == 0 && ((lnkV x1).1.f3 == 0 && ((lnkV x1).1.f4.toList == ([] : List UInt8))))))) else (some false))) = some true := by
    rcases lnkV_or x1 with ⟨r, hr, hR⟩ | ⟨e, he, hr⟩
    · obtain ⟨_, hb⟩ := lnkV_back (by omega) hr
      rw [hr]
      dsimp only
      rw [if_pos rfl, lenc_is r (by have := rightF_all hR; omega) K (by omega), if_pos hR]
      simp only [Option.bind_some]
      rw [hb]
      simp
    · rw [hr]
      dsimp only
      rw [if_neg he]
      unfold zF
      dsimp only
      rw [show (⟨#[]⟩ : ByteArray).toList = [] from by rw [Lib.toList_data]]
      rfl
  by_cases h : RightF x0
  · rw [if_pos h]
    dsimp only
    have hle := frmB_le h
    rw [ldec_is (frame (frmB x0)) (by rw [frame_size]; omega) K (by omega), lnkV_enc h]
    simp only [Option.bind_some]
    rw [if_pos trivial, if_neg (by simp)]
    first | rw [if_pos trivial] | rw [if_pos rfl]
    exact tail
  · rw [if_neg h]
    dsimp only
    rw [if_neg (by decide)]
    exact tail
end Go.Proofs.YtdpogggajdfedaaDoor.P
