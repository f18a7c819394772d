/- The law ViewBytes, over plain functions. -/
import Derived.Test.YtbcpjegakjcmgaaDoorKinds
import Derived.Test.YtbcpjegakjcmgaaDoorPlainV
import Derived.Test.YtbcpjegakjcmgaaDoorPx13
namespace Go.Proofs.YtbcpjegakjcmgaaDoor.P
open Go.RowKit Go.Proofs.YtbcpjegakjcmgaaDoorW.PrintWords
set_option linter.unusedVariables false
set_option linter.unusedSimpArgs false
set_option maxRecDepth 100000
def carillonlaw12_ViewBytes.Pure : Prop := ∀ (x0 : S24) (x1 : ByteArray), wf24 x0 → (∀ n ∈ lens24 x0, n ≤ 140737488351232) → x1.size ≤ 140737488351232 → ∃ k, carillonlaw12_ViewBytes.f k (x0.f0) (x0.f1) x1 = some true
theorem encS_view {num : Int} {ms : List VM} (h : ViewP num ms = true) : ∃ e, encAll (mPlain ms) = .ok e ∧ encS (vItems num ms) = (strOfNums (beI num 8 ++ e), 0) ∧ (strOfNums (beI num 8 ++ e)).size ≤ 1000000000 := by
  obtain ⟨e, he, hv⟩ := vItems_enc h
  obtain ⟨_, _, _, _, hl⟩ := viewP_parts h
  have hlen : (vItems num ms).length ≤ 15 := by
    unfold vItems
    rw [List.length_cons, mItems_len]
    omega
  have hz := encAll_len _ _ hv
  have hsz := son_size (beI num 8 ++ e)
  exact ⟨e, he, encS_of hv (by omega), by rw [hsz]; omega⟩
theorem bytes_all (num : Int) (ms : List VM) (s : ByteArray) (hms : ms.length ≤ 4611686018427387904) (hs : s.size ≤ 140737488351232) (k : Nat) (hk : ms.length + 1048600 < k) :
    carillonlaw12_ViewBytes.f k num ms s = some true := by
  unfold carillonlaw12_ViewBytes.f
  obtain ⟨r, h1, h2, h3⟩ := vdec_same s hs k (by omega)
  rw [show carillonlaw12_examples.f = some true from rfl, venc_is num ms hms k (by omega), rvenc_is num ms hms k (by omega), h1, h2]
  simp only [Option.bind_some]
  rw [viewsL_is _ _ (by omega) k (by omega)]
  simp only [Option.bind_some, if_true]
  by_cases h : ViewP num ms = true
  · obtain ⟨e, he, hv, _⟩ := encS_view h
    rw [if_pos h, if_pos h, hv]
    simp
  · rw [if_neg h, if_neg h]
    simp
theorem ViewBytes : carillonlaw12_ViewBytes.Pure := by
  intro x0 x1 _ hn0 hn1
  have h0 := hn0 _ (List.mem_cons_self ..)
  exact ⟨x0.f1.length + 1048601, bytes_all _ _ _ (by omega) (by simpa using hn1) _ (by omega)⟩
end Go.Proofs.YtbcpjegakjcmgaaDoor.P
