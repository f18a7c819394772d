/- The law ViewBack, over plain functions. -/
import Derived.Test.YtbcpjegakjcmgaaDoorKinds
import Derived.Test.YtbcpjegakjcmgaaDoorPlainV
import Derived.Test.YtbcpjegakjcmgaaDoorPx14
namespace Go.Proofs.YtbcpjegakjcmgaaDoor.P
open Go.RowKit Go.Proofs.YtbcpjegakjcmgaaDoorW.PrintWords
set_option linter.unusedVariables false
set_option linter.unusedSimpArgs false
set_option maxRecDepth 100000
def carillonlaw12_ViewBack.Pure : Prop := ∀ (x0 : S24) (x1 : ByteArray), wf24 x0 → (∀ n ∈ lens24 x0, n ≤ 140737488351232) → x1.size ≤ 140737488351232 → ∃ k, carillonlaw12_ViewBack.f k (x0.f0) (x0.f1) x1 = some true
theorem encS_view {num : Int} {ms : List VM} (h : ViewP num ms = true) : ∃ e, encAll (mPlain ms) = .ok e ∧ encS (vItems num ms) = (strOfNums (beI num 8 ++ e), 0) ∧ (strOfNums (beI num 8 ++ e)).size ≤ 1000000000 := by
  obtain ⟨e, he, hv⟩ := vItems_enc h
  obtain ⟨_, _, _, _, hl⟩ := viewP_parts h
  have hlen : (vItems num ms).length ≤ 15 := by
    unfold vItems
    rw [List.length_cons, mItems_len]
    omega
  have hz := encAll_len _ _ hv
  have hsz := son_size (beI num 8 ++ e)
  exact ⟨e, he, encS_of hv (by omega), by rw [hsz]; omega⟩
theorem back_tail (s : ByteArray) (hs : s.size ≤ 140737488351232) (k : Nat) (hk : 8000 ≤ k) : ((view_Decode.f k s).bind fun bt374 => (if bt374.2.2 = 0 then ((view_Encode.f k bt374.1 bt374.2.1).bind fun bt380 => (if true = true then (if bt380.2 = 0 then (some (bt380.1.toList == s.toList)) else (some false)) else (some false))) else (if true = true then (if bt374.1 = 0 then (some ((bt374.2.1.length : Int) == 0)) else (some false)) else (some false)))) = some true := by
  rcases vback s (by omega) k hk with ⟨num, ms, e, h1, h2, h3, h4⟩ | ⟨e, h1, h2⟩
  · obtain ⟨_, _, _, _, hl⟩ := viewP_parts h2
    have hlen : (vItems num ms).length ≤ 15 := by
      unfold vItems
      rw [List.length_cons, mItems_len]
      omega
    rw [h1]
    simp only [Option.bind_some, if_true]
    rw [venc_is num ms (by omega) k (by omega), if_pos h2, encS_of h3 (by omega)]
    simp [h4]
  · rw [h2]
    simp only [Option.bind_some, if_true]
    rw [if_neg h1]
    simp
theorem back_all (num : Int) (ms : List VM) (s : ByteArray) (hms : ms.length ≤ 4611686018427387904) (hs : s.size ≤ 140737488351232) (k : Nat) (hk : ms.length + 10000 < k) :
    carillonlaw12_ViewBack.f k num ms s = some true := by
  unfold carillonlaw12_ViewBack.f
  rw [show carillonlaw12_examples.f = some true from rfl, venc_is num ms hms k (by omega)]
  simp only [Option.bind_some]
  by_cases h : ViewP num ms = true
  · obtain ⟨e, he, hv, hz⟩ := encS_view h
    obtain ⟨_, _, _, _, hl⟩ := viewP_parts h
    rw [if_pos h, hv]
    dsimp only
    rw [if_pos rfl, vdec_enc h he (by omega) k (by omega)]
    simp only [Option.bind_some]
    rw [viewsL_is _ _ (by omega) k (by omega)]
    simp only [Option.bind_some]
    rw [if_pos trivial, if_pos trivial]
    exact back_tail s hs k (by omega)
  · rw [if_neg h]
    dsimp only
    rw [if_neg (by decide)]
    exact back_tail s hs k (by omega)
theorem ViewBack : carillonlaw12_ViewBack.Pure := by
  intro x0 x1 _ hn0 hn1
  have h0 := hn0 _ (List.mem_cons_self ..)
  exact ⟨x0.f1.length + 10001, back_all _ _ _ (by omega) (by simpa using hn1) _ (by omega)⟩
end Go.Proofs.YtbcpjegakjcmgaaDoor.P
