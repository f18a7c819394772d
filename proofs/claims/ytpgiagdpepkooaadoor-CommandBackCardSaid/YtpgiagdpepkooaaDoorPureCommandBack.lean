/- The law CommandBack, over plain functions. -/
import Derived.Test.YtpgiagdpepkooaaDoorKinds
import Derived.Test.YtpgiagdpepkooaaDoorPlainB
import Derived.Test.YtpgiagdpepkooaaDoorPx25
namespace Go.Proofs.YtpgiagdpepkooaaDoor.P
open Go.RowKit Go.Proofs.YtpgiagdpepkooaaDoorW.PrintWords
set_option linter.unusedVariables false
set_option linter.unusedSimpArgs false
set_option maxRecDepth 100000
def carillonlaw14_CommandBack.Pure : Prop := ∀ (x0 : S23) (x1 : ByteArray), wf23 x0 → (∀ n ∈ lens23 x0, n ≤ 140737488351232) → x1.size ≤ 140737488351232 → ∃ k, carillonlaw14_CommandBack.f k (x0.f0) (x0.f1) (x0.f2) (x0.f3) (x0.f4) (x0.f5) (x0.f6) (x0.f7) (x0.f8) x1 = some true
theorem sz23 {x : S23} (h : ∀ n ∈ lens23 x, n ≤ 140737488351232) : x.f4.size + x.f5.size ≤ 9223372036854775807 := by
  have h4 := h x.f4.size (by simp [lens23])
  have h5 := h x.f5.size (by simp [lens23])
  omega
theorem back2 (s : ByteArray) (hs : s.size ≤ 140737488351232) (k : Nat) (hk : 6100 ≤ k) : carillonlaw14_CommandBack.j2 (k + 1) s true = some true := by
  simp only [carillonlaw14_CommandBack.j2]
  rw [asked_is s hs k (by omega)]
  simp only [Option.bind_some, tupC]
  rcases asked_or s with ⟨c, h⟩ | ⟨e, he, h⟩
  · obtain ⟨⟨hr, hn⟩, rfl⟩ := asked_back h
    have ho := right_ok hr
    rw [h]
    dsimp only
    rw [if_pos rfl, req_is c (by have := ho.key; have := ho.value; omega) k (by omega)]
    simp only [Option.bind_some, if_true]
    rw [show reqV c = (frame (cText c), 0) from if_pos ⟨hr, hn⟩]
    simp
  · rw [h]
    dsimp only
    rw [if_neg he, if_pos trivial]
    simp [zC, toList_eq]
theorem back1 (s : ByteArray) (hs : s.size ≤ 140737488351232) (k : Nat) (hk : 6100 ≤ k) : carillonlaw14_CommandBack.j1 (k + 2) s true = some true := by
  simp only [carillonlaw14_CommandBack.j1]
  rw [cdec_is s (by omega) (k + 1) (by omega)]
  simp only [Option.bind_some, tupC]
  rcases cmdV_or s with ⟨c, h, hr⟩ | ⟨e, he, h⟩
  · have hb := (cmdV_back (by omega) h).2
    have ho := right_ok hr
    rw [h]
    dsimp only
    rw [if_pos rfl, cenc_is c (by have := ho.key; have := ho.value; omega) (k + 1) (by omega), if_pos hr]
    simp only [Option.bind_some]
    rw [if_pos (by rw [hb]), if_pos trivial]
    exact back2 s hs k hk
  · rw [h]
    dsimp only
    rw [if_neg he]
    exact back2 s hs k hk
theorem back0 (s : ByteArray) (hs : s.size ≤ 140737488351232) (c : CM) (hz : c.key.size + c.value.size ≤ 9223372036854775807) (k : Nat) (hk : 6100 ≤ k) : carillonlaw14_CommandBack.j0 (k + 3) s true c.kind c.topic c.name c.seq c.key c.value c.n c.node c.ask = some true := by
  simp only [carillonlaw14_CommandBack.j0]
  rw [req_is c hz (k + 2) (by omega)]
  simp only [Option.bind_some]
  unfold reqV
  by_cases h : rightB c = true ∧ c.node = 0
  · have hl := cText_le (right_ok h.1)
    have hf := frame_size (cText c)
    rw [if_pos h]
    dsimp only
    rw [if_pos rfl, asked_is _ (by omega) (k + 2) (by omega), asked_req h.1 h.2]
    simp only [Option.bind_some, tupC]
    rw [if_neg (by simp), if_pos trivial]
    exact back1 s hs k hk
  · rw [if_neg h]
    dsimp only
    rw [if_neg (by decide)]
    exact back1 s hs k hk
theorem back_all (s : ByteArray) (hs : s.size ≤ 140737488351232) (c : CM) (hz : c.key.size + c.value.size ≤ 9223372036854775807) (k : Nat) (hk : 6100 ≤ k) : carillonlaw14_CommandBack.f (k + 3) c.kind c.topic c.name c.seq c.key c.value c.n c.node c.ask s = some true := by
  unfold carillonlaw14_CommandBack.f
  rw [show carillonlaw14_examples.f = some true from rfl, cenc_is c hz (k + 3) (by omega), right_is14 c hz]
  simp only [Option.bind_some]
  cases h : rightB c
  · rw [if_neg (show ¬ (false = true) by decide)]
    dsimp only
    rw [if_neg (by decide), if_neg (by decide)]
    exact back0 s hs c hz k hk
  · have hl := cText_le (right_ok h)
    rw [if_pos (show true = true from rfl)]
    dsimp only
    rw [if_neg (by decide), if_pos rfl, cdec_is _ (by omega) (k + 3) (by omega), cmdV_enc h]
    simp only [Option.bind_some, tupC]
    rw [if_neg (by simp), if_pos trivial]
    exact back0 s hs c hz k hk
theorem CommandBack : carillonlaw14_CommandBack.Pure := by
  intro x0 x1 _ hn hs
  exact ⟨6103, back_all x1 hs ⟨x0.f0, x0.f1, x0.f2, x0.f3, x0.f4, x0.f5, x0.f6, x0.f7, x0.f8⟩ (sz23 hn) 6100 (Nat.le_refl _)⟩
end Go.Proofs.YtpgiagdpepkooaaDoor.P
