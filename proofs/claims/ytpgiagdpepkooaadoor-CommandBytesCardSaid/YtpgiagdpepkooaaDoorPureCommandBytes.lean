/- The law CommandBytes, over plain functions. -/
import Derived.Test.YtpgiagdpepkooaaDoorKinds
import Derived.Test.YtpgiagdpepkooaaDoorPlainCommandBytes
import Derived.Test.YtpgiagdpepkooaaDoorPx19
namespace Go.Proofs.YtpgiagdpepkooaaDoor.P
open Go.RowKit Go.Proofs.YtpgiagdpepkooaaDoorW.PrintWords
set_option linter.unusedVariables false
set_option linter.unusedSimpArgs false
set_option maxRecDepth 100000
def carillonlaw14_CommandBytes.Pure : Prop := ∀ (x0 : S23) (x1 : ByteArray), wf23 x0 → (∀ n ∈ lens23 x0, n ≤ 140737488351232) → x1.size ≤ 140737488351232 → ∃ k, carillonlaw14_CommandBytes.f k (x0.f0) (x0.f1) (x0.f2) (x0.f3) (x0.f4) (x0.f5) (x0.f6) (x0.f7) (x0.f8) x1 = some true
theorem bytes_all (c : CM) (h1 : c.topic.size ≤ 140737488351232) (h2 : c.name.size ≤ 140737488351232) (hz : c.key.size + c.value.size ≤ 9223372036854775807) (s : ByteArray) (hs : s.size ≤ 140737488351232) (k : Nat) (hk : c.topic.size + c.name.size + s.size + 1348600 ≤ k) :
    carillonlaw14_CommandBytes.f k c.kind c.topic c.name c.seq c.key c.value c.n c.node c.ask s = some true := by
  unfold carillonlaw14_CommandBytes.f
  rw [show carillonlaw14_examples.f = some true from rfl, cenc_is c hz k (by omega), renc14_is c h1 h2 k (by omega), cdec_is s (by omega) k (by omega), rdec14_is s hs k (by omega), right_is14 c hz, rright_is c h1 h2 k (by omega), word_is14 s, rword_is s hs k (by omega)]
  simp only [Option.bind_some, tupC]
  cases rightB c <;> simp
theorem CommandBytes : carillonlaw14_CommandBytes.Pure := by
  intro x0 x1 _ hn hs
  have t1 := hn x0.f1.size (by simp [lens23])
  have t2 := hn x0.f2.size (by simp [lens23])
  have t4 := hn x0.f4.size (by simp [lens23])
  have t5 := hn x0.f5.size (by simp [lens23])
  exact ⟨x0.f1.size + x0.f2.size + x1.size + 1348600, bytes_all ⟨x0.f0, x0.f1, x0.f2, x0.f3, x0.f4, x0.f5, x0.f6, x0.f7, x0.f8⟩ t1 t2 (by dsimp only; omega) x1 hs _ (Nat.le_refl _)⟩
end Go.Proofs.YtpgiagdpepkooaaDoor.P
