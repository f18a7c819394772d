/- The law CommandTorn, over plain functions. -/
import Derived.Test.YtpgiagdpepkooaaDoorKinds
import Derived.Test.YtpgiagdpepkooaaDoorPlainB
import Derived.Test.YtpgiagdpepkooaaDoorPlainW
import Derived.Test.YtpgiagdpepkooaaDoorPx26
namespace Go.Proofs.YtpgiagdpepkooaaDoor.P
open Go.RowKit Go.Proofs.YtpgiagdpepkooaaDoorW.PrintWords
set_option linter.unusedVariables false
set_option linter.unusedSimpArgs false
set_option maxRecDepth 100000
def carillonlaw14_CommandTorn.Pure : Prop := ∀ (x0 : S23) (x1 : Int) (x2 : Int), wf23 x0 → (∀ n ∈ lens23 x0, n ≤ 140737488351232) → (Lit.int .i64 x1).wf = true → (Lit.int .i64 x2).wf = true → ∃ k, carillonlaw14_CommandTorn.f k (x0.f0) (x0.f1) (x0.f2) (x0.f3) (x0.f4) (x0.f5) (x0.f6) (x0.f7) (x0.f8) x1 x2 = some true
theorem sz23 {x : S23} (h : ∀ n ∈ lens23 x, n ≤ 140737488351232) : x.f4.size + x.f5.size ≤ 9223372036854775807 := by
  have h4 := h x.f4.size (by simp [lens23])
  have h5 := h x.f5.size (by simp [lens23])
  omega
theorem turnedT_ls (s : ByteArray) (p : Nat) : ls (turnedT s p) = flipL (ls s) p := by
  unfold turnedT flipL ls
  generalize s.data.toList.set (p / 8) (UInt8.ofNat ((s.data.toList.getD (p / 8) 0).toNat ^^^ 2 ^ (p % 8))) = l
  rw [strOfNums_data, List.map_map]
  have : ∀ l : List UInt8, l.map ((fun n : Int => UInt8.ofNat n.toNat) ∘ fun c : UInt8 => (c.toNat : Int)) = l := by
    intro l
    induction l with
    | nil => rfl
    | cons c l ih => rw [List.map_cons, ih]; simp
  exact this l
theorem askedC {s : ByteArray} {e : Int} (h : takeV s = (⟨#[]⟩, 0, e)) (he : e ≠ 0) : askedV s = (zC, e) := by
  have hf : framedV s = (⟨#[]⟩, e) := by
    unfold framedV
    rw [h]
    dsimp only
    rw [if_neg he]
  unfold askedV
  rw [hf]
  dsimp only
  rw [if_neg he]
theorem torn_all (c : CM) (hz : c.key.size + c.value.size ≤ 9223372036854775807) (a b : Int) (a1 : -9223372036854775808 ≤ a) (a2 : a ≤ 9223372036854775807) (b1 : -9223372036854775808 ≤ b) (b2 : b ≤ 9223372036854775807) (k : Nat) (hk : 6100 ≤ k) :
    carillonlaw14_CommandTorn.f k c.kind c.topic c.name c.seq c.key c.value c.n c.node c.ask a b = some true := by
  unfold carillonlaw14_CommandTorn.f
  rw [req_is ⟨c.kind, c.topic, c.name, c.seq, c.key, c.value, c.n, 0, c.ask⟩ hz k (by omega)]
  generalize (⟨c.kind, c.topic, c.name, c.seq, c.key, c.value, c.n, 0, c.ask⟩ : CM) = d
  unfold reqV
  by_cases h : rightB d = true ∧ d.node = 0
  · have hl := cText_le (right_ok h.1)
    have hf := frame_size (cText d)
    rw [if_pos h]
    dsimp only
    rw [if_pos rfl]
    have hu : (bitZ a).toNat % (frame (cText d)).size < (frame (cText d)).size := Nat.mod_lt _ (by omega)
    generalize (bitZ a).toNat % (frame (cText d)).size = u at hu
    have hp1 : 32 ≤ tornP (frame (cText d)).size b := by unfold tornP; omega
    have hp2 : tornP (frame (cText d)).size b < 8 * ((cText d).size + 8) := by
      unfold tornP
      have := Nat.mod_lt (bitZ b).toNat (show 0 < 8 * (frame (cText d)).size - 32 by omega)
      omega
    generalize tornP (frame (cText d)).size b = p at hp1 hp2
    have hx : ls ((frame (cText d)).extract 0 u) = (frameL (ls (cText d))).take u := by
      rw [ls_extract, List.drop_zero, Nat.sub_zero, frame_ls]
    have hxs : ((frame (cText d)).extract 0 u).size = u := by
      rw [← ls_len, hx, ← frame_ls, List.length_take, ls_len]
      omega
    have t1 := take_torn (cText d) (by omega) ((frame (cText d)).extract 0 u) [] ((frameL (ls (cText d))).drop u) (by rw [hx, List.take_append_drop, List.append_nil]) (by omega)
    have t2 := take_flip (cText d) (by omega) p hp1 hp2 (turnedT (frame (cText d)) p) [] (by rw [turnedT_ls, frame_ls, List.append_nil])
    have ht : (turnedT (frame (cText d)) p).size ≤ 140737488351232 := by
      rw [← ls_len, turnedT_ls]
      unfold flipL
      rw [List.length_set, ls_len]
      omega
    have q1 := asked_is _ (show ((frame (cText d)).extract 0 u).size ≤ 140737488351232 by omega) k (by omega)
    have q2 := asked_is _ ht k (by omega)
    rw [askedC t1 (by decide)] at q1
    rw [askedC t2 (by decide)] at q2
    rw [if_pos ⟨by omega, by omega, a1, a2, b1, b2, q1, q2⟩]
  · rw [if_neg h]
    dsimp only
    rw [if_neg (by decide)]
theorem CommandTorn : carillonlaw14_CommandTorn.Pure := by
  intro x0 x1 x2 _ hn h1 h2
  have w1 := bounds_i64 h1
  have w2 := bounds_i64 h2
  exact ⟨6100, torn_all ⟨x0.f0, x0.f1, x0.f2, x0.f3, x0.f4, x0.f5, x0.f6, x0.f7, x0.f8⟩ (sz23 hn) x1 x2 (by omega) (by omega) (by omega) (by omega) 6100 (Nat.le_refl _)⟩
end Go.Proofs.YtpgiagdpepkooaaDoor.P
