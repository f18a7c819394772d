/- The law CommandKinds, over plain functions. -/
import Derived.Test.YtpgiagdpepkooaaDoorKinds
import Derived.Test.YtpgiagdpepkooaaDoorPlainB
import Derived.Test.YtpgiagdpepkooaaDoorPx27
namespace Go.Proofs.YtpgiagdpepkooaaDoor.P
open Go.RowKit Go.Proofs.YtpgiagdpepkooaaDoorW.PrintWords
set_option linter.unusedVariables false
set_option linter.unusedSimpArgs false
set_option maxRecDepth 100000
def carillonlaw14_CommandKinds.Pure : Prop := ∀ (x0 : S23) (x1 : Int), wf23 x0 → (∀ n ∈ lens23 x0, n ≤ 140737488351232) → (Lit.int .i64 x1).wf = true → ∃ k, carillonlaw14_CommandKinds.f k (x0.f0) (x0.f1) (x0.f2) (x0.f3) (x0.f4) (x0.f5) (x0.f6) (x0.f7) (x0.f8) x1 = some true
theorem sz23 {x : S23} (h : ∀ n ∈ lens23 x, n ≤ 140737488351232) : x.f4.size + x.f5.size ≤ 9223372036854775807 := by
  have h4 := h x.f4.size (by simp [lens23])
  have h5 := h x.f5.size (by simp [lens23])
  omega
theorem kinds0 (c d : CM) (e1 : d.topic = c.topic ∧ d.name = c.name ∧ d.seq = c.seq ∧ d.key = c.key ∧ d.value = c.value ∧ d.n = c.n ∧ d.node = c.node ∧ d.ask = c.ask) (hc : rightB c = true) (hd : rightB d = true) (k : Nat) (hk : 1100 ≤ k) :
    carillonlaw14_CommandKinds.j0 (k + 1) d.kind true false c.kind c.topic c.name c.seq c.key c.value c.n c.node c.ask d.kind d.topic d.name d.seq d.key d.value d.n d.node d.ask = some true := by
  have oc := right_ok hc
  have od := right_ok hd
  simp only [carillonlaw14_CommandKinds.j0]
  rw [if_neg (by decide), cenc_is c (by have := oc.key; have := oc.value; omega) k (by omega), cenc_is d (by have := od.key; have := od.value; omega) k (by omega), if_pos hc, if_pos hd]
  simp only [Option.bind_some, if_true]
  have z1 := cText_size c
  have z2 := cText_size d
  obtain ⟨q1, q2, q3, q4, q5, q6, q7, q8⟩ := e1
  have hz : (cText c).size = (cText d).size := by rw [z1, z2, q1, q2, q4, q5]
  obtain ⟨R, hR, hRd⟩ : ∃ R : List UInt8, (cText c).data.toList = UInt8.ofNat c.kind.toNat :: R ∧ (cText d).data.toList = UInt8.ofNat d.kind.toNat :: R := by
    unfold cText cBytes
    rw [q1, q2, q3, q4, q5, q6, q7, q8]
    have hb : ∀ v : Int, 1 ≤ v ∧ v ≤ 11 → beI v 1 = [v] := by
      intro v hv
      show [v / 256 ^ 0 % 256] = [v]
      have e_ : v / 256 ^ 0 % 256 = v := by rw [Int.pow_zero, Int.ediv_one]; omega
      rw [e_]
    rw [hb _ oc.kind, hb _ od.kind, son_data, son_data]
    exact ⟨_, rfl, rfl⟩
  rw [if_pos (by omega)]
  have hk1 := oc.kind
  have hk2 := od.kind
  have hcd : ((cText c).toList == (cText d).toList) = (c.kind == d.kind) := by
    rw [toList_eq, toList_eq, hR, hRd, Bool.eq_iff_iff]
    simp only [beq_iff_eq, List.cons.injEq, and_true]
    constructor
    · intro h
      have := congrArg UInt8.toNat h
      rw [UInt8.toNat_ofNat', UInt8.toNat_ofNat'] at this
      omega
    · intro h
      rw [h]
  rw [if_pos (by rw [hcd]; simp), if_pos (by omega), if_pos (by omega)]
  have ex : (cText c).extract 1 (cText c).size = (cText d).extract 1 (cText d).size := by
    apply ba_eq
    rw [ext_list, ext_list, hR, hRd, hz]
    rfl
  rw [ex]
  simp
theorem kinds_all (c : CM) (kd : Int) (hz : c.key.size + c.value.size ≤ 9223372036854775807) (k : Nat) (hk : 1100 ≤ k) : carillonlaw14_CommandKinds.f (k + 1) c.kind c.topic c.name c.seq c.key c.value c.n c.node c.ask kd = some true := by
  have no : ∀ a0 a1 a2 a3 a4 a5 a6 a7 a8 b0 b1 b2 b3 b4 b5 b6 b7 b8, carillonlaw14_CommandKinds.j0 (k + 1) kd true true a0 a1 a2 a3 a4 a5 a6 a7 a8 b0 b1 b2 b3 b4 b5 b6 b7 b8 = some true := by
    intros
    simp only [carillonlaw14_CommandKinds.j0]
    rw [if_pos trivial]
  unfold carillonlaw14_CommandKinds.f
  rw [show carillonlaw14_examples.f = some true from rfl, right_is14 c hz]
  simp only [Option.bind_some]
  cases h : rightB c
  · rw [if_neg (by decide)]
    exact no _ _ _ _ _ _ _ _ _ _ _ _ _ _ _ _ _ _
  · rw [if_pos (show true = true from rfl), right_is14 ⟨kd, c.topic, c.name, c.seq, c.key, c.value, c.n, c.node, c.ask⟩ hz]
    simp only [Option.bind_some]
    cases h2 : rightB ⟨kd, c.topic, c.name, c.seq, c.key, c.value, c.n, c.node, c.ask⟩
    · exact no _ _ _ _ _ _ _ _ _ _ _ _ _ _ _ _ _ _
    · exact kinds0 c ⟨kd, c.topic, c.name, c.seq, c.key, c.value, c.n, c.node, c.ask⟩ ⟨rfl, rfl, rfl, rfl, rfl, rfl, rfl, rfl⟩ h h2 k hk
theorem CommandKinds : carillonlaw14_CommandKinds.Pure := by
  intro x0 x1 _ hn _
  exact ⟨1101, kinds_all ⟨x0.f0, x0.f1, x0.f2, x0.f3, x0.f4, x0.f5, x0.f6, x0.f7, x0.f8⟩ x1 (sz23 hn) 1100 (Nat.le_refl _)⟩
end Go.Proofs.YtpgiagdpepkooaaDoor.P
