/- The law CommandReply, over plain functions. -/
import Derived.Test.YtpgiagdpepkooaaDoorKinds
import Derived.Test.YtpgiagdpepkooaaDoorPlainQ
import Derived.Test.YtpgiagdpepkooaaDoorPx33
namespace Go.Proofs.YtpgiagdpepkooaaDoor.P
open Go.RowKit Go.Proofs.YtpgiagdpepkooaaDoorW.PrintWords
set_option linter.unusedVariables false
set_option linter.unusedSimpArgs false
set_option maxRecDepth 100000
def carillonlaw14_CommandReply.Pure : Prop := ∀ (x0 : Int) (x1 : S39) (x2 : ByteArray), (Lit.int .i64 x0).wf = true → wf39 x1 → (∀ n ∈ lens39 x1, n ≤ 140737488351232) → x2.size ≤ 140737488351232 → ∃ k, carillonlaw14_CommandReply.f k x0 (x1.f0) (x1.f1) (x1.f2) x2 = some true
theorem reply0 (s : ByteArray) (hs : s.size ≤ 140737488351232) (k : Nat) (hk : 6200 ≤ k) : carillonlaw14_CommandReply.j0 (k + 1) s true = some true := by
  simp only [carillonlaw14_CommandReply.j0]
  rw [answered_is s hs k (by omega)]
  simp only [Option.bind_some, tupR]
  rcases answered_or s with ⟨⟨a, c, n, l⟩, h⟩ | ⟨e, he, h⟩
  · obtain ⟨hr, hb⟩ := answered_back h
    have ho : okR a c n l = true := hr
    have hl := (told_parts (okR_parts ho).1).2.2.2
    rw [h]
    dsimp only at hb ⊢
    rw [if_pos rfl, answer_is a c n l (by omega) k (by omega)]
    simp only [Option.bind_some, if_true]
    unfold ansV
    rw [if_pos ho, if_pos (by rw [hb])]
    rfl
  · rw [h]
    dsimp only
    rw [if_neg he, if_pos trivial]
    rfl
theorem reply_all (ask code n : Int) (l : List SR) (hl : l.length ≤ 4611686018427387904) (s : ByteArray) (hs : s.size ≤ 140737488351232) (k : Nat) (hk : l.length + 6300 < k) : carillonlaw14_CommandReply.f (k + 1) ask code n l s = some true := by
  unfold carillonlaw14_CommandReply.f
  rw [show carillonlaw14_examples.f = some true from rfl, answer_is ask code n l hl (k + 1) (by omega)]
  simp only [Option.bind_some]
  have h0 := reply0 s hs k (by omega)
  unfold ansV
  cases ho : okR ask code n l
  · rw [if_neg (show ¬ (false = true) by decide)]
    dsimp only
    rw [if_neg (by decide)]
    exact h0
  · have hz := (rep_enc ho).2.2.2
    have hf := frame_size (repT ask code n l)
    have hs2 : (repT ask code n l).size ≤ 400000 := by unfold repT; rw [son_size]; omega
    rw [if_pos (show true = true from rfl)]
    dsimp only
    rw [if_pos rfl, answered_is _ (by omega) (k + 1) (by omega), answered_enc ho]
    simp only [Option.bind_some, tupR]
    rw [replies_is code n l hl (k + 1) (by omega)]
    simp only [Option.bind_some]
    rw [if_pos trivial, if_pos trivial, if_pos trivial]
    exact h0
theorem CommandReply : carillonlaw14_CommandReply.Pure := by
  intro x0 x1 x2 _ _ hn hs
  have h0 := hn _ (List.mem_cons_self ..)
  exact ⟨x1.f2.length + 6302, reply_all x0 x1.f0 x1.f1 x1.f2 (by omega) x2 hs _ (by omega)⟩
end Go.Proofs.YtpgiagdpepkooaaDoor.P
