/- The law CommandAnswers, over plain functions. -/
import Derived.Test.YtpgiagdpepkooaaDoorKinds
import Derived.Test.YtpgiagdpepkooaaDoorPlainCommandAnswers
import Derived.Test.YtpgiagdpepkooaaDoorPx24
namespace Go.Proofs.YtpgiagdpepkooaaDoor.P
open Go.RowKit Go.Proofs.YtpgiagdpepkooaaDoorW.PrintWords
set_option linter.unusedVariables false
set_option linter.unusedSimpArgs false
set_option maxRecDepth 100000
def carillonlaw14_CommandAnswers.Pure : Prop := ∀ (x0 : Int) (x1 : S39) (x2 : ByteArray), (Lit.int .i64 x0).wf = true → wf39 x1 → (∀ n ∈ lens39 x1, n ≤ 140737488351232) → x2.size ≤ 140737488351232 → ∃ k, carillonlaw14_CommandAnswers.f k x0 (x1.f0) (x1.f1) (x1.f2) x2 = some true
theorem wipe_loop (s : ByteArray) (b7 : Bool) (x8 : ByteArray) (x9 : Int) (x10 : ByteArray) (x11 : Bool) (x12 x14 x15 a b : Int) (l : List SR) (a' b' : Int) (d : Nat) : ∀ (i k : Nat) (r : List SR), i + d = r.length → r.length ≤ 1000 →
    carillonlaw14_CommandAnswers.l1 (k + d + 1) s b7 x8 x9 x10 x11 x12 x14 x15 (i : Int) a b l a' b' r = carillonlaw14_CommandAnswers.l0 k s b7 x8 x9 x10 x11 x12 x14 (wrap64 (x15 + 1)) a b l := by
  induction d with
  | zero =>
    intro i k r hi hr
    rw [show k + 0 + 1 = k + 1 by omega]
    simp only [carillonlaw14_CommandAnswers.l1]
    rw [if_neg (by omega)]
  | succ d ih =>
    intro i k r hi hr
    rw [show k + (d + 1) + 1 = (k + d + 1) + 1 by omega]
    simp only [carillonlaw14_CommandAnswers.l1]
    rw [if_pos (by omega), if_pos (by omega), show wrap64 ((i : Int) + 1) = ((i + 1 : Nat) : Int) by unfold wrap64; omega]
    exact ih (i + 1) k _ (by rw [List.length_set]; omega) (by rw [List.length_set]; omega)
theorem turn_once (s : ByteArray) (hs : s.size ≤ 140737488351232) (b7 : Bool) (x8 : ByteArray) (x9 : Int) (x10 : ByteArray) (x11 : Bool) (x15 : Int) (h15 : 0 ≤ x15 ∧ x15 < 2) (hl : (answeredV s).1.2.2.2.length ≤ 1000) (k : Nat) (hk : 6200 ≤ k) :
    carillonlaw14_CommandAnswers.l0 (k + (answeredV s).1.2.2.2.length + 3) s b7 x8 x9 x10 x11 (answeredV s).1.1 (answeredV s).2 x15 (answeredV s).1.2.1 (answeredV s).1.2.2.1 (answeredV s).1.2.2.2 =
    carillonlaw14_CommandAnswers.l0 k s b7 x8 x9 x10 x11 (answeredV s).1.1 (answeredV s).2 (x15 + 1) (answeredV s).1.2.1 (answeredV s).1.2.2.1 (answeredV s).1.2.2.2 := by
  rw [show k + (answeredV s).1.2.2.2.length + 3 = (k + (answeredV s).1.2.2.2.length + 2) + 1 by omega]
  simp only [carillonlaw14_CommandAnswers.l0]
  rw [if_pos h15.2, answered_is s hs _ (by omega)]
  simp only [Option.bind_some, tupR]
  rw [replies_is _ _ _ (by omega) _ (by omega)]
  simp only [Option.bind_some]
  rw [if_pos trivial, if_pos trivial, show ((answeredV s).2 != (answeredV s).2) = false by simp]
  rw [show k + (answeredV s).1.2.2.2.length + 2 = (k + (answeredV s).1.2.2.2.length + 1) + 1 by omega]
  simp only [carillonlaw14_CommandAnswers.j1]
  rw [if_neg (show ¬ (false = true) by decide)]
  have := wipe_loop s b7 x8 x9 x10 x11 (answeredV s).1.1 (answeredV s).2 x15 (answeredV s).1.2.1 (answeredV s).1.2.2.1 (answeredV s).1.2.2.2 (answeredV s).1.2.1 (answeredV s).1.2.2.1 (answeredV s).1.2.2.2.length 0 k (answeredV s).1.2.2.2 (by omega) hl
  rw [show ((0 : Nat) : Int) = 0 from rfl] at this
  rw [this, show wrap64 (x15 + 1) = x15 + 1 by unfold wrap64; omega]
theorem answers_all (ask code n : Int) (l : List SR) (hl : l.length ≤ 4611686018427387904) (s : ByteArray) (hs : s.size ≤ 140737488351232) (k : Nat) (hk : l.length + 4001300 < k) : carillonlaw14_CommandAnswers.f (k + 2 * ((answeredV s).1.2.2.2.length + 3)) ask code n l s = some true := by
  have hq : (answeredV s).1.2.2.2.length ≤ 1000 := by
    rcases answered_or s with ⟨⟨a, c, m, rs⟩, h⟩ | ⟨e, he, h⟩
    · have ho : okR a c m rs = true := (answered_back h).1
      have hl := (told_parts (okR_parts ho).1).2.2.2
      rw [h]
      dsimp only
      omega
    · rw [h]
      show ([] : List SR).length ≤ 1000
      simp
  unfold carillonlaw14_CommandAnswers.f
  rw [show carillonlaw14_examples.f = some true from rfl, answer_is ask code n l hl _ (by omega), ranswer_is ask code n l hl _ (by omega), ranswered_is s hs _ (by omega)]
  simp only [Option.bind_some, tupR]
  rw [show k + 2 * ((answeredV s).1.2.2.2.length + 3) = (k + (answeredV s).1.2.2.2.length + 3) + (answeredV s).1.2.2.2.length + 3 by omega]
  rw [turn_once s hs _ _ _ _ _ 0 (by decide) hq _ (by omega), turn_once s hs _ _ _ _ _ (0 + 1) (by decide) hq _ (by omega)]
  obtain ⟨k, rfl⟩ : ∃ q, k = q + 1 := ⟨k - 1, by omega⟩
  simp only [carillonlaw14_CommandAnswers.l0]
  rw [if_neg (show ¬ ((0 : Int) + 1 + 1 < 2) by decide), if_pos trivial]
  unfold ansV
  cases okR ask code n l
  · rw [if_neg (show ¬ (false = true) by decide), if_neg (show ¬ (false = true) by decide)]
    simp
  · rw [if_pos (show true = true from rfl), if_pos (show true = true from rfl)]
    simp
theorem CommandAnswers : carillonlaw14_CommandAnswers.Pure := by
  intro x0 x1 x2 _ _ hn hs
  have h0 := hn _ (List.mem_cons_self ..)
  exact ⟨_, answers_all x0 x1.f0 x1.f1 x1.f2 (by omega) x2 hs (x1.f2.length + 4001301) (by omega)⟩
end Go.Proofs.YtpgiagdpepkooaaDoor.P
