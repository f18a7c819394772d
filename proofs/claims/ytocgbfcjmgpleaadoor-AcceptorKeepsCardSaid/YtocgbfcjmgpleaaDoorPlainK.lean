/- What an acceptor has promised and taken never gets less. -/
import Derived.Test.YtocgbfcjmgpleaaDoorPx18
import Derived.Test.YtocgbfcjmgpleaaDoorPlainS
namespace Go.Proofs.YtocgbfcjmgpleaaDoor.P
open Go.RowKit Go.Proofs.YtocgbfcjmgpleaaDoorW.PrintWords Go.Proofs.YtocgbfcjmgpleaaDoorW.PrintLast Go.Proofs.YtocgbfcjmgpleaaDoorW.PrintMore
set_option linter.unusedSimpArgs false
set_option linter.unusedVariables false
set_option maxRecDepth 100000
theorem lessP_irr (a b : Int) : ¬ LessP a b a b := by unfold LessP; omega
theorem lessP_tr {a b c d e f : Int} (h1 : ¬ LessP e f a b) (h2 : ¬ LessP a b c d) : ¬ LessP e f c d := by unfold LessP at *; omega
theorem keeps_end (l : List S39) (i : Int) (a b c d : Int) (s : ByteArray) (h : AccP a b c d s) (k : Nat) (hk : 6008 ≤ k) : carillonlaw10_AcceptorKeeps.j1 (k + 1) l true i false a b c d s = some true := by
  simp only [carillonlaw10_AcceptorKeeps.j1]
  rw [if_neg (by decide), aenc_is a b c d s k (by omega), if_pos h]
  simp only [Option.bind_some]
  obtain ⟨m, hm⟩ := itemsA_enc h
  have hs := itemsA_size hm
  rw [encS_ok5 hm (show 5 ≤ 1000 by decide)]
  dsimp only
  rw [adec_is _ (by omega) k hk, adec_enc h hm]
  simp
theorem keeps_next (l : List S39) (i : Int) (a b c d e f : Int) (s v : ByteArray) (t : Bool) (h : AccP a b c d s) (a' b' c' d' : Int) (s' : ByteArray) (ok : Bool)
    (hr : (if t = true then takeT a b c d s e f v else prepT a b c d s e f) = (a', b', c', d', s', ok)) (k : Nat) :
    AccP a' b' c' d' s' ∧ carillonlaw10_AcceptorKeeps.j2 (k + 3) l true i ok a b c d s e f t v a' b' c' d' s' = carillonlaw10_AcceptorKeeps.l0 k l true (wrap64 (i + 1)) a' b' c' d' s' := by
  have hn := h.2.1
  have stay : ok = false → a' = a ∧ b' = b ∧ c' = c ∧ d' = d ∧ s' = s → AccP a' b' c' d' s' ∧ carillonlaw10_AcceptorKeeps.j2 (k + 3) l true i ok a b c d s e f t v a' b' c' d' s' = carillonlaw10_AcceptorKeeps.l0 k l true (wrap64 (i + 1)) a' b' c' d' s' := by
    rintro rfl ⟨rfl, rfl, rfl, rfl, rfl⟩
    refine ⟨h, ?_⟩
    simp only [carillonlaw10_AcceptorKeeps.j2]
    rw [if_neg (by decide), if_neg (by simp)]
    simp only [carillonlaw10_AcceptorKeeps.j3, less_is, Option.bind_some]
    rw [if_neg (by decide), if_neg (by simpa using lessP_irr _ _), if_neg (by simpa using lessP_irr _ _)]
    simp only [carillonlaw10_AcceptorKeeps.j4]
    rw [if_neg (by simpa using hn), if_pos (by simp)]
    simp
  cases t with
  | false =>
    rw [if_neg (by decide)] at hr
    unfold prepT at hr
    by_cases g : AccP a b c d s ∧ RightP e f ∧ ¬ LessP e f a b
    · rw [if_pos g] at hr
      simp only [Prod.mk.injEq] at hr
      obtain ⟨rfl, rfl, rfl, rfl, rfl, rfl⟩ := hr
      obtain ⟨_, g2, g3⟩ := g
      have g4 := lessP_tr g3 hn
      refine ⟨⟨.inl g2, g4, h.2.2⟩, ?_⟩
      simp only [carillonlaw10_AcceptorKeeps.j2, less_is, Option.bind_some, if_true]
      simp only [carillonlaw10_AcceptorKeeps.j3, less_is, Option.bind_some]
      rw [if_neg (by simpa using g3), if_neg (by simpa using g3), if_neg (by simpa using lessP_irr _ _)]
      simp only [carillonlaw10_AcceptorKeeps.j4]
      rw [if_neg (by simpa using g4), if_pos (by simp)]
      simp
    · rw [if_neg g] at hr
      simp only [Prod.mk.injEq] at hr
      obtain ⟨r1, r2, r3, r4, r5, r6⟩ := hr
      exact stay r6.symm ⟨r1.symm, r2.symm, r3.symm, r4.symm, r5.symm⟩
  | true =>
    rw [if_pos rfl] at hr
    unfold takeT at hr
    by_cases g : AccP a b c d s ∧ RightP e f ∧ ¬ LessP e f a b ∧ (v.size : Int) ≤ 100000 ∧ (c = e ∧ d = f → s.toList = v.toList)
    · rw [if_pos g] at hr
      simp only [Prod.mk.injEq] at hr
      obtain ⟨rfl, rfl, rfl, rfl, rfl, rfl⟩ := hr
      obtain ⟨_, g2, g3, gv, gs⟩ := g
      have g4 := lessP_tr g3 hn
      have gne : ¬ (e = 0 ∧ f = 0) := fun x => by have := g2.1; omega
      refine ⟨⟨.inl g2, lessP_irr _ _, gv, fun x => absurd x gne, .inr g2⟩, ?_⟩
      simp only [carillonlaw10_AcceptorKeeps.j2, less_is, Option.bind_some, if_true]
      simp only [carillonlaw10_AcceptorKeeps.j3, less_is, Option.bind_some]
      rw [if_neg (by simpa using g3), if_neg (by simpa using g3), if_neg (by simpa using g4)]
      simp only [carillonlaw10_AcceptorKeeps.j4]
      rw [if_neg (by simpa using lessP_irr _ _)]
      by_cases q : e = c ∧ f = d
      · rw [if_pos (by simpa using q), if_pos (gs ⟨q.1.symm, q.2.symm⟩).symm]
        simp
      · rw [if_neg (by simpa using q)]
        simp
    · rw [if_neg g] at hr
      simp only [Prod.mk.injEq] at hr
      obtain ⟨r1, r2, r3, r4, r5, r6⟩ := hr
      exact stay r6.symm ⟨r1.symm, r2.symm, r3.symm, r4.symm, r5.symm⟩
theorem keeps_loop (l : List S39) (n : Nat) : ∀ (i k : Nat) (a b c d : Int) (s : ByteArray), i + n = 100 → AccP a b c d s → 5 * n + 6010 ≤ k → carillonlaw10_AcceptorKeeps.l0 k l true (i : Int) a b c d s = some true := by
  induction n with
  | zero =>
    intro i k a b c d s hi h hk
    obtain ⟨k, rfl⟩ : ∃ m, k = m + 2 := ⟨k - 2, by omega⟩
    simp only [carillonlaw10_AcceptorKeeps.l0]
    rw [show decide ((i : Int) < 100) = false from decide_eq_false (by omega)]
    by_cases g : (i : Int) < (l.length : Int)
    · rw [if_pos g]; exact keeps_end l _ a b c d s h k (by omega)
    · rw [if_neg g]; exact keeps_end l _ a b c d s h k (by omega)
  | succ n ih =>
    intro i k a b c d s hi h hk
    obtain ⟨k, rfl⟩ : ∃ m, k = m + 5 := ⟨k - 5, by omega⟩
    simp only [carillonlaw10_AcceptorKeeps.l0]
    by_cases g : (i : Int) < (l.length : Int)
    · rw [if_pos g, show decide ((i : Int) < 100) = true from decide_eq_true (by omega)]
      simp only [carillonlaw10_AcceptorKeeps.j1, if_true]
      rw [if_pos (by omega), if_pos g]
      generalize rd_T39 l (i : Int) = x
      obtain ⟨⟨e, f⟩, t, v⟩ := x
      dsimp only
      rw [prep_is]
      simp only [Option.bind_some]
      have ew : wrap64 ((i : Int) + 1) = ((i + 1 : Nat) : Int) := by rw [wrap64_id] <;> omega
      obtain ⟨a', b', c', d', s', ok, hr⟩ : ∃ a' b' c' d' s' ok, (if t = true then takeT a b c d s e f v else prepT a b c d s e f) = (a', b', c', d', s', ok) := ⟨_, _, _, _, _, _, rfl⟩
      obtain ⟨h', hj⟩ := keeps_next l (i : Int) a b c d e f s v t h a' b' c' d' s' ok hr k
      cases t with
      | false =>
        rw [if_neg (by decide)] at hr ⊢
        rw [hr]
        dsimp only
        rw [hj, ew]
        exact ih (i + 1) k a' b' c' d' s' (by omega) h' (by omega)
      | true =>
        rw [if_pos rfl] at hr ⊢
        rw [atake_is]
        simp only [Option.bind_some]
        rw [hr]
        dsimp only
        rw [hj, ew]
        exact ih (i + 1) k a' b' c' d' s' (by omega) h' (by omega)
    · rw [if_neg g]
      rw [show k + 4 = (k + 3) + 1 from rfl]
      exact keeps_end l _ a b c d s h (k + 3) (by omega)
end Go.Proofs.YtocgbfcjmgpleaaDoor.P
