import Derived.Test.YtnmcknfkmelnbaaDoorWalkV
import Derived.Test.YtnmcknfkmelnbaaDoorWalkY
import Derived.Outline
import Derived.Laws.BitsAllLaws
import Derived.WalkSpells
import Derived.StillTailTactics
namespace Go.Proofs.YtnmcknfkmelnbaaDoor.P
open Go.RowKit Go.Proofs.YtnmcknfkmelnbaaDoorW.PrintWords Go.Proofs.YtnmcknfkmelnbaaDoorW.PrintLast Go.Proofs.YtnmcknfkmelnbaaDoorW.PrintMore
attribute [local go_sem] max2_int min2_int max_two min_two max_three min_three max_four min_four
set_option linter.unusedVariables false
set_option linter.unusedSimpArgs false
/-- One step of a play. -/
def PxS.stepF (x : PxS) (kind P A : Int) : PxS :=
  if pickN kind 3 = 0 then x.begin (pickN P 3)
  else match x.who.getD (pickN P 3) none with
    | none => x
    | some p => if pickN kind 3 = 1 then x.ask (pickN P 3) (pickN A x.n) p (x.acc.getD (pickN A x.n) AcS.zero) (p.r, p.n) else x.tell (pickN P 3) (pickN A x.n) p (x.acc.getD (pickN A x.n) AcS.zero) (p.r, p.n)
theorem getD_some {α : Type} {l : List (Option α)} {i : Nat} {p : α} (h : l.getD i none = some p) : l[i]? = some (some p) := by
  rw [List.getD_eq_getElem?_getD] at h
  cases e : l[i]? with
  | none => rw [e] at h; cases h
  | some q => rw [e] at h; exact congrArg some h
theorem PaxI.stepF {x : PxS} (h : ∃ vt pv, PaxI x vt pv) (kind P A : Int) : ∃ vt pv, PaxI (x.stepF kind P A) vt pv := by
  obtain ⟨vt, pv, h⟩ := h
  unfold PxS.stepF
  have hi3 := pickN_lt P 3 (by decide)
  by_cases c0 : pickN kind 3 = 0
  · rw [if_pos c0]
    exact ⟨vt, pv, h.begin _ hi3⟩
  · rw [if_neg c0]
    cases hw : x.who.getD (pickN P 3) none with
    | none => exact ⟨vt, pv, h⟩
    | some p =>
      have hp := getD_some hw
      have hk : pickN A x.n < x.acc.length := by rw [h.lA]; exact pickN_lt A x.n h.n1.1
      have ha : x.acc[pickN A x.n]? = some (x.acc.getD (pickN A x.n) AcS.zero) := by
        rw [List.getD_eq_getElem?_getD, List.getElem?_eq_getElem hk]; rfl
      dsimp only
      by_cases c1 : pickN kind 3 = 1
      · rw [if_pos c1]
        exact ⟨vt, pv, h.askP hp ha⟩
      · rw [if_neg c1]
        exact h.tellP hi3 hp ha
theorem PxS.stepF_top (x : PxS) (kind P A : Int) : (x.stepF kind P A).top ≤ x.top + 1 ∧ x.top ≤ (x.stepF kind P A).top ∧ (x.stepF kind P A).said.length ≤ x.said.length + 1 ∧ (x.stepF kind P A).n = x.n := by
  unfold PxS.stepF
  split
  · exact ⟨Int.le_refl _, by show x.top ≤ x.top + 1; omega, by show x.said.length ≤ _; omega, rfl⟩
  · split
    · exact ⟨by omega, Int.le_refl _, by omega, rfl⟩
    · split
      · unfold PxS.ask
        split
        · exact ⟨by show x.top ≤ _; omega, Int.le_refl _, by show x.said.length ≤ _; omega, rfl⟩
        · exact ⟨by omega, Int.le_refl _, by omega, rfl⟩
      · unfold PxS.tell PxS.end_
        split
        · exact ⟨by omega, Int.le_refl _, by omega, rfl⟩
        · split
          · refine ⟨by show x.top ≤ _; omega, Int.le_refl _, ?_, rfl⟩
            dsimp only
            split
            · rw [List.length_append]; exact Nat.le_refl _
            · omega
          · refine ⟨by show x.top ≤ _; omega, Int.le_refl _, ?_, rfl⟩
            dsimp only
            split
            · rw [List.length_append]; exact Nat.le_refl _
            · omega
theorem set_same {α : Type} {l : List α} {i : Nat} {a : α} (h : l[i]? = some a) : l.set i a = l := by
  apply List.ext_getElem?
  intro j
  by_cases e : j = i
  · subst e
    rw [List.getElem?_set_self (List.getElem?_eq_some_iff.1 h).1, h]
  · rw [List.getElem?_set_ne (Ne.symm e)]
theorem tell_err (p : PrS) (own : ByteArray) (h : (p.tell own).2.2 ≠ 0) : (p.tell own).1 = p := by
  unfold PrS.tell at h ⊢
  split
  · rfl
  · split
    · rfl
    · split
      · rfl
      · rename_i h1 h2 h3
        rw [if_neg h1, if_neg h2, if_neg h3] at h
        exact absurd rfl h
/-- The program's step does what a step of a play is. -/
theorem step_calls (w W : World) (B : PxB) (x : PxS) (kind P A : Int) (hk : inB kind = true) (hP : inB P = true) (hA : inB A = true) (h : PxIs w W B x) (hI : ∃ vt pv, PaxI x vt pv) (ht : x.top ≤ 1000) (hs : x.said.length ≤ 1000) :
    Calls Tryd.prog 23 #[.pointer (some ⟨B.gx, 0, none⟩), .agg #[.int .i64 kind, .int .i64 P, .int .i64 A]] W fun e W' => e = .returned (.bool true) ∧ ∃ B', B'.gx = B.gx ∧ PxIs w W' B' (x.stepF kind P A) := by
  obtain ⟨vt, pv, hI⟩ := hI
  have hi3 := pickN_lt P 3 (by decide)
  have hk3 := pickN_lt kind 3 (by decide)
  unfold PxS.stepF
  by_cases c0 : pickN kind 3 = 0
  · rw [if_pos c0]
    exact step_begin w W B x kind P A hk hP hA ⟨h⟩ c0 ⟨hI.top0, by omega⟩ trivial
  rw [if_neg c0]
  cases hw : x.who.getD (pickN P 3) none with
  | none => exact step_none w W B x kind P A hk hP hA ⟨h⟩ c0 hw
  | some p =>
    have hp := getD_some hw
    have hkl : pickN A x.n < x.acc.length := by rw [hI.lA]; exact pickN_lt A x.n hI.n1.1
    have ha : x.acc[pickN A x.n]? = some (x.acc.getD (pickN A x.n) AcS.zero) := by
      rw [List.getD_eq_getElem?_getD, List.getElem?_eq_getElem hkl]; rfl
    have hb := (hI.who _ p hp).1
    dsimp only
    generalize x.acc.getD (pickN A x.n) AcS.zero = a at ha ⊢
    by_cases c1 : pickN kind 3 = 1
    · rw [if_pos c1]
      have hpr := prep_is a.a a.b a.c a.d a.s p.r p.n
      unfold PxS.ask AcS.prep
      dsimp only
      unfold prepT at hpr ⊢
      by_cases c2 : AccP a.a a.b a.c a.d a.s ∧ RightP p.r p.n ∧ ¬ LessP p.r p.n a.a a.b
      · rw [if_pos c2] at hpr ⊢
        rw [if_pos rfl]
        exact step_ask1 w W B x kind P A hk hP hA ⟨h⟩ p a ⟨p.r, p.n, a.c, a.d, a.s⟩ (p.r, p.n) c1 hw ha hb ⟨hpr⟩
      · rw [if_neg c2] at hpr ⊢
        rw [if_neg (by simp)]
        exact step_ask0 w W B x kind P A hk hP hA ⟨h⟩ p a a (p.r, p.n) c1 hw ha hb ⟨hpr⟩
    · rw [if_neg c1]
      have c2 : pickN kind 3 = 2 := by omega
      unfold PxS.tell
      by_cases c3 : (p.tell (ownB (pickN P 3))).2.2 ≠ 0
      · rw [if_pos c3]
        have e := tell_err p _ c3
        have := step_tell0 w W B x kind P A hk hP hA ⟨h⟩ p c2 hw (p.tell (ownB (pickN P 3))).2.1 (p.tell (ownB (pickN P 3))).2.2 ⟨by rw [Prod.ext_iff]; exact ⟨e, rfl⟩⟩ (bne_iff_ne.mpr c3)
        rw [set_same hp] at this
        exact this
      · rw [if_neg c3]
        have c4 : (p.tell (ownB (pickN P 3))).2.2 = 0 := Classical.byContradiction c3
        have hTL : p.tell (ownB (pickN P 3)) = ((p.tell (ownB (pickN P 3))).1, (p.tell (ownB (pickN P 3))).2.1, 0) := by rw [← c4]
        generalize (p.tell (ownB (pickN P 3))).1 = p1 at hTL ⊢
        generalize (p.tell (ownB (pickN P 3))).2.1 = v at hTL ⊢
        have hTK := fun W => take_calls a.a a.b a.c a.d a.s p.r p.n v W
        unfold AcS.take AcS.of PxS.end_
        dsimp only
        generalize takeT a.a a.b a.c a.d a.s p.r p.n v = t at hTK ⊢
        obtain ⟨t1, t2, t3, t4, t5, t6⟩ := t
        dsimp only at hTK ⊢
        cases t6
        · rw [if_neg (by simp)]
          by_cases c5 : p1.st = 2
          · rw [if_pos c5]
            exact step_tell2 w W B x kind P A hk hP hA ⟨h⟩ p p1 v a ⟨t1, t2, t3, t4, t5⟩ (p.r, p.n) c2 hw ha hb ⟨hTL⟩ ⟨hTK⟩ (beq_iff_eq.mpr c5) ⟨hs⟩
          · rw [if_neg c5]
            exact step_tell1 w W B x kind P A hk hP hA ⟨h⟩ p p1 v a ⟨t1, t2, t3, t4, t5⟩ (p.r, p.n) c2 hw ha hb ⟨hTL⟩ ⟨hTK⟩ (beq_eq_false_iff_ne.mpr c5)
        · rw [if_pos rfl]
          by_cases c5 : (p1.taken (pickN A x.n : Int)).1.st = 2
          · rw [if_pos c5]
            exact step_tell4 w W B x kind P A hk hP hA ⟨h⟩ p p1 v a ⟨t1, t2, t3, t4, t5⟩ (p.r, p.n) c2 hw ha hb ⟨hTL⟩ ⟨hTK⟩ (beq_iff_eq.mpr c5) ⟨hs⟩
          · rw [if_neg c5]
            exact step_tell3 w W B x kind P A hk hP hA ⟨h⟩ p p1 v a ⟨t1, t2, t3, t4, t5⟩ (p.r, p.n) c2 hw ha hb ⟨hTL⟩ ⟨hTK⟩ (beq_eq_false_iff_ne.mpr c5)

end Go.Proofs.YtnmcknfkmelnbaaDoor.P
