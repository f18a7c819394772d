import Derived.Test.YtnmcknfkmelnbaaDoorFrV
import Derived.Test.YtnmcknfkmelnbaaDoorFrY
import Derived.Outline
import Derived.Laws.BitsAllLaws
import Derived.WalkSpells
import Derived.StillTailTactics
namespace Go.Proofs.YtnmcknfkmelnbaaDoor.P
open Go.RowKit Go.Proofs.YtnmcknfkmelnbaaDoorW.PrintWords Go.Proofs.YtnmcknfkmelnbaaDoorW.PrintLast Go.Proofs.YtnmcknfkmelnbaaDoorW.PrintMore
attribute [local go_sem] max2_int min2_int max_two min_two max_three min_three max_four min_four
set_option linter.unusedVariables false
set_option linter.unusedSimpArgs false
/-- One step of a play. -/
def PxS.stepF (x : PxS) (kind P A : Int) : PxS :=
  if pickN kind 3 = 0 then x.begin (pickN P 3)
  else match x.who.getD (pickN P 3) none with
    | none => x
    | some p => if pickN kind 3 = 1 then x.ask (pickN P 3) (pickN A x.n) p (x.acc.getD (pickN A x.n) AcS.zero) (p.r, p.n) else x.tell (pickN P 3) (pickN A x.n) p (x.acc.getD (pickN A x.n) AcS.zero) (p.r, p.n)
theorem getD_some {α : Type} {l : List (Option α)} {i : Nat} {p : α} (h : l.getD i none = some p) : l[i]? = some (some p) := by
  rw [List.getD_eq_getElem?_getD] at h
  cases e : l[i]? with
  | none => rw [e] at h; cases h
  | some q => rw [e] at h; exact congrArg some h
theorem PaxI.stepF {x : PxS} (h : ∃ vt pv, PaxI x vt pv) (kind P A : Int) : ∃ vt pv, PaxI (x.stepF kind P A) vt pv := by
  obtain ⟨vt, pv, h⟩ := h
  unfold PxS.stepF
  have hi3 := pickN_lt P 3 (by decide)
  by_cases c0 : pickN kind 3 = 0
  · rw [if_pos c0]
    exact ⟨vt, pv, h.begin _ hi3⟩
  · rw [if_neg c0]
    cases hw : x.who.getD (pickN P 3) none with
    | none => exact ⟨vt, pv, h⟩
    | some p =>
      have hp := getD_some hw
      have hk : pickN A x.n < x.acc.length := by rw [h.lA]; exact pickN_lt A x.n h.n1.1
      have ha : x.acc[pickN A x.n]? = some (x.acc.getD (pickN A x.n) AcS.zero) := by
        rw [List.getD_eq_getElem?_getD, List.getElem?_eq_getElem hk]; rfl
      dsimp only
      by_cases c1 : pickN kind 3 = 1
      · rw [if_pos c1]
        exact ⟨vt, pv, h.askP hp ha⟩
      · rw [if_neg c1]
        exact h.tellP hi3 hp ha
theorem PxS.stepF_top (x : PxS) (kind P A : Int) : (x.stepF kind P A).top ≤ x.top + 1 ∧ x.top ≤ (x.stepF kind P A).top ∧ (x.stepF kind P A).said.length ≤ x.said.length + 1 ∧ (x.stepF kind P A).n = x.n := by
  unfold PxS.stepF
  split
  · exact ⟨Int.le_refl _, by show x.top ≤ x.top + 1; omega, by show x.said.length ≤ _; omega, rfl⟩
  · split
    · exact ⟨by omega, Int.le_refl _, by omega, rfl⟩
    · split
      · unfold PxS.ask
        split
        · exact ⟨by show x.top ≤ _; omega, Int.le_refl _, by show x.said.length ≤ _; omega, rfl⟩
        · exact ⟨by omega, Int.le_refl _, by omega, rfl⟩
      · unfold PxS.tell PxS.end_
        split
        · exact ⟨by omega, Int.le_refl _, by omega, rfl⟩
        · split
          · refine ⟨by show x.top ≤ _; omega, Int.le_refl _, ?_, rfl⟩
            dsimp only
            split
            · rw [List.length_append]; exact Nat.le_refl _
            · omega
          · refine ⟨by show x.top ≤ _; omega, Int.le_refl _, ?_, rfl⟩
            dsimp only
            split
            · rw [List.length_append]; exact Nat.le_refl _
            · omega
theorem set_same {α : Type} {l : List α} {i : Nat} {a : α} (h : l[i]? = some a) : l.set i a = l := by
  apply List.ext_getElem?
  intro j
  by_cases e : j = i
  · subst e
    rw [List.getElem?_set_self (List.getElem?_eq_some_iff.1 h).1, h]
  · rw [List.getElem?_set_ne (Ne.symm e)]
theorem tell_err (p : PrS) (own : ByteArray) (h : (p.tell own).2.2 ≠ 0) : (p.tell own).1 = p := by
  unfold PrS.tell at h ⊢
  split
  · rfl
  · split
    · rfl
    · split
      · rfl
      · rename_i h1 h2 h3
        rw [if_neg h1, if_neg h2, if_neg h3] at h
        exact absurd rfl h
/-- The program's step does what a step of a play is. -/
theorem step_calls (w W : World) (B : PxB) (x : PxS) (kind P A : Int) (hk : inB kind = true) (hP : inB P = true) (hA : inB A = true) (h : PxIs w W B x) (hI : ∃ vt pv, PaxI x vt pv) (ht : x.top ≤ 1000) (hs : x.said.length ≤ 1000) :
    Calls Tryd.prog 23 #[.pointer (some ⟨B.gx, 0, none⟩), .agg #[.int .i64 kind, .int .i64 P, .int .i64 A]] W fun e W' => e = .returned (.bool true) ∧ ∃ B', B'.ke = B.ke ∧ PxIs w W' B' (x.stepF kind P A) := by
  obtain ⟨vt, pv, hI⟩ := hI
  have hi3 := pickN_lt P 3 (by decide)
  have hk3 := pickN_lt kind 3 (by decide)
  unfold PxS.stepF
  by_cases c0 : pickN kind 3 = 0
  · rw [if_pos c0]
    exact step_begin w W B x kind P A hk hP hA ⟨h⟩ c0 ⟨hI.top0, by omega⟩ trivial
  rw [if_neg c0]
  cases hw : x.who.getD (pickN P 3) none with
  | none => exact step_none w W B x kind P A hk hP hA ⟨h⟩ c0 hw
  | some p =>
    have hp := getD_some hw
    have hkl : pickN A x.n < x.acc.length := by rw [hI.lA]; exact pickN_lt A x.n hI.n1.1
    have ha : x.acc[pickN A x.n]? = some (x.acc.getD (pickN A x.n) AcS.zero) := by
      rw [List.getD_eq_getElem?_getD, List.getElem?_eq_getElem hkl]; rfl
    have hb := (hI.who _ p hp).1
    dsimp only
    generalize x.acc.getD (pickN A x.n) AcS.zero = a at ha ⊢
    by_cases c1 : pickN kind 3 = 1
    · rw [if_pos c1]
      have hpr := prep_is a.a a.b a.c a.d a.s p.r p.n
      unfold PxS.ask AcS.prep
      dsimp only
      unfold prepT at hpr ⊢
      by_cases c2 : AccP a.a a.b a.c a.d a.s ∧ RightP p.r p.n ∧ ¬ LessP p.r p.n a.a a.b
      · rw [if_pos c2] at hpr ⊢
        rw [if_pos rfl]
        exact step_ask1 w W B x kind P A hk hP hA ⟨h⟩ p a ⟨p.r, p.n, a.c, a.d, a.s⟩ (p.r, p.n) c1 hw ha hb ⟨hpr⟩
      · rw [if_neg c2] at hpr ⊢
        rw [if_neg (by simp)]
        exact step_ask0 w W B x kind P A hk hP hA ⟨h⟩ p a a (p.r, p.n) c1 hw ha hb ⟨hpr⟩
    · rw [if_neg c1]
      have c2 : pickN kind 3 = 2 := by omega
      unfold PxS.tell
      by_cases c3 : (p.tell (ownB (pickN P 3))).2.2 ≠ 0
      · rw [if_pos c3]
        have e := tell_err p _ c3
        have := step_tell0 w W B x kind P A hk hP hA ⟨h⟩ p c2 hw (p.tell (ownB (pickN P 3))).2.1 (p.tell (ownB (pickN P 3))).2.2 ⟨by rw [Prod.ext_iff]; exact ⟨e, rfl⟩⟩ (bne_iff_ne.mpr c3)
        rw [set_same hp] at this
        exact this
      · rw [if_neg c3]
        have c4 : (p.tell (ownB (pickN P 3))).2.2 = 0 := Classical.byContradiction c3
        have hTL : p.tell (ownB (pickN P 3)) = ((p.tell (ownB (pickN P 3))).1, (p.tell (ownB (pickN P 3))).2.1, 0) := by rw [← c4]
        generalize (p.tell (ownB (pickN P 3))).1 = p1 at hTL ⊢
        generalize (p.tell (ownB (pickN P 3))).2.1 = v at hTL ⊢
        have hTK := fun W => take_calls a.a a.b a.c a.d a.s p.r p.n v W
        unfold AcS.take AcS.of PxS.end_
        dsimp only
        generalize takeT a.a a.b a.c a.d a.s p.r p.n v = t at hTK ⊢
        obtain ⟨t1, t2, t3, t4, t5, t6⟩ := t
        dsimp only at hTK ⊢
        cases t6
        · rw [if_neg (by simp)]
          by_cases c5 : p1.st = 2
          · rw [if_pos c5]
            exact step_tell2 w W B x kind P A hk hP hA ⟨h⟩ p p1 v a ⟨t1, t2, t3, t4, t5⟩ (p.r, p.n) c2 hw ha hb ⟨hTL⟩ ⟨hTK⟩ (beq_iff_eq.mpr c5) ⟨hs⟩
          · rw [if_neg c5]
            exact step_tell1 w W B x kind P A hk hP hA ⟨h⟩ p p1 v a ⟨t1, t2, t3, t4, t5⟩ (p.r, p.n) c2 hw ha hb ⟨hTL⟩ ⟨hTK⟩ (beq_eq_false_iff_ne.mpr c5)
        · rw [if_pos rfl]
          by_cases c5 : (p1.taken (pickN A x.n : Int)).1.st = 2
          · rw [if_pos c5]
            exact step_tell4 w W B x kind P A hk hP hA ⟨h⟩ p p1 v a ⟨t1, t2, t3, t4, t5⟩ (p.r, p.n) c2 hw ha hb ⟨hTL⟩ ⟨hTK⟩ (beq_iff_eq.mpr c5) ⟨hs⟩
          · rw [if_neg c5]
            exact step_tell3 w W B x kind P A hk hP hA ⟨h⟩ p p1 v a ⟨t1, t2, t3, t4, t5⟩ (p.r, p.n) c2 hw ha hb ⟨hTL⟩ ⟨hTK⟩ (beq_eq_false_iff_ne.mpr c5)

theorem pickN_id (k n : Nat) (h : k < n) : pickN (k : Int) n = k := by
  unfold pickN
  rw [if_neg (by omega), ← Int.natCast_emod, Nat.mod_eq_of_lt h]
  rfl
theorem bcnt_nodes (n : Nat) (h : n ≤ 7) : bcnt (nodesB n) = n := by
  match n, h with
  | 0, _ | 1, _ | 2, _ | 3, _ | 4, _ | 5, _ | 6, _ | 7, _ => rfl
theorem bhas_nodes (n k : Nat) (h : k < n) (h7 : n ≤ 7) : bhas (nodesB n) (k : Int) = true := by
  unfold bhas
  rw [show ((k : Int)).toNat = k from rfl, (nodesB_at n k).2 ⟨by omega, h⟩]
  simp only [Bool.and_true, decide_eq_true_eq]
  omega
theorem getD_set_ne_b (l : List Bool) (k j : Nat) (h : j ≠ k) : (l.set k true).getD j false = l.getD j false := by
  rw [List.getD_eq_getElem?_getD, List.getElem?_set_ne (Ne.symm h), List.getD_eq_getElem?_getD]
theorem accP_up {T : Int} {a : AcS} (h : AccP a.a a.b a.c a.d a.s) (hc : a.c < T) (hR : RightP T 1) : AccP T 1 a.c a.d a.s := by
  obtain ⟨h1, h2, h3, h4, h5⟩ := h
  exact ⟨.inl hR, by unfold LessP; omega, h3, h4, h5⟩
/-- While proposer 1 asks: k acceptors have promised. -/
structure EndA (n : Nat) (T : Int) (k : Nat) (x : PxS) (p : PrS) : Prop where
  xn : x.n = n
  w : x.who[1]? = some (some p)
  pr : p.r = T ∧ p.n = 1 ∧ p.nodes = nodesB n ∧ p.st = 0 ∧ p.cntd = noneB
  pl : p.prom.length = 7
  pc : bcnt p.prom = k
  pz : ∀ j, k ≤ j → p.prom.getD j false = false
  bs : p.best.s.size ≤ 100000
  al : x.acc.length = n
  lo : ∀ (j : Nat) (a : AcS), x.acc[j]? = some a → a.c < T ∧ AccP a.a a.b a.c a.d a.s ∧ (j < k → a.a = T ∧ a.b = 1) ∧ (k ≤ j → a.a < T)
theorem EndA.start {x : PxS} {vt : Nat → Int → Prop} {pv : Int → Option ByteArray} (h : PaxI x vt pv) : EndA x.n (x.top + 1) 0 (x.begin 1) (prNew (x.top + 1) 1 (nodesB x.n)) := by
  refine ⟨rfl, by show (x.who.set 1 _)[1]? = _; rw [List.getElem?_set_self (by rw [h.lW]; decide)]; rfl, ⟨rfl, rfl, rfl, rfl, rfl⟩, rfl, rfl, fun j _ => noneB_at j, by show (0 : Nat) ≤ 100000; omega, h.lA, ?_⟩
  intro j a ha
  obtain ⟨h1, h2, h3, h4, h5, h6⟩ := h.acc j a ha
  exact ⟨by omega, h6, fun h => by omega, fun _ => by omega⟩
theorem EndA.step {n : Nat} {T : Int} {k : Nat} {x : PxS} {p : PrS} (h : EndA n T k x p) (hn : n ≤ 7) (hk : k < n) (hT : 1 ≤ T ∧ T ≤ 9007199254740991) : ∃ p', EndA n T (k + 1) (x.stepF 1 1 (k : Int)) p' := by
  obtain ⟨e1, e2, e3, e4, e5⟩ := h.pr
  have hR : RightP T 1 := ⟨hT.1, hT.2, by decide, by decide⟩
  obtain ⟨a, ha⟩ : ∃ a, x.acc[k]? = some a := ⟨_, List.getElem?_eq_getElem (by rw [h.al]; exact hk)⟩
  obtain ⟨c1, c2, _, c4⟩ := h.lo k a ha
  have c4 := c4 (Nat.le_refl _)
  have hlen : 1 < x.who.length := (List.getElem?_eq_some_iff.1 h.w).1
  have hAT := accP_up c2 c1 hR
  have hstep : x.stepF 1 1 (k : Int) = x.ask 1 k p a (T, 1) := by
    unfold PxS.stepF
    rw [if_neg (by decide), show pickN 1 3 = 1 from rfl, show x.who.getD 1 none = some p by rw [List.getD_eq_getElem?_getD, h.w]; rfl]
    dsimp only
    rw [if_pos rfl, h.xn, pickN_id k n hk, show x.acc.getD k AcS.zero = a by rw [List.getD_eq_getElem?_getD, ha]; rfl, e1, e2]
  have hprep : a.prep (T, 1) = (T, 1, a.c, a.d, a.s, true) := by
    unfold AcS.prep prepT
    rw [if_pos ⟨c2, hR, by show ¬ LessP T 1 a.a a.b; unfold LessP; omega⟩]
  have hz := h.pz k (Nat.le_refl _)
  have hprom : p.promise (k : Int) ⟨T, 1, a.c, a.d, a.s⟩ = ({ p with prom := p.prom.set k true, best := if LessP p.best.c p.best.d a.c a.d then ⟨T, 1, a.c, a.d, a.s⟩ else p.best }, true) := by
    unfold PrS.promise
    rw [if_pos ⟨e4, by rw [e3]; exact bhas_nodes n k hk hn, hz, hAT, e1.symm, e2.symm⟩]
    rfl
  rw [hstep]
  unfold PxS.ask
  rw [hprep, if_pos rfl, show AcS.of (T, 1, a.c, a.d, a.s, true) = ⟨T, 1, a.c, a.d, a.s⟩ from rfl, hprom]
  refine ⟨{ p with prom := p.prom.set k true, best := if LessP p.best.c p.best.d a.c a.d then ⟨T, 1, a.c, a.d, a.s⟩ else p.best }, h.xn, by show (x.who.set 1 _)[1]? = _; rw [List.getElem?_set_self hlen], ⟨e1, e2, e3, e4, e5⟩, by show (p.prom.set k true).length = 7; rw [List.length_set]; exact h.pl, by show bcnt (p.prom.set k true) = k + 1; rw [bcnt_set hz (by rw [h.pl]; omega), h.pc], fun j hj => by show (p.prom.set k true).getD j false = false; rw [getD_set_ne_b _ _ _ (by omega)]; exact h.pz j (by omega), ?_, by show (x.acc.set k _).length = n; rw [List.length_set]; exact h.al, ?_⟩
  · dsimp only
    split
    · have := c2.2.2.1
      dsimp only
      omega
    · exact h.bs
  · intro j b hb
    rcases set_at hb with ⟨rfl, rfl⟩ | ⟨hj, hb2⟩
    · exact ⟨c1, hAT, fun _ => ⟨rfl, rfl⟩, fun h => by omega⟩
    · obtain ⟨d1, d2, d3, d4⟩ := h.lo j b hb2
      exact ⟨d1, d2, fun h => d3 (by omega), fun h => d4 (by omega)⟩
/-- While proposer 1 tells: k acceptors have taken. -/
structure EndB (n : Nat) (T : Int) (k : Nat) (x : PxS) (p : PrS) : Prop where
  xn : x.n = n
  w : x.who[1]? = some (some p)
  pr : p.r = T ∧ p.n = 1 ∧ p.nodes = nodesB n
  st : (k = 0 ∧ p.st = 0 ∧ bcnt p.prom = n ∧ p.best.s.size ≤ 100000) ∨ ((p.st = 1 ∨ p.st = 2) ∧ p.val.size ≤ 100000 ∧ (n < 2 * k → p.st = 2))
  cl : p.cntd.length = 7
  cc : bcnt p.cntd = k
  cz : ∀ j, k ≤ j → p.cntd.getD j false = false
  al : x.acc.length = n
  hi : ∀ (j : Nat) (a : AcS), x.acc[j]? = some a → k ≤ j → a.a = T ∧ a.b = 1 ∧ a.c < T ∧ AccP a.a a.b a.c a.d a.s
theorem EndA.toB {n : Nat} {T : Int} {x : PxS} {p : PrS} (h : EndA n T n x p) : EndB n T 0 x p := by
  obtain ⟨e1, e2, e3, e4, e5⟩ := h.pr
  refine ⟨h.xn, h.w, ⟨e1, e2, e3⟩, .inl ⟨rfl, e4, h.pc, h.bs⟩, by rw [e5]; rfl, by rw [e5]; rfl, fun j _ => by rw [e5]; exact noneB_at j, h.al, ?_⟩
  intro j a ha _
  obtain ⟨c1, c2, c3, _⟩ := h.lo j a ha
  obtain ⟨c5, c6⟩ := c3 (by rw [← h.al]; exact (List.getElem?_eq_some_iff.1 ha).1)
  exact ⟨c5, c6, c1, c2⟩
theorem EndB.step {n : Nat} {T : Int} {k : Nat} {x : PxS} {p : PrS} (h : EndB n T k x p) (hn : n ≤ 7) (hk : k < n) (hT : 1 ≤ T ∧ T ≤ 9007199254740991) : ∃ p', EndB n T (k + 1) (x.stepF 2 1 (k : Int)) p' := by
  obtain ⟨e1, e2, e3⟩ := h.pr
  have hR : RightP T 1 := ⟨hT.1, hT.2, by decide, by decide⟩
  obtain ⟨a, ha⟩ : ∃ a, x.acc[k]? = some a := ⟨_, List.getElem?_eq_getElem (by rw [h.al]; exact hk)⟩
  obtain ⟨c1, c2, c3, c4⟩ := h.hi k a ha (Nat.le_refl _)
  have hlen : 1 < x.who.length := (List.getElem?_eq_some_iff.1 h.w).1
  have hstep : x.stepF 2 1 (k : Int) = x.tell 1 k p a (T, 1) := by
    unfold PxS.stepF
    rw [if_neg (by decide), show pickN 1 3 = 1 from rfl, show x.who.getD 1 none = some p by rw [List.getD_eq_getElem?_getD, h.w]; rfl]
    dsimp only
    rw [if_neg (by decide), h.xn, pickN_id k n hk, show x.acc.getD k AcS.zero = a by rw [List.getD_eq_getElem?_getD, ha]; rfl, e1, e2]
  have hbn : bcnt p.nodes = n := by rw [e3]; exact bcnt_nodes n hn
  obtain ⟨q, v, ht, q1, q2, q3, q4, q5, q6, q7⟩ : ∃ (q : PrS) (v : ByteArray), p.tell (ownB 1) = (q, v, 0) ∧ q.val = v ∧ v.size ≤ 100000 ∧ (q.st = 1 ∨ q.st = 2) ∧ (n < 2 * k → q.st = 2) ∧ q.r = T ∧ (q.n = 1 ∧ q.nodes = p.nodes) ∧ q.cntd = p.cntd := by
    rcases h.st with ⟨k0, s0, m0, b0⟩ | ⟨s1, s2, s3⟩
    · have hsz : (p.tellV (ownB 1)).size ≤ 100000 := by
        unfold PrS.tellV
        split
        · decide
        · exact b0
      refine ⟨{ p with st := 1, val := p.tellV (ownB 1) }, p.tellV (ownB 1), ?_, rfl, hsz, .inl rfl, fun hh => by omega, e1, ⟨e2, rfl⟩, rfl⟩
      unfold PrS.tell
      rw [if_neg (by omega), if_neg (by rw [m0, hbn]; omega), if_neg (by omega)]
    · refine ⟨p, p.val, ?_, rfl, s2, s1, s3, e1, ⟨e2, rfl⟩, rfl⟩
      unfold PrS.tell
      rw [if_pos (by omega)]
  have htake : a.take (T, 1) v = (T, 1, T, 1, v, true) := by
    unfold AcS.take takeT
    rw [if_pos ⟨c4, hR, by show ¬ LessP T 1 a.a a.b; unfold LessP; omega, by omega, fun hh => by dsimp only at hh; omega⟩]
  have hz : q.cntd.getD k false = false := by rw [q7]; exact h.cz k (Nat.le_refl _)
  have htk : q.taken (k : Int) = ({ q with cntd := q.cntd.set k true, st := if q.st = 1 ∧ n < 2 * (k + 1) then 2 else q.st }, true) := by
    unfold PrS.taken
    rw [if_pos ⟨q3, by rw [q6.2, e3]; exact bhas_nodes n k hk hn, hz⟩, q6.2, hbn, q7, h.cc]
    rfl
  rw [hstep]
  unfold PxS.tell
  rw [ht]
  dsimp only
  rw [if_neg (by simp), htake, if_pos rfl, htk]
  unfold PxS.end_
  refine ⟨{ q with cntd := q.cntd.set k true, st := if q.st = 1 ∧ n < 2 * (k + 1) then 2 else q.st }, h.xn, by show (x.who.set 1 _)[1]? = _; rw [List.getElem?_set_self hlen], ⟨q5, q6.1, q6.2.trans e3⟩, .inr ⟨?_, by show q.val.size ≤ 100000; rw [q1]; exact q2, ?_⟩, by show (q.cntd.set k true).length = 7; rw [List.length_set, q7]; exact h.cl, by show bcnt (q.cntd.set k true) = k + 1; rw [bcnt_set hz (by rw [q7, h.cl]; omega), q7, h.cc], fun j hj => by show (q.cntd.set k true).getD j false = false; rw [getD_set_ne_b _ _ _ (by omega), q7]; exact h.cz j (by omega), by show (x.acc.set k _).length = n; rw [List.length_set]; exact h.al, ?_⟩
  · dsimp only
    split
    · exact .inr rfl
    · exact q3
  · intro hh
    dsimp only
    split
    · rfl
    · rcases q3 with q3 | q3
      · rename_i hne
        exact absurd ⟨q3, hh⟩ hne
      · exact q3
  · intro j b hb hj
    rcases set_at hb with ⟨rfl, _⟩ | ⟨_, hb2⟩
    · omega
    · exact h.hi j b hb2 (by omega)
theorem PxS.stepF_said (x : PxS) (kind P A : Int) (s : ByteArray) (h : s ∈ x.said) : s ∈ (x.stepF kind P A).said := by
  unfold PxS.stepF
  split
  · exact h
  · split
    · exact h
    · split
      · unfold PxS.ask
        split
        · exact h
        · exact h
      · unfold PxS.tell PxS.end_
        split
        · exact h
        · split
          · dsimp only
            split
            · exact List.mem_append_left _ h
            · exact h
          · dsimp only
            split
            · exact List.mem_append_left _ h
            · exact h
/-- What proposer 1 has decided is what was said before. -/
theorem PaxI.decided {x : PxS} (h : ∃ vt pv, PaxI x vt pv) {i : Nat} {p : PrS} (hp : x.who[i]? = some (some p)) (hs : p.st = 2) {s : ByteArray} (hm : s ∈ x.said) : p.val = s := by
  obtain ⟨vt, pv, h⟩ := h
  exact (h.say hp hs).one (by show p.val ∈ x.said ++ [p.val]; simp) (by show s ∈ x.said ++ [p.val]; simp [hm])

end Go.Proofs.YtnmcknfkmelnbaaDoor.P
