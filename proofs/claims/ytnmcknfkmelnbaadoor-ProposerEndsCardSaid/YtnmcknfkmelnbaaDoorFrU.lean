import Derived.Test.YtnmcknfkmelnbaaDoorPlainX
import Derived.Test.YtnmcknfkmelnbaaDoorWalkT
import Derived.Outline
import Derived.Laws.BitsAllLaws
import Derived.WalkSpells
import Derived.StillTailTactics
namespace Go.Proofs.YtnmcknfkmelnbaaDoor.P
open Go.RowKit Go.Proofs.YtnmcknfkmelnbaaDoorW.PrintWords Go.Proofs.YtnmcknfkmelnbaaDoorW.PrintLast Go.Proofs.YtnmcknfkmelnbaaDoorW.PrintMore
attribute [local go_sem] max2_int min2_int max_two min_two max_three min_three max_four min_four
set_option linter.unusedVariables false
set_option linter.unusedSimpArgs false
/-! ### A play of proposers, in memory -/
structure PxB where
  gx : Nat
  ga : Nat
  gw : Nat
  gb : Nat
  go : Nat
  gs : List (Option Nat)
  vs : Value
  gf : Nat
  fs : Array Value
def PxB.ke (B : PxB) : Nat × Nat × Array Value := (B.gx, B.gf, B.fs)
def ptrV : Option Nat → Value
  | none => .pointer none
  | some g => .pointer (some ⟨g, 0, none⟩)
def acCells (a : AcS) : List Value := [.int .i64 a.a, .int .i64 a.b, .int .i64 a.c, .int .i64 a.d, .string a.s]
def accCells (l : List AcS) : List Value := l.flatMap acCells
def bbCells (l : List (Int × Int)) : List Value := l.flatMap fun b => [.int .i64 b.1, .int .i64 b.2]
theorem flat_at {α : Type} (f : α → List Value) (m : Nat) (hf : ∀ a, (f a).length = m) (l : List α) (k : Nat) (a : α) (h : l[k]? = some a) (j : Nat) (hj : j < m) : (l.flatMap f)[k * m + j]? = (f a)[j]? := by
  induction l generalizing k with
  | nil => simp at h
  | cons b l ih =>
    cases k with
    | zero =>
      simp only [List.getElem?_cons_zero, Option.some.injEq] at h
      subst h
      rw [List.flatMap_cons, Nat.zero_mul, Nat.zero_add, List.getElem?_append_left (by rw [hf]; exact hj)]
    | succ k =>
      simp only [List.getElem?_cons_succ] at h
      rw [List.flatMap_cons, List.getElem?_append_right (by rw [hf, Nat.succ_mul]; omega), hf, show (k + 1) * m + j - m = k * m + j by rw [Nat.succ_mul]; omega]
      exact ih k h
theorem flat_set {α : Type} (f : α → List Value) (m : Nat) (hf : ∀ a, (f a).length = m) (l : List α) (k : Nat) (a b : α) (h : l[k]? = some a) (j : Nat) (u : Value) (hj : j < m) (he : (f a).set j u = f b) : (l.flatMap f).set (k * m + j) u = (l.set k b).flatMap f := by
  induction l generalizing k with
  | nil => simp at h
  | cons c l ih =>
    cases k with
    | zero =>
      simp only [List.getElem?_cons_zero, Option.some.injEq] at h
      subst h
      rw [List.flatMap_cons, List.set_cons_zero, List.flatMap_cons, Nat.zero_mul, Nat.zero_add, List.set_append_left _ _ (by rw [hf]; exact hj), he]
    | succ k =>
      simp only [List.getElem?_cons_succ] at h
      rw [List.flatMap_cons, List.set_cons_succ, List.flatMap_cons, List.set_append_right _ _ (by rw [hf, Nat.succ_mul]; omega), hf, show (k + 1) * m + j - m = k * m + j by rw [Nat.succ_mul]; omega, ih k h]
structure PxIs (w W : World) (B : PxB) (x : PxS) : Prop where
  X : W.heap[B.gx]? = some (.cells #[.int .i64 (x.n : Int), .slice (some ⟨B.ga, 0, none⟩) x.n x.n, .int .i64 x.top, .slice (some ⟨B.gw, 0, none⟩) 3 3, .slice (some ⟨B.gb, 0, none⟩) 3 3, .slice (some ⟨B.go, 0, none⟩) 3 3, B.vs] 61 (0, 0))
  A : W.heap[B.ga]? = some (.cells (accCells x.acc).toArray 34 (0, 0))
  Wh : W.heap[B.gw]? = some (.cells (B.gs.map ptrV).toArray 27 (0, 0))
  Bb : W.heap[B.gb]? = some (.cells (bbCells x.bb).toArray 23 (0, 0))
  O : W.heap[B.go]? = some (.cells #[.string redB, .string greenB, .string blueB] 9 (0, 0))
  F : W.heap[B.gf]? = some (.cells B.fs 9 (0, 0))
  S : Kd.R Kd.string 9 W w.heap.size (fun k => k ≠ B.go ∧ k ≠ B.gf) B.vs x.said
  lg : B.gs.length = 3
  lw : x.who.length = 3
  lb : x.bb.length = 3
  la : x.acc.length = x.n
  n7 : 1 ≤ x.n ∧ x.n ≤ 7
  P : ∀ (i : Nat) (g : Nat), B.gs[i]? = some (some g) → w.heap.size ≤ g ∧ ∃ p, x.who[i]? = some (some p) ∧ PrIs W g p
  Pn : ∀ (i : Nat), B.gs[i]? = some none → x.who[i]? = some none
  inj : ∀ (i j : Nat) (g : Nat), B.gs[i]? = some (some g) → B.gs[j]? = some (some g) → i = j
  T : TabOk W
  Bl : Below w.heap.size w W
  ge : w.heap.size ≤ B.gx ∧ w.heap.size ≤ B.ga ∧ w.heap.size ≤ B.gw ∧ w.heap.size ≤ B.gb ∧ w.heap.size ≤ B.go ∧ 0 < w.heap.size
namespace PxIs
variable {w W W' : World} {B : PxB} {x : PxS}
theorem below (h : PxIs w W B x) (hb : Below W.heap.size W W') : PxIs w W' B x :=
  ⟨blk_below h.X hb, blk_below h.A hb, blk_below h.Wh hb, blk_below h.Bb hb, blk_below h.O hb, blk_below h.F hb, Kd.R_below h.S hb, h.lg, h.lw, h.lb, h.la, h.n7, fun i g hg => ⟨(h.P i g hg).1, (h.P i g hg).2.imp fun p hp => ⟨hp.1, hp.2.below hb⟩⟩, h.Pn, h.inj, h.T.below hb, h.Bl.trans (hb.mono h.Bl.size), h.ge⟩
theorem alloc (h : PxIs w W B x) (o : Obj) : PxIs w (W.alloc o) B x := h.below (below_alloc (Below.refl _ _) o)
theorem drew (h : PxIs w W B x) : PxIs w W.drew B x := h.below (below_drew (Below.refl _ _))
theorem drewN (h : PxIs w W B x) (n : Nat) : PxIs w (W.drewN n) B x := h.below (pw_below_drewN (Below.refl _ _) n)
/-- Where a call has written blocks that are none of the play's. -/
theorem away (h : PxIs w W B x) {S : Nat → Prop} (ho : Only W W' S) (hS : ∀ i, S i → w.heap.size ≤ i) (h1 : ¬ S B.gx) (h2 : ¬ S B.ga) (h3 : ¬ S B.gw) (h4 : ¬ S B.gb) (h5 : ¬ S B.go) (h6 : ∀ k, B.vs.ownBlock = some k → ¬ S k) (h7 : ∀ (i g : Nat), B.gs[i]? = some (some g) → ¬ S g) (h8 : ¬ S B.gf) : PxIs w W' B x :=
  ⟨ho.blk h.X h1, ho.blk h.A h2, ho.blk h.Wh h3, ho.blk h.Bb h4, ho.blk h.O h5, ho.blk h.F h8, by
    have := Kd.R_step (w1 := W') (Kd.R_tight rfl h.S) (fun k hk hlt => ho.block k hlt (h6 k hk.symm))
    exact Kd.R_mono this (fun k hk => h.S.1 k hk.symm), h.lg, h.lw, h.lb, h.la, h.n7, fun i g hg => ⟨(h.P i g hg).1, (h.P i g hg).2.imp fun p hp => ⟨hp.1, hp.2.only ho (h7 i g hg)⟩⟩, h.Pn, h.inj, ho.tab h.T (fun h0 => by have := hS 0 h0; have := h.ge; omega), h.Bl.trans (ho.below h.Bl.size hS), h.ge⟩
theorem neT {g t : Nat} {C : Array Value} (h : PxIs w W B x) (hb : W.heap[g]? = some (.cells C t (0, 0))) (ht : t ≠ 9) : B.vs.ownBlock ≠ some g := fun e => Kd.R_ne h.S hb (Ne.symm ht) e.symm
/-- A box that is none of the play's: its number is past all. -/
theorem box (h : PxIs w W B x) {b : Nat} (hb : b = W.heap.size) : b ≠ B.gx ∧ b ≠ B.ga ∧ b ≠ B.gw ∧ b ≠ B.gb ∧ b ≠ B.go ∧ B.vs.ownBlock ≠ some b ∧ (∀ (i : Nat), B.gs[i]? ≠ some (some b)) ∧ w.heap.size ≤ b := by
  subst hb
  refine ⟨Nat.ne_of_gt (blk_lt h.X), Nat.ne_of_gt (blk_lt h.A), Nat.ne_of_gt (blk_lt h.Wh), Nat.ne_of_gt (blk_lt h.Bb), Nat.ne_of_gt (blk_lt h.O), fun e => ?_, fun i e => ?_, h.Bl.size⟩
  · exact Nat.lt_irrefl _ (Kd.R_lt h.S _ e)
  · obtain ⟨p, _, hp⟩ := (h.P i _ e).2
    exact Nat.lt_irrefl _ hp.lt
end PxIs
namespace PxIs
variable {w W W' : World} {B : PxB} {x : PxS}
theorem ptr_at (h : PxIs w W B x) (i : Nat) (hi : i < 3) : W.cell? ⟨B.gw, i, none⟩ = some (ptrV (B.gs.getD i none)) := by
  rw [blk_cell h.Wh i]
  have : i < B.gs.length := by rw [h.lg]; exact hi
  simp [List.getElem?_eq_getElem this, List.getD_eq_getElem?_getD]
theorem gs_at (h : PxIs w W B x) (i : Nat) (hi : i < 3) : B.gs[i]? = some (B.gs.getD i none) := by
  have : i < B.gs.length := by rw [h.lg]; exact hi
  simp [List.getElem?_eq_getElem this, List.getD_eq_getElem?_getD]
theorem bb_at (h : PxIs w W B x) (i : Nat) (b : Int × Int) (hb : x.bb[i]? = some b) : W.cell? ⟨B.gb, i * 2, none⟩ = some (.int .i64 b.1) ∧ W.cell? ⟨B.gb, i * 2 + 1, none⟩ = some (.int .i64 b.2) := by
  have e := fun j (hj : j < 2) => flat_at (fun b : Int × Int => [Value.int .i64 b.1, Value.int .i64 b.2]) 2 (fun _ => rfl) x.bb i b hb j hj
  refine ⟨(blk_cell h.Bb _).trans ?_, (blk_cell h.Bb _).trans ?_⟩
  · rw [List.getElem?_toArray]; exact e 0 (by decide)
  · rw [List.getElem?_toArray]; exact e 1 (by decide)
theorem acc_at (h : PxIs w W B x) (k : Nat) (a : AcS) (ha : x.acc[k]? = some a) : W.cell? ⟨B.ga, k * 5, none⟩ = some (.int .i64 a.a) ∧ W.cell? ⟨B.ga, k * 5 + 1, none⟩ = some (.int .i64 a.b) ∧ W.cell? ⟨B.ga, k * 5 + 2, none⟩ = some (.int .i64 a.c) ∧ W.cell? ⟨B.ga, k * 5 + 3, none⟩ = some (.int .i64 a.d) ∧ W.cell? ⟨B.ga, k * 5 + 4, none⟩ = some (.string a.s) := by
  have e := fun j (hj : j < 5) => flat_at acCells 5 (fun _ => rfl) x.acc k a ha j hj
  have e2 : ∀ j, j < 5 → (accCells x.acc).toArray[k * 5 + j]? = (acCells a)[j]? := fun j hj => by rw [List.getElem?_toArray]; exact e j hj
  exact ⟨(blk_cell h.A _).trans (e2 0 (by decide)), (blk_cell h.A _).trans (e2 1 (by decide)), (blk_cell h.A _).trans (e2 2 (by decide)), (blk_cell h.A _).trans (e2 3 (by decide)), (blk_cell h.A _).trans (e2 4 (by decide))⟩
theorem who_at (h : PxIs w W B x) (i : Nat) (g : Nat) (hg : B.gs.getD i none = some g) (hi : i < 3) : w.heap.size ≤ g ∧ ∃ p, x.who[i]? = some (some p) ∧ PrIs W g p := h.P i g (by rw [h.gs_at i hi, hg])
/-- The blocks of a play are apart, by their types. -/
theorem ne_all (h : PxIs w W B x) : B.gx ≠ B.ga ∧ B.gx ≠ B.gw ∧ B.gx ≠ B.gb ∧ B.gx ≠ B.go ∧ B.ga ≠ B.gw ∧ B.ga ≠ B.gb ∧ B.ga ≠ B.go ∧ B.gw ≠ B.gb ∧ B.gw ≠ B.go ∧ B.gb ≠ B.go ∧ B.gx ≠ B.gf ∧ B.ga ≠ B.gf ∧ B.gw ≠ B.gf ∧ B.gb ≠ B.gf :=
  ⟨blk_ne h.X h.A (by decide), blk_ne h.X h.Wh (by decide), blk_ne h.X h.Bb (by decide), blk_ne h.X h.O (by decide), blk_ne h.A h.Wh (by decide), blk_ne h.A h.Bb (by decide), blk_ne h.A h.O (by decide), blk_ne h.Wh h.Bb (by decide), blk_ne h.Wh h.O (by decide), blk_ne h.Bb h.O (by decide), blk_ne h.X h.F (by decide), blk_ne h.A h.F (by decide), blk_ne h.Wh h.F (by decide), blk_ne h.Bb h.F (by decide)⟩
theorem gs_ne (h : PxIs w W B x) {b t : Nat} {C : Array Value} (hb : W.heap[b]? = some (.cells C t (0, 0))) (ht : t ≠ 68) (i g : Nat) (hg : B.gs[i]? = some (some g)) : g ≠ b := by
  obtain ⟨_, p, _, hp⟩ := h.P i g hg
  exact blk_ne hp.blk hb (Ne.symm ht)
theorem setAcc (h : PxIs w W B x) (k : Nat) (a a' : AcS) (ha : x.acc[k]? = some a) : PxIs w (((((W.setCell ⟨B.ga, k * 5, none⟩ (.int .i64 a'.a)).setCell ⟨B.ga, k * 5 + 1, none⟩ (.int .i64 a'.b)).setCell ⟨B.ga, k * 5 + 2, none⟩ (.int .i64 a'.c)).setCell ⟨B.ga, k * 5 + 3, none⟩ (.int .i64 a'.d)).setCell ⟨B.ga, k * 5 + 4, none⟩ (.string a'.s)) B { x with acc := x.acc.set k a' } := by
  have ho : Only W (((((W.setCell ⟨B.ga, k * 5, none⟩ (.int .i64 a'.a)).setCell ⟨B.ga, k * 5 + 1, none⟩ (.int .i64 a'.b)).setCell ⟨B.ga, k * 5 + 2, none⟩ (.int .i64 a'.c)).setCell ⟨B.ga, k * 5 + 3, none⟩ (.int .i64 a'.d)).setCell ⟨B.ga, k * 5 + 4, none⟩ (.string a'.s)) (· = B.ga) := (((((Only.refl W _).set_ _ _).set_ _ _).set_ _ _).set_ _ _).set_ _ _
  have hA : (((((W.setCell ⟨B.ga, k * 5, none⟩ (.int .i64 a'.a)).setCell ⟨B.ga, k * 5 + 1, none⟩ (.int .i64 a'.b)).setCell ⟨B.ga, k * 5 + 2, none⟩ (.int .i64 a'.c)).setCell ⟨B.ga, k * 5 + 3, none⟩ (.int .i64 a'.d)).setCell ⟨B.ga, k * 5 + 4, none⟩ (.string a'.s)).heap[B.ga]? = some (.cells (accCells (x.acc.set k a')).toArray 34 (0, 0)) := by
    rw [blk_set (blk_set (blk_set (blk_set (blk_set h.A _ _) _ _) _ _) _ _) _ _]
    have hl : k < x.acc.length := (List.getElem?_eq_some_iff.1 ha).1
    have s : ∀ (l : List AcS) (c c' : AcS) (j : Nat) (u : Value), l[k]? = some c → j < 5 → (acCells c).set j u = acCells c' → (accCells l).toArray.setIfInBounds (k * 5 + j) u = (accCells (l.set k c')).toArray := by
      intro l c c' j u hc hj he
      rw [List.setIfInBounds_toArray]
      exact congrArg List.toArray (flat_set acCells 5 (fun _ => rfl) l k c c' hc j u hj he)
    have e0 := s x.acc a { a with a := a'.a } 0 (.int .i64 a'.a) ha (by decide) rfl
    rw [Nat.add_zero] at e0
    rw [e0]
    have g1 : ∀ c : AcS, (x.acc.set k c)[k]? = some c := fun c => by rw [List.getElem?_set_self hl]
    rw [s _ { a with a := a'.a } { a with a := a'.a, b := a'.b } 1 (.int .i64 a'.b) (g1 _) (by decide) rfl, List.set_set]
    rw [s _ { a with a := a'.a, b := a'.b } { a with a := a'.a, b := a'.b, c := a'.c } 2 (.int .i64 a'.c) (g1 _) (by decide) rfl, List.set_set]
    rw [s _ { a with a := a'.a, b := a'.b, c := a'.c } { a with a := a'.a, b := a'.b, c := a'.c, d := a'.d } 3 (.int .i64 a'.d) (g1 _) (by decide) rfl, List.set_set]
    rw [s _ { a with a := a'.a, b := a'.b, c := a'.c, d := a'.d } a' 4 (.string a'.s) (g1 _) (by decide) rfl, List.set_set]
  obtain ⟨n1, n2, n3, n4, n5, n6, n7, n8, n9, n10, n11, n12, n13, n14⟩ := h.ne_all
  have h2 := h.T
  have hT : TabOk _ := ho.tab h.T (by have := h.ge; omega)
  have hS := Kd.R_step (w1 := (((((W.setCell ⟨B.ga, k * 5, none⟩ (.int .i64 a'.a)).setCell ⟨B.ga, k * 5 + 1, none⟩ (.int .i64 a'.b)).setCell ⟨B.ga, k * 5 + 2, none⟩ (.int .i64 a'.c)).setCell ⟨B.ga, k * 5 + 3, none⟩ (.int .i64 a'.d)).setCell ⟨B.ga, k * 5 + 4, none⟩ (.string a'.s))) (Kd.R_tight rfl h.S) (fun k hk hlt => ho.block k hlt (fun e => h.neT h.A (by decide) (by rw [← e]; exact hk.symm)))
  exact ⟨ho.blk h.X n1, hA, ho.blk h.Wh (Ne.symm n5), ho.blk h.Bb (Ne.symm n6), ho.blk h.O (Ne.symm n7), ho.blk h.F (Ne.symm n12), Kd.R_mono hS (fun k hk => h.S.1 k hk.symm), h.lg, h.lw, h.lb, by show (x.acc.set k a').length = x.n; rw [List.length_set]; exact h.la, h.n7, fun i g hg => ⟨(h.P i g hg).1, (h.P i g hg).2.imp fun p hp => ⟨hp.1, hp.2.only ho (h.gs_ne h.A (by decide) i g hg)⟩⟩, h.Pn, h.inj, hT, h.Bl.trans (ho.below h.Bl.size (fun i hi => by have := h.ge; omega)), h.ge⟩
/-- One proposer's call. -/
theorem setPr (h : PxIs w W B x) (i g : Nat) (p : PrS) (hg : B.gs[i]? = some (some g)) (hP : PrIs W' g p) (ho : Only W W' (· = g)) : PxIs w W' B { x with who := x.who.set i (some p) } := by
  have hgg := (h.P i g hg).1
  obtain ⟨p0, hp0, hP0⟩ := (h.P i g hg).2
  have hi : i < 3 := by have := (List.getElem?_eq_some_iff.1 hp0).1; rw [h.lw] at this; exact this
  refine ⟨ho.blk h.X (fun e => h.gs_ne h.X (by decide) i g hg e.symm), ho.blk h.A (fun e => h.gs_ne h.A (by decide) i g hg e.symm), ho.blk h.Wh (fun e => h.gs_ne h.Wh (by decide) i g hg e.symm), ho.blk h.Bb (fun e => h.gs_ne h.Bb (by decide) i g hg e.symm), ho.blk h.O (fun e => h.gs_ne h.O (by decide) i g hg e.symm), ho.blk h.F (fun e => h.gs_ne h.F (by decide) i g hg e.symm), ?_, h.lg, by show (x.who.set i _).length = 3; rw [List.length_set]; exact h.lw, h.lb, h.la, h.n7, ?_, ?_, h.inj, ho.tab h.T (by have := h.ge; omega), h.Bl.trans (ho.below h.Bl.size (fun j hj => by omega)), h.ge⟩
  · have hS := Kd.R_step (w1 := W') (Kd.R_tight rfl h.S) (fun k hk hlt => ho.block k hlt (fun e => h.neT hP0.blk (by decide) (by rw [← e]; exact hk.symm)))
    exact Kd.R_mono hS (fun k hk => h.S.1 k hk.symm)
  · intro j g' hg'
    refine ⟨(h.P j g' hg').1, ?_⟩
    by_cases e : j = i
    · subst e
      rw [hg] at hg'
      injection hg' with hg'
      injection hg' with hg'
      subst hg'
      exact ⟨p, by show (x.who.set j _)[j]? = _; rw [List.getElem?_set_self (by rw [h.lw]; exact hi)], hP⟩
    · obtain ⟨q, hq, hQ⟩ := (h.P j g' hg').2
      exact ⟨q, by show (x.who.set i _)[j]? = _; rw [List.getElem?_set_ne (Ne.symm e)]; exact hq, hQ.only ho (fun e2 => e (h.inj j i g (by rw [hg', e2]) hg))⟩
  · intro j hj
    have e : j ≠ i := fun e => by subst e; rw [hg] at hj; cases hj
    show (x.who.set i _)[j]? = _
    rw [List.getElem?_set_ne (Ne.symm e)]
    exact h.Pn j hj
theorem setTop (h : PxIs w W B x) (t : Int) : PxIs w (W.setCell ⟨B.gx, 2, none⟩ (.int .i64 t)) B { x with top := t } := by
  have ho : Only W (W.setCell ⟨B.gx, 2, none⟩ (.int .i64 t)) (· = B.gx) := (Only.refl W _).set_ _ _
  obtain ⟨n1, n2, n3, n4, _, _, _, _, _, _, n11, _⟩ := h.ne_all
  have hS := Kd.R_step (w1 := W.setCell ⟨B.gx, 2, none⟩ (.int .i64 t)) (Kd.R_tight rfl h.S) (fun k hk hlt => ho.block k hlt (fun e => h.neT h.X (by decide) (by rw [← e]; exact hk.symm)))
  exact ⟨by rw [blk_set h.X]; rfl, ho.blk h.A (Ne.symm n1), ho.blk h.Wh (Ne.symm n2), ho.blk h.Bb (Ne.symm n3), ho.blk h.O (Ne.symm n4), ho.blk h.F (Ne.symm n11), Kd.R_mono hS (fun k hk => h.S.1 k hk.symm), h.lg, h.lw, h.lb, h.la, h.n7, fun i g hg => ⟨(h.P i g hg).1, (h.P i g hg).2.imp fun p hp => ⟨hp.1, hp.2.only ho (h.gs_ne h.X (by decide) i g hg)⟩⟩, h.Pn, h.inj, ho.tab h.T (by have := h.ge; omega), h.Bl.trans (ho.below h.Bl.size (fun i hi => by have := h.ge; omega)), h.ge⟩
theorem setBb (h : PxIs w W B x) (i : Nat) (b b' : Int × Int) (hb : x.bb[i]? = some b) : PxIs w ((W.setCell ⟨B.gb, i * 2, none⟩ (.int .i64 b'.1)).setCell ⟨B.gb, i * 2 + 1, none⟩ (.int .i64 b'.2)) B { x with bb := x.bb.set i b' } := by
  have ho : Only W ((W.setCell ⟨B.gb, i * 2, none⟩ (.int .i64 b'.1)).setCell ⟨B.gb, i * 2 + 1, none⟩ (.int .i64 b'.2)) (· = B.gb) := ((Only.refl W _).set_ _ _).set_ _ _
  obtain ⟨n1, n2, n3, n4, n5, n6, n7, n8, n9, n10, n11, n12, n13, n14⟩ := h.ne_all
  have hS := Kd.R_step (w1 := (W.setCell ⟨B.gb, i * 2, none⟩ (.int .i64 b'.1)).setCell ⟨B.gb, i * 2 + 1, none⟩ (.int .i64 b'.2)) (Kd.R_tight rfl h.S) (fun k hk hlt => ho.block k hlt (fun e => h.neT h.Bb (by decide) (by rw [← e]; exact hk.symm)))
  refine ⟨ho.blk h.X n3, ho.blk h.A n6, ho.blk h.Wh n8, ?_, ho.blk h.O (Ne.symm n10), ho.blk h.F (Ne.symm n14), Kd.R_mono hS (fun k hk => h.S.1 k hk.symm), h.lg, h.lw, by show (x.bb.set i b').length = 3; rw [List.length_set]; exact h.lb, h.la, h.n7, fun j g hg => ⟨(h.P j g hg).1, (h.P j g hg).2.imp fun p hp => ⟨hp.1, hp.2.only ho (h.gs_ne h.Bb (by decide) j g hg)⟩⟩, h.Pn, h.inj, ho.tab h.T (by have := h.ge; omega), h.Bl.trans (ho.below h.Bl.size (fun i hi => by have := h.ge; omega)), h.ge⟩
  rw [blk_set (blk_set h.Bb _ _) _ _]
  have hl : i < x.bb.length := (List.getElem?_eq_some_iff.1 hb).1
  have s : ∀ (l : List (Int × Int)) (c c' : Int × Int) (j : Nat) (u : Value), l[i]? = some c → j < 2 → ([Value.int .i64 c.1, Value.int .i64 c.2]).set j u = [Value.int .i64 c'.1, Value.int .i64 c'.2] → (bbCells l).toArray.setIfInBounds (i * 2 + j) u = (bbCells (l.set i c')).toArray := by
    intro l c c' j u hc hj he
    rw [List.setIfInBounds_toArray]
    exact congrArg List.toArray (flat_set (fun b : Int × Int => [Value.int .i64 b.1, Value.int .i64 b.2]) 2 (fun _ => rfl) l i c c' hc j u hj he)
  have e0 := s x.bb b (b'.1, b.2) 0 (.int .i64 b'.1) hb (by decide) rfl
  rw [Nat.add_zero] at e0
  rw [e0, s _ (b'.1, b.2) b' 1 (.int .i64 b'.2) (by rw [List.getElem?_set_self hl]) (by decide) rfl, List.set_set]
/-- A proposer that is new takes its place. -/
theorem setWho (h : PxIs w W B x) (i g : Nat) (p : PrS) (hi : i < 3) (hP : PrIs W g p) (hg : w.heap.size ≤ g) (hn : ∀ j : Nat, B.gs[j]? ≠ some (some g)) : PxIs w (W.setCell ⟨B.gw, i, none⟩ (.pointer (some ⟨g, 0, none⟩))) { B with gs := B.gs.set i (some g) } { x with who := x.who.set i (some p) } := by
  have ho : Only W (W.setCell ⟨B.gw, i, none⟩ (.pointer (some ⟨g, 0, none⟩))) (· = B.gw) := (Only.refl W _).set_ _ _
  obtain ⟨n1, n2, n3, n4, n5, n6, n7, n8, n9, n10, n11, n12, n13, n14⟩ := h.ne_all
  have hS := Kd.R_step (w1 := W.setCell ⟨B.gw, i, none⟩ (.pointer (some ⟨g, 0, none⟩))) (Kd.R_tight rfl h.S) (fun k hk hlt => ho.block k hlt (fun e => h.neT h.Wh (by decide) (by rw [← e]; exact hk.symm)))
  have hlg : i < B.gs.length := by rw [h.lg]; exact hi
  have hlw : i < x.who.length := by rw [h.lw]; exact hi
  refine ⟨ho.blk h.X n2, ho.blk h.A n5, ?_, ho.blk h.Bb (Ne.symm n8), ho.blk h.O (Ne.symm n9), ho.blk h.F (Ne.symm n13), Kd.R_mono hS (fun k hk => h.S.1 k hk.symm), by show (B.gs.set i _).length = 3; rw [List.length_set]; exact h.lg, by show (x.who.set i _).length = 3; rw [List.length_set]; exact h.lw, h.lb, h.la, h.n7, ?_, ?_, ?_, ho.tab h.T (by have := h.ge; omega), h.Bl.trans (ho.below h.Bl.size (fun i hi => by have := h.ge; omega)), h.ge⟩
  · show (W.setCell ⟨B.gw, i, none⟩ _).heap[B.gw]? = _
    rw [blk_set h.Wh]
    simp [List.map_set, ptrV]
  · intro j g' hg'
    rcases set_at (show (B.gs.set i (some g))[j]? = some (some g') from hg') with ⟨rfl, e⟩ | ⟨hj, hg2⟩
    · injection e with e
      subst e
      exact ⟨hg, p, by show (x.who.set j _)[j]? = _; rw [List.getElem?_set_self hlw], hP.only ho (blk_ne hP.blk h.Wh (by decide))⟩
    · obtain ⟨h1, q, hq, hQ⟩ := h.P j g' hg2
      exact ⟨h1, q, by show (x.who.set i _)[j]? = _; rw [List.getElem?_set_ne (Ne.symm hj)]; exact hq, hQ.only ho (blk_ne hQ.blk h.Wh (by decide))⟩
  · intro j hj
    rcases set_at (show (B.gs.set i (some g))[j]? = some none from hj) with ⟨_, e⟩ | ⟨hj', hg2⟩
    · cases e
    · show (x.who.set i _)[j]? = _
      rw [List.getElem?_set_ne (Ne.symm hj')]
      exact h.Pn j hg2
  · intro j l g' hj hl
    rcases set_at (show (B.gs.set i (some g))[j]? = some (some g') from hj) with ⟨rfl, e⟩ | ⟨hj', hj2⟩
    · injection e with e
      subst e
      rcases set_at (show (B.gs.set j (some g'))[l]? = some (some g') from hl) with ⟨rfl, _⟩ | ⟨_, hl2⟩
      · rfl
      · exact absurd hl2 (hn l)
    · rcases set_at (show (B.gs.set i (some g))[l]? = some (some g') from hl) with ⟨rfl, e⟩ | ⟨_, hl2⟩
      · injection e with e
        subst e
        exact absurd hj2 (hn j)
      · exact h.inj j l g' hj2 hl2
/-- A value is put behind the others: the row has grown, then the field is written. -/
theorem say (h : PxIs w W B x) (v1 : Value) (s : ByteArray) (hR : Kd.R Kd.string 9 W' w.heap.size (fun k => k ≠ B.go ∧ k ≠ B.gf) v1 (x.said ++ [s])) (hg : W.grownBy W' B.vs.ownBlock) : PxIs w (W'.setCell ⟨B.gx, 6, none⟩ v1) { B with vs := v1 } { x with said := x.said ++ [s] } := by
  have hne : ∀ {b t : Nat} {C : Array Value}, W.heap[b]? = some (.cells C t (0, 0)) → t ≠ 9 → W'.heap[b]? = some (.cells C t (0, 0)) := fun hb ht => blk_grown hb hg (fun e => h.neT hb ht e.symm)
  have hX := hne h.X (by decide)
  have hO : W'.heap[B.go]? = some (.cells #[.string redB, .string greenB, .string blueB] 9 (0, 0)) := blk_grown h.O hg (fun e => (h.S.1 _ e.symm).1 rfl)
  have hF : W'.heap[B.gf]? = some (.cells B.fs 9 (0, 0)) := blk_grown h.F hg (fun e => (h.S.1 _ e.symm).2 rfl)
  have hov : ∀ k, B.vs.ownBlock = some k → w.heap.size ≤ k := fun k hk => Kd.R_base h.S k hk
  have h1 : Only W W' (fun k => B.vs.ownBlock = some k) := ⟨hg.os, hg.tape, hg.output, hg.size, fun i hi hn => hg.block i hi (fun e => hn e.symm)⟩
  have ho : Only W' (W'.setCell ⟨B.gx, 6, none⟩ v1) (· = B.gx) := (Only.refl W' _).set_ _ _
  obtain ⟨n1, n2, n3, n4, n5, n6, n7, n8, n9, n10, n11, n12, n13, n14⟩ := h.ne_all
  have hT1 : TabOk W' := h1.tab h.T (fun e => by have := hov 0 e; have := h.ge; omega)
  have hS := Kd.R_step (w1 := W'.setCell ⟨B.gx, 6, none⟩ v1) (Kd.R_tight rfl hR) (fun k hk hlt => ho.block k hlt (fun e => Kd.R_ne hR hX (by decide) (by rw [← e]; exact hk)))
  exact ⟨by show (W'.setCell ⟨B.gx, 6, none⟩ v1).heap[B.gx]? = _; rw [blk_set hX]; rfl, ho.blk (hne h.A (by decide)) (Ne.symm n1), ho.blk (hne h.Wh (by decide)) (Ne.symm n2), ho.blk (hne h.Bb (by decide)) (Ne.symm n3), ho.blk hO (Ne.symm n4), ho.blk hF (Ne.symm n11), Kd.R_mono hS (fun k hk => hR.1 k hk.symm), h.lg, h.lw, h.lb, h.la, h.n7, fun i g hgi => by
    obtain ⟨h2, p, h3, h4⟩ := h.P i g hgi
    have h5 : PrIs W' g p := ⟨hne h4.blk (by decide), h4.l1, h4.l2, h4.l3⟩
    exact ⟨h2, p, h3, h5.only ho (blk_ne h5.blk hX (by decide))⟩, h.Pn, h.inj, ho.tab hT1 (by have := h.ge; omega), (h.Bl.trans (h1.below h.Bl.size hov)).trans (ho.below (Nat.le_trans h.Bl.size hg.size) (fun i hi => by have := h.ge; omega)), h.ge⟩
/-- Another block of strings, none of the play's, is kept beside it. -/
theorem frame (h : PxIs w W B x) {g : Nat} {cs : Array Value} (hb : W.heap[g]? = some (.cells cs 9 (0, 0))) (hne : B.vs.ownBlock ≠ some g) : PxIs w W { B with gf := g, fs := cs } x :=
  ⟨h.X, h.A, h.Wh, h.Bb, h.O, hb, ⟨fun k hk => ⟨(h.S.1 k hk).1, fun e => by subst e; exact hne hk⟩, h.S.2⟩, h.lg, h.lw, h.lb, h.la, h.n7, h.P, h.Pn, h.inj, h.T, h.Bl, h.ge⟩
end PxIs

end Go.Proofs.YtnmcknfkmelnbaaDoor.P
