import Derived.Test.YtnmcknfkmelnbaaDoorWalkH
import Derived.Test.YtnmcknfkmelnbaaDoorPx13
import Derived.Test.YtnmcknfkmelnbaaDoorPx14
import Derived.Test.YtnmcknfkmelnbaaDoorPx15
import Derived.Test.YtnmcknfkmelnbaaDoorPx17
import Derived.Test.YtnmcknfkmelnbaaDoorPx19
import Derived.Outline
import Derived.Laws.BitsAllLaws
import Derived.WalkSpells
import Derived.StillTailTactics
namespace Go.Proofs.YtnmcknfkmelnbaaDoor.P
open Go.RowKit Go.Proofs.YtnmcknfkmelnbaaDoorW.PrintWords Go.Proofs.YtnmcknfkmelnbaaDoorW.PrintLast Go.Proofs.YtnmcknfkmelnbaaDoorW.PrintMore
attribute [local go_sem] max2_int min2_int max_two min_two max_three min_three max_four min_four
set_option linter.unusedVariables false
set_option linter.unusedSimpArgs false
/-- The reference's proposer. -/
structure RfS where
  r : Int
  n : Int
  nodes : List Int
  prom : List Int
  best : AcS
  cntd : List Int
  st : Int
  val : ByteArray
def rfCells (q : RfS) (Vn Vp Vc : Value) : Array Value := #[.int .i64 q.r, .int .i64 q.n, Vn, Vp, .int .i64 q.best.a, .int .i64 q.best.b, .int .i64 q.best.c, .int .i64 q.best.d, .string q.best.s, Vc, .int .i64 q.st, .string q.val]
/-- It lies in block g; its rows are its own, from b on, apart. -/
structure RfIs (W : World) (b g : Nat) (q : RfS) (Vn Vp Vc : Value) : Prop where
  X : W.heap[g]? = some (.cells (rfCells q Vn Vp Vc) 48 (0, 0))
  N : Kd.R (Kd.int .i64) 3 W b (fun _ => True) Vn q.nodes
  P : Kd.R (Kd.int .i64) 3 W b (fun k => some k ≠ Vn.ownBlock) Vp q.prom
  C : Kd.R (Kd.int .i64) 3 W b (fun k => some k ≠ Vn.ownBlock ∧ some k ≠ Vp.ownBlock) Vc q.cntd
  ge : b ≤ g
theorem R_only {α : Type} {d : Kd α} {e : Nat} {W W' : World} {b : Nat} {ok S : Nat → Prop} {v : Value} {xs : List α} (hE : d.E = []) (h : d.R e W b ok v xs) (ho : Only W W' S) (hS : ∀ k, v.ownBlock = some k → ¬ S k) : d.R e W' b ok v xs :=
  Kd.R_mono (Kd.R_step (w1 := W') (Kd.R_tight hE h) (fun k hk hlt => ho.block k hlt (hS k hk.symm))) (fun k hk => h.1 k hk.symm)
namespace RfIs
variable {W W' : World} {b g : Nat} {q : RfS} {Vn Vp Vc : Value}
theorem below (h : RfIs W b g q Vn Vp Vc) (hb : Below W.heap.size W W') : RfIs W' b g q Vn Vp Vc :=
  ⟨blk_below h.X hb, Kd.R_below h.N hb, Kd.R_below h.P hb, Kd.R_below h.C hb, h.ge⟩
theorem drew (h : RfIs W b g q Vn Vp Vc) : RfIs W.drew b g q Vn Vp Vc := h.below (below_drew (Below.refl _ _))
theorem drewN (h : RfIs W b g q Vn Vp Vc) (n : Nat) : RfIs (W.drewN n) b g q Vn Vp Vc := h.below (pw_below_drewN (Below.refl _ _) n)
theorem away (h : RfIs W b g q Vn Vp Vc) {S : Nat → Prop} (ho : Only W W' S) (h1 : ¬ S g) (h2 : ∀ k, Vn.ownBlock = some k → ¬ S k) (h3 : ∀ k, Vp.ownBlock = some k → ¬ S k) (h4 : ∀ k, Vc.ownBlock = some k → ¬ S k) : RfIs W' b g q Vn Vp Vc :=
  ⟨ho.blk h.X h1, R_only rfl h.N ho h2, R_only rfl h.P ho h3, R_only rfl h.C ho h4, h.ge⟩
theorem neN (h : RfIs W b g q Vn Vp Vc) {i t : Nat} {C : Array Value} (hb : W.heap[i]? = some (.cells C t (0, 0))) (ht : t ≠ 3) : Vn.ownBlock ≠ some i ∧ Vp.ownBlock ≠ some i ∧ Vc.ownBlock ≠ some i :=
  ⟨fun e => Kd.R_ne h.N hb (Ne.symm ht) e.symm, fun e => Kd.R_ne h.P hb (Ne.symm ht) e.symm, fun e => Kd.R_ne h.C hb (Ne.symm ht) e.symm⟩
/-- A field of its block is written. -/
theorem set1 (h : RfIs W b g q Vn Vp Vc) (i : Nat) (u : Value) (q' : RfS) (hq : (rfCells q Vn Vp Vc).setIfInBounds i u = rfCells q' Vn Vp Vc) (h1 : q'.nodes = q.nodes) (h2 : q'.prom = q.prom) (h3 : q'.cntd = q.cntd) : RfIs (W.setCell ⟨g, i, none⟩ u) b g q' Vn Vp Vc := by
  have ho : Only W (W.setCell ⟨g, i, none⟩ u) (· = g) := (Only.refl W _).set_ _ _
  obtain ⟨n1, n2, n3⟩ := h.neN h.X (by decide)
  refine ⟨(blk_set h.X i u).trans (by rw [hq]), ?_, ?_, ?_, h.ge⟩
  · rw [h1]; exact R_only rfl h.N ho (fun k hk e => n1 (by rw [hk, e]))
  · rw [h2]; exact R_only rfl h.P ho (fun k hk e => n2 (by rw [hk, e]))
  · rw [h3]; exact R_only rfl h.C ho (fun k hk e => n3 (by rw [hk, e]))
/-- One has promised: its row has grown. -/
theorem grewP (h : RfIs W b g q Vn Vp Vc) {v1 : Value} {x : Int} (hR : Kd.R (Kd.int .i64) 3 W' b (fun k => some k ≠ Vn.ownBlock) v1 (q.prom ++ [x])) (hg : W.grownBy W' Vp.ownBlock) (hat : v1.ownBlock = Vp.ownBlock ∨ ∃ k, v1.ownBlock = some k ∧ W.heap.size ≤ k) :
    RfIs (W'.setCell ⟨g, 3, none⟩ v1) b g { q with prom := q.prom ++ [x] } Vn v1 Vc ∧ Only W (W'.setCell ⟨g, 3, none⟩ v1) (fun k => k = g ∨ Vp.ownBlock = some k) := by
  obtain ⟨n1, n2, n3⟩ := h.neN h.X (by decide)
  have h1 : Only W W' (fun k => Vp.ownBlock = some k) := ⟨hg.os, hg.tape, hg.output, hg.size, fun i hi hn => hg.block i hi (fun e => hn e.symm)⟩
  have ho : Only W' (W'.setCell ⟨g, 3, none⟩ v1) (· = g) := (Only.refl W' _).set_ _ _
  have hX := h1.blk h.X n2
  have hN := R_only rfl h.N h1 (fun k hk e => h.P.1 k e hk.symm)
  have hC := R_only rfl h.C h1 (fun k hk e => (h.C.1 k hk).2 e.symm)
  refine ⟨⟨(blk_set hX 3 v1).trans rfl, R_only rfl hN ho (fun k hk e => n1 (by rw [hk, e])), R_only rfl hR ho (fun k hk e => Kd.R_ne hR hX (by decide) (by rw [← e, hk])), ?_, h.ge⟩, ?_⟩
  · have h2 := R_only rfl hC ho (fun k hk e => n3 (by rw [hk, e]))
    refine ⟨fun k hk => ⟨(h2.1 k hk).1, fun e => ?_⟩, (Kd.R_bound h2).2⟩
    rcases hat with hat | ⟨j, hj, hjl⟩
    · exact (h.C.1 k hk).2 (by rw [← hat]; exact e)
    · have := Kd.R_lt h.C k hk
      rw [hj] at e
      injection e with e
      omega
  · exact (h1.mono (fun i _ hi => .inr hi)).trans (ho.mono (fun i _ hi => .inl hi))
end RfIs
theorem has_l0 (l : List Int) (n : Int) (hl : (l.length : Int) < 9223372036854775807) : ∀ (k i : Nat), i ≤ l.length → l.length - i < k → carillonref11_has.l0 k l n (i : Int) = some (decide (n ∈ l.drop i)) := by
  intro k
  induction k with
  | zero => intro i _ h; omega
  | succ k ih =>
    intro i hi hk
    unfold carillonref11_has.l0
    by_cases h : i < l.length
    · rw [if_pos (by omega), List.drop_eq_getElem_cons h, show rd l (i : Int) = l[i] by simp [rd, List.getD_eq_getElem?_getD, List.getElem?_eq_getElem h]]
      by_cases e : l[i] = n
      · rw [if_pos e]; simp [e]
      · rw [if_neg e, show wrap64 ((i : Int) + 1) = ((i + 1 : Nat) : Int) by unfold wrap64; omega, ih (i + 1) (by omega) (by omega)]
        refine congrArg some (decide_eq_decide.mpr ⟨fun h => List.mem_cons_of_mem _ h, fun h => ?_⟩)
        rcases List.mem_cons.1 h with h | h
        · exact absurd h.symm e
        · exact h
    · rw [if_neg (by omega), List.drop_eq_nil_of_le (by omega)]
      simp
theorem has_is (l : List Int) (n : Int) (k : Nat) (hl : (l.length : Int) < 9223372036854775807) (hk : l.length < k) : carillonref11_has.f k l n = some (decide (n ∈ l)) := by
  unfold carillonref11_has.f
  have := has_l0 l n hl k 0 (Nat.zero_le _) (by omega)
  rwa [List.drop_zero] at this
theorem has_calls (A : Option Addr) (c : Nat) (l : List Int) (n : Int) (W : World) (hr : Kd.C (Kd.int .i64) W A l.length l) (hc : l.length ≤ c) (hl : l.length ≤ 1000000) :
    Calls Tryd.prog 31 #[.slice A l.length c, .int .i64 n] W fun e w' => e = .returned (.bool (decide (n ∈ l))) ∧ ∃ m, w' = W.drewN m :=
  (carillonref11_has.calls (l.length + 1) A c l n _ W hr hc (has_is l n _ (by omega) (by omega))).mono (fun e w' h => by obtain ⟨m, hm⟩ := h.2; exact ⟨h.1, m, hm⟩)

attribute [local go_sem high] eqA23
theorem rne00 {c d : Int} (h : ¬ (c = 0 ∧ d = 0)) : (!(c == 0) || (!(d == 0))) = true := by
  by_cases h1 : c = 0 <;> by_cases h2 : d = 0 <;> simp_all
theorem req00 {c d : Int} (h : c = 0 ∧ d = 0) : (!(c == 0) || (!(d == 0))) = false := by simp [h.1, h.2]
namespace RfS
def tellV (q : RfS) (own : ByteArray) : ByteArray := if q.best.c = 0 ∧ q.best.d = 0 then own else q.best.s
def tell (q : RfS) (own : ByteArray) : RfS × ByteArray × Int :=
  if q.st ≠ 0 then (q, q.val, 0)
  else if 2 * q.prom.length ≤ q.nodes.length then (q, ⟨#[]⟩, 12)
  else if 100000 < (q.tellV own).size then (q, ⟨#[]⟩, 3)
  else ({ q with st := 1, val := q.tellV own }, q.tellV own, 0)
/-- Its rows are short. -/
def short (q : RfS) : Prop := q.nodes.length ≤ 1000000 ∧ q.prom.length ≤ 1000000 ∧ q.cntd.length ≤ 1000000
end RfS
theorem RfIs.cells {W : World} {b g : Nat} {q : RfS} {Vn Vp Vc : Value} (h : RfIs W b g q Vn Vp Vc) : W.cell? ⟨g, 0, none⟩ = some (.int .i64 q.r) ∧ W.cell? ⟨g, 1, none⟩ = some (.int .i64 q.n) ∧ W.cell? ⟨g, 2, none⟩ = some Vn ∧ W.cell? ⟨g, 3, none⟩ = some Vp ∧ W.cell? ⟨g, 4, none⟩ = some (.int .i64 q.best.a) ∧ W.cell? ⟨g, 5, none⟩ = some (.int .i64 q.best.b) ∧ W.cell? ⟨g, 6, none⟩ = some (.int .i64 q.best.c) ∧ W.cell? ⟨g, 7, none⟩ = some (.int .i64 q.best.d) ∧ W.cell? ⟨g, 8, none⟩ = some (.string q.best.s) ∧ W.cell? ⟨g, 9, none⟩ = some Vc ∧ W.cell? ⟨g, 10, none⟩ = some (.int .i64 q.st) ∧ W.cell? ⟨g, 11, none⟩ = some (.string q.val) :=
  ⟨blk_cell h.X 0, blk_cell h.X 1, blk_cell h.X 2, blk_cell h.X 3, blk_cell h.X 4, blk_cell h.X 5, blk_cell h.X 6, blk_cell h.X 7, blk_cell h.X 8, blk_cell h.X 9, blk_cell h.X 10, blk_cell h.X 11⟩
theorem RfIs.frozen {W : World} {b g : Nat} {q : RfS} {Vn Vp Vc : Value} (h : RfIs W b g q Vn Vp Vc) (i : Nat) : W.frozen? ⟨g, i, none⟩ = false := blk_frozen h.X i
set_option maxHeartbeats 4000000 in
set_option maxRecDepth 100000 in
theorem rtell_1 (b g : Nat) (q : RfS) (Vn Vp Vc : Value) (own : ByteArray) (w : World) (HP : Aside0 (RfIs w b g q Vn Vp Vc)) (hs : q.short) (c0 : (q.st != 0) = true) :
    Calls Tryd.prog 14 #[.pointer (some ⟨g, 0, none⟩), .string own] w fun e w' => e = .returned (.tuple #[.string q.val, .int .i64 0]) ∧ RfIs w' b g q Vn Vp Vc ∧ Only w w' (· = g) := by
  obtain ⟨h0, h1, h2, h3, h4, h5, h6, h7, h8, h9, h10, h11⟩ := HP.out.cells
  go_enter Tryd.func14, Tryd.ntmps14
  go_wp2
  go_ret2
  exact ⟨rfl, HP.out, Only.refl _ _⟩
set_option maxHeartbeats 4000000 in
set_option maxRecDepth 100000 in
theorem rtell_2 (b g : Nat) (q : RfS) (Vn Vp Vc : Value) (own : ByteArray) (w : World) (HP : Aside0 (RfIs w b g q Vn Vp Vc)) (hs : q.short) (c0 : (q.st != 0) = false) (HC : 2 * q.prom.length ≤ q.nodes.length) :
    Calls Tryd.prog 14 #[.pointer (some ⟨g, 0, none⟩), .string own] w fun e w' => e = .returned (.tuple #[.string ⟨#[]⟩, .int .i64 12]) ∧ RfIs w' b g q Vn Vp Vc ∧ Only w w' (· = g) := by
  obtain ⟨h0, h1, h2, h3, h4, h5, h6, h7, h8, h9, h10, h11⟩ := HP.out.cells
  obtain ⟨An, cn, en, hcn, hCn⟩ := Kd.R_reads HP.out.N
  obtain ⟨Ap, cp, ep, hcp, hCp⟩ := Kd.R_reads HP.out.P
  obtain ⟨s1, s2, s3⟩ := hs
  subst en
  subst ep
  obtain ⟨m, hm⟩ : ∃ m, q.prom.length = m := ⟨_, rfl⟩
  obtain ⟨n, hn⟩ : ∃ n, q.nodes.length = n := ⟨_, rfl⟩
  rw [hn] at h2 s1 HP hcn HC ⊢
  rw [hm] at h3 s2 HP hcp HC ⊢
  have hdec : decide (wrap64 (2 * (m : Int)) ≤ (n : Int)) = true := decide_eq_true (by unfold wrap64; omega)
  have hdec2 : decide (2 * (m : Int) ≤ (n : Int)) = true := decide_eq_true (by omega)
  clear hCn hCp hm hn HC
  go_enter Tryd.func14, Tryd.ntmps14
  go_wp2
  go_quiet (fail)
  have HP2 := Aside0.mk (HP.out.drewN nq)
  have HK2 := Aside0.mk (Only.of_below (S := (· = g)) (pw_below_drewN (Below.refl w.heap.size w) nq))
  generalize w.drewN nq = W2 at HP2 HK2 ⊢
  clear h0 h1 h2 h3 h4 h5 h6 h7 h8 h9 h10 h11
  obtain ⟨h0, h1, h2, h3, h4, h5, h6, h7, h8, h9, h10, h11⟩ := HP2.out.cells
  go_wp2
  go_ret2
  exact ⟨rfl, HP2.out, HK2.out⟩
set_option maxHeartbeats 4000000 in
set_option maxRecDepth 100000 in
theorem rtell_3o (b g : Nat) (q : RfS) (Vn Vp Vc : Value) (own : ByteArray) (w : World) (HP : Aside0 (RfIs w b g q Vn Vp Vc)) (hs : q.short) (c0 : (q.st != 0) = false) (HC : ¬ 2 * q.prom.length ≤ q.nodes.length) (c1 : (!(q.best.c == 0) || (!(q.best.d == 0))) = false) (c2 : decide (100000 < (own.size : Int)) = true) (c2b : decide (100000 < own.size) = true) :
    Calls Tryd.prog 14 #[.pointer (some ⟨g, 0, none⟩), .string own] w fun e w' => e = .returned (.tuple #[.string ⟨#[]⟩, .int .i64 3]) ∧ RfIs w' b g q Vn Vp Vc ∧ Only w w' (· = g) := by
  obtain ⟨h0, h1, h2, h3, h4, h5, h6, h7, h8, h9, h10, h11⟩ := HP.out.cells
  obtain ⟨An, cn, en, hcn, hCn⟩ := Kd.R_reads HP.out.N
  obtain ⟨Ap, cp, ep, hcp, hCp⟩ := Kd.R_reads HP.out.P
  obtain ⟨s1, s2, s3⟩ := hs
  subst en
  subst ep
  obtain ⟨m, hm⟩ : ∃ m, q.prom.length = m := ⟨_, rfl⟩
  obtain ⟨n, hn⟩ : ∃ n, q.nodes.length = n := ⟨_, rfl⟩
  rw [hn] at h2 s1 HP hcn HC ⊢
  rw [hm] at h3 s2 HP hcp HC ⊢
  have hdec : decide (wrap64 (2 * (m : Int)) ≤ (n : Int)) = false := decide_eq_false (by unfold wrap64; omega)
  have hdec2 : decide (2 * (m : Int) ≤ (n : Int)) = false := decide_eq_false (by omega)
  clear hCn hCp hm hn HC
  go_enter Tryd.func14, Tryd.ntmps14
  go_wp2
  go_quiet (fail)
  have HP2 := Aside0.mk (HP.out.drewN nq)
  have HK2 := Aside0.mk (Only.of_below (S := (· = g)) (pw_below_drewN (Below.refl w.heap.size w) nq))
  generalize w.drewN nq = W2 at HP2 HK2 ⊢
  clear h0 h1 h2 h3 h4 h5 h6 h7 h8 h9 h10 h11
  obtain ⟨h0, h1, h2, h3, h4, h5, h6, h7, h8, h9, h10, h11⟩ := HP2.out.cells
  go_wp2
  go_ret2
  exact ⟨rfl, HP2.out, HK2.out⟩
set_option maxHeartbeats 4000000 in
set_option maxRecDepth 100000 in
theorem rtell_4o (b g : Nat) (q : RfS) (Vn Vp Vc : Value) (own : ByteArray) (w : World) (HP : Aside0 (RfIs w b g q Vn Vp Vc)) (hs : q.short) (c0 : (q.st != 0) = false) (HC : ¬ 2 * q.prom.length ≤ q.nodes.length) (c1 : (!(q.best.c == 0) || (!(q.best.d == 0))) = false) (c2 : decide (100000 < (own.size : Int)) = false) (c2b : decide (100000 < own.size) = false) :
    Calls Tryd.prog 14 #[.pointer (some ⟨g, 0, none⟩), .string own] w fun e w' => e = .returned (.tuple #[.string own, .int .i64 0]) ∧ RfIs w' b g { q with st := 1, val := own } Vn Vp Vc ∧ Only w w' (· = g) := by
  obtain ⟨h0, h1, h2, h3, h4, h5, h6, h7, h8, h9, h10, h11⟩ := HP.out.cells
  obtain ⟨An, cn, en, hcn, hCn⟩ := Kd.R_reads HP.out.N
  obtain ⟨Ap, cp, ep, hcp, hCp⟩ := Kd.R_reads HP.out.P
  obtain ⟨s1, s2, s3⟩ := hs
  subst en
  subst ep
  obtain ⟨m, hm⟩ : ∃ m, q.prom.length = m := ⟨_, rfl⟩
  obtain ⟨n, hn⟩ : ∃ n, q.nodes.length = n := ⟨_, rfl⟩
  rw [hn] at h2 s1 HP hcn HC ⊢
  rw [hm] at h3 s2 HP hcp HC ⊢
  have hdec : decide (wrap64 (2 * (m : Int)) ≤ (n : Int)) = false := decide_eq_false (by unfold wrap64; omega)
  have hdec2 : decide (2 * (m : Int) ≤ (n : Int)) = false := decide_eq_false (by omega)
  clear hCn hCp hm hn HC
  go_enter Tryd.func14, Tryd.ntmps14
  go_wp2
  go_quiet (fail)
  have HP2 := Aside0.mk (HP.out.drewN nq)
  have HK2 := Aside0.mk (Only.of_below (S := (· = g)) (pw_below_drewN (Below.refl w.heap.size w) nq))
  generalize w.drewN nq = W2 at HP2 HK2 ⊢
  clear h0 h1 h2 h3 h4 h5 h6 h7 h8 h9 h10 h11
  obtain ⟨h0, h1, h2, h3, h4, h5, h6, h7, h8, h9, h10, h11⟩ := HP2.out.cells
  have hf10 := HP2.out.frozen 10
  have hf11 := HP2.out.frozen 11
  go_wp2
  go_ret2
  exact ⟨rfl, (HP2.out.set1 10 (.int .i64 1) { q with st := 1 } rfl rfl rfl rfl).set1 11 (.string own) { q with st := 1, val := own } rfl rfl rfl rfl, (HK2.out.set_ _ _).set_ _ _⟩
set_option maxHeartbeats 4000000 in
set_option maxRecDepth 100000 in
theorem rtell_3b (b g : Nat) (q : RfS) (Vn Vp Vc : Value) (own : ByteArray) (w : World) (HP : Aside0 (RfIs w b g q Vn Vp Vc)) (hs : q.short) (c0 : (q.st != 0) = false) (HC : ¬ 2 * q.prom.length ≤ q.nodes.length) (c1 : (!(q.best.c == 0) || (!(q.best.d == 0))) = true) (c2 : decide (100000 < (q.best.s.size : Int)) = true) (c2b : decide (100000 < q.best.s.size) = true) :
    Calls Tryd.prog 14 #[.pointer (some ⟨g, 0, none⟩), .string own] w fun e w' => e = .returned (.tuple #[.string ⟨#[]⟩, .int .i64 3]) ∧ RfIs w' b g q Vn Vp Vc ∧ Only w w' (· = g) := by
  obtain ⟨h0, h1, h2, h3, h4, h5, h6, h7, h8, h9, h10, h11⟩ := HP.out.cells
  obtain ⟨An, cn, en, hcn, hCn⟩ := Kd.R_reads HP.out.N
  obtain ⟨Ap, cp, ep, hcp, hCp⟩ := Kd.R_reads HP.out.P
  obtain ⟨s1, s2, s3⟩ := hs
  subst en
  subst ep
  obtain ⟨m, hm⟩ : ∃ m, q.prom.length = m := ⟨_, rfl⟩
  obtain ⟨n, hn⟩ : ∃ n, q.nodes.length = n := ⟨_, rfl⟩
  rw [hn] at h2 s1 HP hcn HC ⊢
  rw [hm] at h3 s2 HP hcp HC ⊢
  have hdec : decide (wrap64 (2 * (m : Int)) ≤ (n : Int)) = false := decide_eq_false (by unfold wrap64; omega)
  have hdec2 : decide (2 * (m : Int) ≤ (n : Int)) = false := decide_eq_false (by omega)
  clear hCn hCp hm hn HC
  go_enter Tryd.func14, Tryd.ntmps14
  go_wp2
  go_quiet (fail)
  have HP2 := Aside0.mk (HP.out.drewN nq)
  have HK2 := Aside0.mk (Only.of_below (S := (· = g)) (pw_below_drewN (Below.refl w.heap.size w) nq))
  generalize w.drewN nq = W2 at HP2 HK2 ⊢
  clear h0 h1 h2 h3 h4 h5 h6 h7 h8 h9 h10 h11
  obtain ⟨h0, h1, h2, h3, h4, h5, h6, h7, h8, h9, h10, h11⟩ := HP2.out.cells
  go_wp2
  go_ret2
  exact ⟨rfl, HP2.out, HK2.out⟩
set_option maxHeartbeats 4000000 in
set_option maxRecDepth 100000 in
theorem rtell_4b (b g : Nat) (q : RfS) (Vn Vp Vc : Value) (own : ByteArray) (w : World) (HP : Aside0 (RfIs w b g q Vn Vp Vc)) (hs : q.short) (c0 : (q.st != 0) = false) (HC : ¬ 2 * q.prom.length ≤ q.nodes.length) (c1 : (!(q.best.c == 0) || (!(q.best.d == 0))) = true) (c2 : decide (100000 < (q.best.s.size : Int)) = false) (c2b : decide (100000 < q.best.s.size) = false) :
    Calls Tryd.prog 14 #[.pointer (some ⟨g, 0, none⟩), .string own] w fun e w' => e = .returned (.tuple #[.string q.best.s, .int .i64 0]) ∧ RfIs w' b g { q with st := 1, val := q.best.s } Vn Vp Vc ∧ Only w w' (· = g) := by
  obtain ⟨h0, h1, h2, h3, h4, h5, h6, h7, h8, h9, h10, h11⟩ := HP.out.cells
  obtain ⟨An, cn, en, hcn, hCn⟩ := Kd.R_reads HP.out.N
  obtain ⟨Ap, cp, ep, hcp, hCp⟩ := Kd.R_reads HP.out.P
  obtain ⟨s1, s2, s3⟩ := hs
  subst en
  subst ep
  obtain ⟨m, hm⟩ : ∃ m, q.prom.length = m := ⟨_, rfl⟩
  obtain ⟨n, hn⟩ : ∃ n, q.nodes.length = n := ⟨_, rfl⟩
  rw [hn] at h2 s1 HP hcn HC ⊢
  rw [hm] at h3 s2 HP hcp HC ⊢
  have hdec : decide (wrap64 (2 * (m : Int)) ≤ (n : Int)) = false := decide_eq_false (by unfold wrap64; omega)
  have hdec2 : decide (2 * (m : Int) ≤ (n : Int)) = false := decide_eq_false (by omega)
  clear hCn hCp hm hn HC
  go_enter Tryd.func14, Tryd.ntmps14
  go_wp2
  go_quiet (fail)
  have HP2 := Aside0.mk (HP.out.drewN nq)
  have HK2 := Aside0.mk (Only.of_below (S := (· = g)) (pw_below_drewN (Below.refl w.heap.size w) nq))
  generalize w.drewN nq = W2 at HP2 HK2 ⊢
  clear h0 h1 h2 h3 h4 h5 h6 h7 h8 h9 h10 h11
  obtain ⟨h0, h1, h2, h3, h4, h5, h6, h7, h8, h9, h10, h11⟩ := HP2.out.cells
  have hf10 := HP2.out.frozen 10
  have hf11 := HP2.out.frozen 11
  go_wp2
  go_ret2
  exact ⟨rfl, (HP2.out.set1 10 (.int .i64 1) { q with st := 1 } rfl rfl rfl rfl).set1 11 (.string q.best.s) { q with st := 1, val := q.best.s } rfl rfl rfl rfl, (HK2.out.set_ _ _).set_ _ _⟩
theorem rtell_calls (b g : Nat) (q : RfS) (Vn Vp Vc : Value) (own : ByteArray) (w : World) (h : RfIs w b g q Vn Vp Vc) (hs : q.short) :
    Calls Tryd.prog 14 #[.pointer (some ⟨g, 0, none⟩), .string own] w fun e w' => e = .returned (.tuple #[.string (q.tell own).2.1, .int .i64 (q.tell own).2.2]) ∧ RfIs w' b g (q.tell own).1 Vn Vp Vc ∧ Only w w' (· = g) := by
  unfold RfS.tell
  by_cases c0 : q.st ≠ 0
  · rw [if_pos c0]
    exact rtell_1 b g q Vn Vp Vc own w ⟨h⟩ hs (bne_iff_ne.mpr c0)
  · rw [if_neg c0]
    have c0' : (q.st != 0) = false := bne_eq_false_iff_eq.mpr (Classical.not_not.1 c0)
    by_cases HC : 2 * q.prom.length ≤ q.nodes.length
    · rw [if_pos HC]
      exact rtell_2 b g q Vn Vp Vc own w ⟨h⟩ hs c0' HC
    · rw [if_neg HC]
      unfold RfS.tellV
      by_cases c1 : q.best.c = 0 ∧ q.best.d = 0
      · rw [if_pos c1]
        by_cases c2 : 100000 < own.size
        · rw [if_pos c2]
          exact rtell_3o b g q Vn Vp Vc own w ⟨h⟩ hs c0' HC (req00 c1) (decide_eq_true (by omega)) (decide_eq_true c2)
        · rw [if_neg c2]
          exact rtell_4o b g q Vn Vp Vc own w ⟨h⟩ hs c0' HC (req00 c1) (decide_eq_false (by omega)) (decide_eq_false c2)
      · rw [if_neg c1]
        by_cases c2 : 100000 < q.best.s.size
        · rw [if_pos c2]
          exact rtell_3b b g q Vn Vp Vc own w ⟨h⟩ hs c0' HC (rne00 c1) (decide_eq_true (by omega)) (decide_eq_true c2)
        · rw [if_neg c2]
          exact rtell_4b b g q Vn Vp Vc own w ⟨h⟩ hs c0' HC (rne00 c1) (decide_eq_false (by omega)) (decide_eq_false c2)

attribute [local go_sem high] eqA23
def RfS.taken (q : RfS) (node : Int) : RfS × Bool :=
  if q.st = 0 ∨ node ∉ q.nodes ∨ node ∈ q.cntd then (q, false) else ({ q with cntd := q.cntd ++ [node], st := if q.nodes.length < 2 * (q.cntd.length + 1) then 2 else q.st }, true)
/-- One is counted: its row has grown. -/
theorem RfIs.grewC {W W' : World} {b g : Nat} {q : RfS} {Vn Vp Vc : Value} (h : RfIs W b g q Vn Vp Vc) {v1 : Value} {x : Int} (hR : Kd.R (Kd.int .i64) 3 W' b (fun k => some k ≠ Vn.ownBlock ∧ some k ≠ Vp.ownBlock) v1 (q.cntd ++ [x])) (hg : W.grownBy W' Vc.ownBlock) :
    RfIs (W'.setCell ⟨g, 9, none⟩ v1) b g { q with cntd := q.cntd ++ [x] } Vn Vp v1 ∧ Only W (W'.setCell ⟨g, 9, none⟩ v1) (fun k => k = g ∨ Vc.ownBlock = some k) := by
  obtain ⟨n1, n2, n3⟩ := h.neN h.X (by decide)
  have h1 : Only W W' (fun k => Vc.ownBlock = some k) := ⟨hg.os, hg.tape, hg.output, hg.size, fun i hi hn => hg.block i hi (fun e => hn e.symm)⟩
  have ho : Only W' (W'.setCell ⟨g, 9, none⟩ v1) (· = g) := (Only.refl W' _).set_ _ _
  have hX := h1.blk h.X n3
  have hN := R_only rfl h.N h1 (fun k hk e => (h.C.1 k e).1 hk.symm)
  have hP := R_only rfl h.P h1 (fun k hk e => (h.C.1 k e).2 hk.symm)
  exact ⟨⟨(blk_set hX 9 v1).trans rfl, R_only rfl hN ho (fun k hk e => n1 (by rw [hk, e])), R_only rfl hP ho (fun k hk e => n2 (by rw [hk, e])), R_only rfl hR ho (fun k hk e => Kd.R_ne hR hX (by decide) (by rw [← e, hk])), h.ge⟩, (h1.mono (fun i _ hi => .inr hi)).trans (ho.mono (fun i _ hi => .inl hi))⟩
theorem RfIs.lt {W : World} {b g : Nat} {q : RfS} {Vn Vp Vc : Value} (h : RfIs W b g q Vn Vp Vc) : g < W.heap.size := blk_lt h.X
set_option maxHeartbeats 4000000 in
set_option maxRecDepth 100000 in
theorem rtaken_1 (b g : Nat) (q : RfS) (Vn Vp Vc : Value) (node : Int) (w : World) (HP : Aside0 (RfIs w b g q Vn Vp Vc)) (hs : q.short) (c0 : (q.st == 0) = true) :
    Calls Tryd.prog 16 #[.pointer (some ⟨g, 0, none⟩), .int .i64 node] w fun e w' => e = .returned (.bool false) ∧ RfIs w' b g q Vn Vp Vc ∧ Only w w' (fun k => k = g ∨ Vc.ownBlock = some k) := by
  obtain ⟨h0, h1, h2, h3, h4, h5, h6, h7, h8, h9, h10, h11⟩ := HP.out.cells
  go_enter Tryd.func16, Tryd.ntmps16
  go_wp2
  go_ret
  exact ⟨rfl, HP.out, Only.refl _ _⟩
set_option maxHeartbeats 4000000 in
set_option maxRecDepth 100000 in
theorem rtaken_2 (b g : Nat) (q : RfS) (Vn Vp Vc : Value) (node : Int) (w : World) (HP : Aside0 (RfIs w b g q Vn Vp Vc)) (hs : q.short) (c0 : (q.st == 0) = false) (cN : node ∉ q.nodes) :
    Calls Tryd.prog 16 #[.pointer (some ⟨g, 0, none⟩), .int .i64 node] w fun e w' => e = .returned (.bool false) ∧ RfIs w' b g q Vn Vp Vc ∧ Only w w' (fun k => k = g ∨ Vc.ownBlock = some k) := by
  obtain ⟨h0, h1, h2, h3, h4, h5, h6, h7, h8, h9, h10, h11⟩ := HP.out.cells
  obtain ⟨An, cn, en, hcn, hCn⟩ := Kd.R_reads HP.out.N
  obtain ⟨Ac, cc, ec, hcc, hCc⟩ := Kd.R_reads HP.out.C
  obtain ⟨s1, s2, s3⟩ := hs
  subst en
  subst ec
  have HN : Aside0 (∀ W, RfIs W b g q (.slice An q.nodes.length cn) Vp (.slice Ac q.cntd.length cc) → Calls Tryd.prog 31 #[.slice An q.nodes.length cn, .int .i64 node] W fun e w' => e = .returned (.bool (decide (node ∈ q.nodes))) ∧ ∃ m, w' = W.drewN m) := ⟨fun W h => has_calls An cn q.nodes node W (Kd.R_reads' h.N).2.2 hcn s1⟩
  have HC : Aside0 (∀ W, RfIs W b g q (.slice An q.nodes.length cn) Vp (.slice Ac q.cntd.length cc) → Calls Tryd.prog 31 #[.slice Ac q.cntd.length cc, .int .i64 node] W fun e w' => e = .returned (.bool (decide (node ∈ q.cntd))) ∧ ∃ m, w' = W.drewN m) := ⟨fun W h => has_calls Ac cc q.cntd node W (Kd.R_reads' h.C).2.2 hcc s3⟩
  rw [decide_eq_false cN] at HN
  obtain ⟨n, hn⟩ : ∃ n, q.nodes.length = n := ⟨_, rfl⟩
  obtain ⟨m, hm⟩ : ∃ m, q.cntd.length = m := ⟨_, rfl⟩
  rw [hn] at HN HC HP s1 hcn ⊢
  rw [hm] at HN HC HP s3 hcc ⊢
  clear hCn hCc
  go_enter Tryd.func16, Tryd.ntmps16
  go_wp2_with (go_at_call 31; refine (HN.out _ HP.out).mono ?_)
  rintro e W1 ⟨rfl, m1, rfl⟩
  have HP1 := Aside0.mk (HP.out.drewN m1)
  have HK1 := Aside0.mk (Only.of_below (S := fun k => k = g ∨ (Value.slice Ac m cc).ownBlock = some k) (pw_below_drewN (Below.refl w.heap.size w) m1))
  generalize w.drewN m1 = W1 at HP1 HK1 ⊢
  clear h0 h1 h2 h3 h4 h5 h6 h7 h8 h9 h10 h11
  obtain ⟨h0, h1, h2, h3, h4, h5, h6, h7, h8, h9, h10, h11⟩ := HP1.out.cells
  go_wp2
  go_ret
  exact ⟨rfl, HP1.out, HK1.out⟩
set_option maxHeartbeats 4000000 in
set_option maxRecDepth 100000 in
theorem rtaken_3 (b g : Nat) (q : RfS) (Vn Vp Vc : Value) (node : Int) (w : World) (HP : Aside0 (RfIs w b g q Vn Vp Vc)) (hs : q.short) (c0 : (q.st == 0) = false) (cN : node ∈ q.nodes) (cC : node ∈ q.cntd) :
    Calls Tryd.prog 16 #[.pointer (some ⟨g, 0, none⟩), .int .i64 node] w fun e w' => e = .returned (.bool false) ∧ RfIs w' b g q Vn Vp Vc ∧ Only w w' (fun k => k = g ∨ Vc.ownBlock = some k) := by
  obtain ⟨h0, h1, h2, h3, h4, h5, h6, h7, h8, h9, h10, h11⟩ := HP.out.cells
  obtain ⟨An, cn, en, hcn, hCn⟩ := Kd.R_reads HP.out.N
  obtain ⟨Ac, cc, ec, hcc, hCc⟩ := Kd.R_reads HP.out.C
  obtain ⟨s1, s2, s3⟩ := hs
  subst en
  subst ec
  have HN : Aside0 (∀ W, RfIs W b g q (.slice An q.nodes.length cn) Vp (.slice Ac q.cntd.length cc) → Calls Tryd.prog 31 #[.slice An q.nodes.length cn, .int .i64 node] W fun e w' => e = .returned (.bool (decide (node ∈ q.nodes))) ∧ ∃ m, w' = W.drewN m) := ⟨fun W h => has_calls An cn q.nodes node W (Kd.R_reads' h.N).2.2 hcn s1⟩
  have HC : Aside0 (∀ W, RfIs W b g q (.slice An q.nodes.length cn) Vp (.slice Ac q.cntd.length cc) → Calls Tryd.prog 31 #[.slice Ac q.cntd.length cc, .int .i64 node] W fun e w' => e = .returned (.bool (decide (node ∈ q.cntd))) ∧ ∃ m, w' = W.drewN m) := ⟨fun W h => has_calls Ac cc q.cntd node W (Kd.R_reads' h.C).2.2 hcc s3⟩
  rw [decide_eq_true cN] at HN
  rw [decide_eq_true cC] at HC
  obtain ⟨n, hn⟩ : ∃ n, q.nodes.length = n := ⟨_, rfl⟩
  obtain ⟨m, hm⟩ : ∃ m, q.cntd.length = m := ⟨_, rfl⟩
  rw [hn] at HN HC HP s1 hcn ⊢
  rw [hm] at HN HC HP s3 hcc ⊢
  clear hCn hCc
  go_enter Tryd.func16, Tryd.ntmps16
  go_wp2_with (go_at_call 31; refine (HN.out _ HP.out).mono ?_)
  rintro e W1 ⟨rfl, m1, rfl⟩
  have HP1 := Aside0.mk (HP.out.drewN m1)
  have HK1 := Aside0.mk (Only.of_below (S := fun k => k = g ∨ (Value.slice Ac m cc).ownBlock = some k) (pw_below_drewN (Below.refl w.heap.size w) m1))
  generalize w.drewN m1 = W1 at HP1 HK1 ⊢
  clear h0 h1 h2 h3 h4 h5 h6 h7 h8 h9 h10 h11
  obtain ⟨h0, h1, h2, h3, h4, h5, h6, h7, h8, h9, h10, h11⟩ := HP1.out.cells
  go_wp2_with (go_at_call 31; refine (HC.out _ HP1.out).mono ?_)
  rintro e W2 ⟨rfl, m2, rfl⟩
  have HP2 := Aside0.mk (HP1.out.drewN m2)
  have HK2 := Aside0.mk (HK1.out.trans (Only.of_below (pw_below_drewN (Below.refl W1.heap.size W1) m2)))
  generalize W1.drewN m2 = W2 at HP2 HK2 ⊢
  clear h0 h1 h2 h3 h4 h5 h6 h7 h8 h9 h10 h11
  obtain ⟨h0, h1, h2, h3, h4, h5, h6, h7, h8, h9, h10, h11⟩ := HP2.out.cells
  go_wp2
  go_ret
  exact ⟨rfl, HP2.out, HK2.out⟩
set_option maxHeartbeats 4000000 in
set_option maxRecDepth 100000 in
theorem rtaken_4 (b g : Nat) (q : RfS) (Vn Vp Vc : Value) (node : Int) (w : World) (HP : Aside0 (RfIs w b g q Vn Vp Vc)) (hs : q.short) (c0 : (q.st == 0) = false) (cN : node ∈ q.nodes) (cC : node ∉ q.cntd) (HD : ¬ q.nodes.length < 2 * (q.cntd.length + 1)) :
    Calls Tryd.prog 16 #[.pointer (some ⟨g, 0, none⟩), .int .i64 node] w fun e w' => e = .returned (.bool true) ∧ (∃ Vc', RfIs w' b g { q with cntd := q.cntd ++ [node] } Vn Vp Vc') ∧ Only w w' (fun k => k = g ∨ Vc.ownBlock = some k) := by
  obtain ⟨h0, h1, h2, h3, h4, h5, h6, h7, h8, h9, h10, h11⟩ := HP.out.cells
  obtain ⟨An, cn, en, hcn, hCn⟩ := Kd.R_reads HP.out.N
  obtain ⟨Ac, cc, ec, hcc, hCc⟩ := Kd.R_reads HP.out.C
  obtain ⟨s1, s2, s3⟩ := hs
  subst en
  subst ec
  have HN : Aside0 (∀ W, RfIs W b g q (.slice An q.nodes.length cn) Vp (.slice Ac q.cntd.length cc) → Calls Tryd.prog 31 #[.slice An q.nodes.length cn, .int .i64 node] W fun e w' => e = .returned (.bool (decide (node ∈ q.nodes))) ∧ ∃ m, w' = W.drewN m) := ⟨fun W h => has_calls An cn q.nodes node W (Kd.R_reads' h.N).2.2 hcn s1⟩
  have HC : Aside0 (∀ W, RfIs W b g q (.slice An q.nodes.length cn) Vp (.slice Ac q.cntd.length cc) → Calls Tryd.prog 31 #[.slice Ac q.cntd.length cc, .int .i64 node] W fun e w' => e = .returned (.bool (decide (node ∈ q.cntd))) ∧ ∃ m, w' = W.drewN m) := ⟨fun W h => has_calls Ac cc q.cntd node W (Kd.R_reads' h.C).2.2 hcc s3⟩
  rw [decide_eq_true cN] at HN
  rw [decide_eq_false cC] at HC
  obtain ⟨n, hn⟩ : ∃ n, q.nodes.length = n := ⟨_, rfl⟩
  obtain ⟨m, hm⟩ : ∃ m, q.cntd.length = m := ⟨_, rfl⟩
  rw [hn] at HN HC HP s1 hcn HD ⊢
  rw [hm] at HN HC HP s3 hcc HD ⊢
  clear hCn hCc
  go_enter Tryd.func16, Tryd.ntmps16
  go_wp2_with (go_at_call 31; refine (HN.out _ HP.out).mono ?_)
  rintro e W1 ⟨rfl, m1, rfl⟩
  have HP1 := Aside0.mk (HP.out.drewN m1)
  have HK1 := Aside0.mk (Only.of_below (S := fun k => k = g ∨ (Value.slice Ac m cc).ownBlock = some k) (pw_below_drewN (Below.refl w.heap.size w) m1))
  generalize w.drewN m1 = W1 at HP1 HK1 ⊢
  clear h0 h1 h2 h3 h4 h5 h6 h7 h8 h9 h10 h11
  obtain ⟨h0, h1, h2, h3, h4, h5, h6, h7, h8, h9, h10, h11⟩ := HP1.out.cells
  go_wp2_with (go_at_call 31; refine (HC.out _ HP1.out).mono ?_)
  rintro e W2 ⟨rfl, m2, rfl⟩
  have HP2 := Aside0.mk (HP1.out.drewN m2)
  have HK2 := Aside0.mk (HK1.out.trans (Only.of_below (pw_below_drewN (Below.refl W1.heap.size W1) m2)))
  generalize W1.drewN m2 = W2 at HP2 HK2 ⊢
  clear h0 h1 h2 h3 h4 h5 h6 h7 h8 h9 h10 h11
  obtain ⟨h0, h1, h2, h3, h4, h5, h6, h7, h8, h9, h10, h11⟩ := HP2.out.cells
  have hgl := HP2.out.lt
  have hge := HP2.out.ge
  have HPC := Aside0.mk HP2.out.C
  have hf9 := HP2.out.frozen 9
  go_wp2_with ((with_reducible refine gate_builtin (b := .append) (xs := #[.tmp 31, .tmp 33]) rfl ?_); at_builtin; refine Kd.R_append (Kd.int .i64) (w0 := W2) b rfl (.tmp 31) (.tmp 33) 24 3 (.int .i64 0) 8 rfl Tryd.underlying24 info3 rfl (by decide) (by omega) (.slice Ac m cc) q.cntd node [.int .i64 node] (fun k => some k ≠ (Value.slice An n cn).ownBlock ∧ some k ≠ Vp.ownBlock) (fun _ => False) rfl rfl ?aP (fun _ hk => hk.elim) ?aF ?aO ?aB ?aS ?aL ?_)
  case aP => exact rfl
  case aF => exact (fun k hk => ⟨fun e => by have := Kd.R_lt HP2.out.N k e.symm; omega, fun e => by have := Kd.R_lt HP2.out.P k e.symm; omega⟩)
  case aO => exact HPC.out
  case aB => exact Below.refl _ _
  case aS => omega
  case aL => rw [hm]; omega
  intro v1 W3 ho hb hg hat
  obtain ⟨Ax, cx, ex⟩ := Kd.R_slice ho
  rw [List.length_append, List.length_singleton, hm] at ex
  subst ex
  have hG := HP2.out.grewC ho hg
  have HP4 := Aside0.mk hG.1
  have HK4 := Aside0.mk (HK2.out.trans hG.2)
  have hX3 := blk_grown HP2.out.X hg (fun e => (HP2.out.neN HP2.out.X (by decide)).2.2 e.symm)
  have hc9 : W3.cell? ⟨g, 9, none⟩ = some (.slice Ac m cc) := (blk_cell hX3 9).trans rfl
  have hf93 := blk_frozen hX3 9
  clear ho hb hg hat hG hX3 hf9 HPC hgl hge
  clear h0 h1 h2 h3 h4 h5 h6 h7 h8 h9 h10 h11
  go_wp2
  generalize W3.setCell ⟨g, 9, none⟩ (.slice Ax (m + 1) cx) = W4 at HP4 HK4 ⊢
  clear hc9 hf93
  have hdec : decide (wrap64 (2 * ((m + 1 : Nat) : Int)) > (n : Int)) = false := decide_eq_false (by unfold wrap64; omega)
  have hdec2 : decide (2 * ((m + 1 : Nat) : Int) > (n : Int)) = false := decide_eq_false (by omega)
  have hdec3 : decide (2 * ((m : Int) + 1) > (n : Int)) = false := decide_eq_false (by omega)
  obtain ⟨h0, h1, h2, h3, h4, h5, h6, h7, h8, h9, h10, h11⟩ := HP4.out.cells
  dsimp only at h0 h1 h2 h3 h4 h5 h6 h7 h8 h9 h10 h11
  go_quiet (fail)
  have HP5 := Aside0.mk (HP4.out.drewN nq)
  have HK5 := Aside0.mk (HK4.out.trans (Only.of_below (pw_below_drewN (Below.refl W4.heap.size W4) nq)))
  generalize W4.drewN nq = W5 at HP5 HK5 ⊢
  clear h0 h1 h2 h3 h4 h5 h6 h7 h8 h9 h10 h11
  go_wp2
  go_ret
  exact ⟨rfl, ⟨_, HP5.out⟩, HK5.out⟩
set_option maxHeartbeats 4000000 in
set_option maxRecDepth 100000 in
theorem rtaken_5 (b g : Nat) (q : RfS) (Vn Vp Vc : Value) (node : Int) (w : World) (HP : Aside0 (RfIs w b g q Vn Vp Vc)) (hs : q.short) (c0 : (q.st == 0) = false) (cN : node ∈ q.nodes) (cC : node ∉ q.cntd) (HD : q.nodes.length < 2 * (q.cntd.length + 1)) :
    Calls Tryd.prog 16 #[.pointer (some ⟨g, 0, none⟩), .int .i64 node] w fun e w' => e = .returned (.bool true) ∧ (∃ Vc', RfIs w' b g { q with cntd := q.cntd ++ [node], st := 2 } Vn Vp Vc') ∧ Only w w' (fun k => k = g ∨ Vc.ownBlock = some k) := by
  obtain ⟨h0, h1, h2, h3, h4, h5, h6, h7, h8, h9, h10, h11⟩ := HP.out.cells
  obtain ⟨An, cn, en, hcn, hCn⟩ := Kd.R_reads HP.out.N
  obtain ⟨Ac, cc, ec, hcc, hCc⟩ := Kd.R_reads HP.out.C
  obtain ⟨s1, s2, s3⟩ := hs
  subst en
  subst ec
  have HN : Aside0 (∀ W, RfIs W b g q (.slice An q.nodes.length cn) Vp (.slice Ac q.cntd.length cc) → Calls Tryd.prog 31 #[.slice An q.nodes.length cn, .int .i64 node] W fun e w' => e = .returned (.bool (decide (node ∈ q.nodes))) ∧ ∃ m, w' = W.drewN m) := ⟨fun W h => has_calls An cn q.nodes node W (Kd.R_reads' h.N).2.2 hcn s1⟩
  have HC : Aside0 (∀ W, RfIs W b g q (.slice An q.nodes.length cn) Vp (.slice Ac q.cntd.length cc) → Calls Tryd.prog 31 #[.slice Ac q.cntd.length cc, .int .i64 node] W fun e w' => e = .returned (.bool (decide (node ∈ q.cntd))) ∧ ∃ m, w' = W.drewN m) := ⟨fun W h => has_calls Ac cc q.cntd node W (Kd.R_reads' h.C).2.2 hcc s3⟩
  rw [decide_eq_true cN] at HN
  rw [decide_eq_false cC] at HC
  obtain ⟨n, hn⟩ : ∃ n, q.nodes.length = n := ⟨_, rfl⟩
  obtain ⟨m, hm⟩ : ∃ m, q.cntd.length = m := ⟨_, rfl⟩
  rw [hn] at HN HC HP s1 hcn HD ⊢
  rw [hm] at HN HC HP s3 hcc HD ⊢
  clear hCn hCc
  go_enter Tryd.func16, Tryd.ntmps16
  go_wp2_with (go_at_call 31; refine (HN.out _ HP.out).mono ?_)
  rintro e W1 ⟨rfl, m1, rfl⟩
  have HP1 := Aside0.mk (HP.out.drewN m1)
  have HK1 := Aside0.mk (Only.of_below (S := fun k => k = g ∨ (Value.slice Ac m cc).ownBlock = some k) (pw_below_drewN (Below.refl w.heap.size w) m1))
  generalize w.drewN m1 = W1 at HP1 HK1 ⊢
  clear h0 h1 h2 h3 h4 h5 h6 h7 h8 h9 h10 h11
  obtain ⟨h0, h1, h2, h3, h4, h5, h6, h7, h8, h9, h10, h11⟩ := HP1.out.cells
  go_wp2_with (go_at_call 31; refine (HC.out _ HP1.out).mono ?_)
  rintro e W2 ⟨rfl, m2, rfl⟩
  have HP2 := Aside0.mk (HP1.out.drewN m2)
  have HK2 := Aside0.mk (HK1.out.trans (Only.of_below (pw_below_drewN (Below.refl W1.heap.size W1) m2)))
  generalize W1.drewN m2 = W2 at HP2 HK2 ⊢
  clear h0 h1 h2 h3 h4 h5 h6 h7 h8 h9 h10 h11
  obtain ⟨h0, h1, h2, h3, h4, h5, h6, h7, h8, h9, h10, h11⟩ := HP2.out.cells
  have hgl := HP2.out.lt
  have hge := HP2.out.ge
  have HPC := Aside0.mk HP2.out.C
  have hf9 := HP2.out.frozen 9
  go_wp2_with ((with_reducible refine gate_builtin (b := .append) (xs := #[.tmp 31, .tmp 33]) rfl ?_); at_builtin; refine Kd.R_append (Kd.int .i64) (w0 := W2) b rfl (.tmp 31) (.tmp 33) 24 3 (.int .i64 0) 8 rfl Tryd.underlying24 info3 rfl (by decide) (by omega) (.slice Ac m cc) q.cntd node [.int .i64 node] (fun k => some k ≠ (Value.slice An n cn).ownBlock ∧ some k ≠ Vp.ownBlock) (fun _ => False) rfl rfl ?aP (fun _ hk => hk.elim) ?aF ?aO ?aB ?aS ?aL ?_)
  case aP => exact rfl
  case aF => exact (fun k hk => ⟨fun e => by have := Kd.R_lt HP2.out.N k e.symm; omega, fun e => by have := Kd.R_lt HP2.out.P k e.symm; omega⟩)
  case aO => exact HPC.out
  case aB => exact Below.refl _ _
  case aS => omega
  case aL => rw [hm]; omega
  intro v1 W3 ho hb hg hat
  obtain ⟨Ax, cx, ex⟩ := Kd.R_slice ho
  rw [List.length_append, List.length_singleton, hm] at ex
  subst ex
  have hG := HP2.out.grewC ho hg
  have HP4 := Aside0.mk hG.1
  have HK4 := Aside0.mk (HK2.out.trans hG.2)
  have hX3 := blk_grown HP2.out.X hg (fun e => (HP2.out.neN HP2.out.X (by decide)).2.2 e.symm)
  have hc9 : W3.cell? ⟨g, 9, none⟩ = some (.slice Ac m cc) := (blk_cell hX3 9).trans rfl
  have hf93 := blk_frozen hX3 9
  clear ho hb hg hat hG hX3 hf9 HPC hgl hge
  clear h0 h1 h2 h3 h4 h5 h6 h7 h8 h9 h10 h11
  go_wp2
  generalize W3.setCell ⟨g, 9, none⟩ (.slice Ax (m + 1) cx) = W4 at HP4 HK4 ⊢
  clear hc9 hf93
  have hdec : decide (wrap64 (2 * ((m + 1 : Nat) : Int)) > (n : Int)) = true := decide_eq_true (by unfold wrap64; omega)
  have hdec2 : decide (2 * ((m + 1 : Nat) : Int) > (n : Int)) = true := decide_eq_true (by omega)
  have hdec3 : decide (2 * ((m : Int) + 1) > (n : Int)) = true := decide_eq_true (by omega)
  obtain ⟨h0, h1, h2, h3, h4, h5, h6, h7, h8, h9, h10, h11⟩ := HP4.out.cells
  dsimp only at h0 h1 h2 h3 h4 h5 h6 h7 h8 h9 h10 h11
  go_quiet (fail)
  have HP5 := Aside0.mk (HP4.out.drewN nq)
  have HK5 := Aside0.mk (HK4.out.trans (Only.of_below (pw_below_drewN (Below.refl W4.heap.size W4) nq)))
  generalize W4.drewN nq = W5 at HP5 HK5 ⊢
  clear h0 h1 h2 h3 h4 h5 h6 h7 h8 h9 h10 h11
  obtain ⟨h0, h1, h2, h3, h4, h5, h6, h7, h8, h9, h10, h11⟩ := HP5.out.cells
  have hf10 := HP5.out.frozen 10
  go_wp2
  go_ret
  exact ⟨rfl, ⟨_, HP5.out.set1 10 (.int .i64 2) { q with cntd := q.cntd ++ [node], st := 2 } rfl rfl rfl rfl⟩, HK5.out.trans (((Only.refl _ (· = g)).set_ _ _).mono (fun i _ hi => .inl hi))⟩
theorem rtaken_calls (b g : Nat) (q : RfS) (Vn Vp Vc : Value) (node : Int) (w : World) (h : RfIs w b g q Vn Vp Vc) (hs : q.short) :
    Calls Tryd.prog 16 #[.pointer (some ⟨g, 0, none⟩), .int .i64 node] w fun e w' => e = .returned (.bool (q.taken node).2) ∧ (∃ Vc', RfIs w' b g (q.taken node).1 Vn Vp Vc') ∧ Only w w' (fun k => k = g ∨ Vc.ownBlock = some k) := by
  unfold RfS.taken
  by_cases c0 : q.st = 0
  · rw [if_pos (.inl c0)]
    exact (rtaken_1 b g q Vn Vp Vc node w ⟨h⟩ hs (beq_iff_eq.mpr c0)).mono (fun e w' h => ⟨h.1, ⟨_, h.2.1⟩, h.2.2⟩)
  · have c0' : (q.st == 0) = false := beq_eq_false_iff_ne.mpr c0
    by_cases cN : node ∈ q.nodes
    · by_cases cC : node ∈ q.cntd
      · rw [if_pos (.inr (.inr cC))]
        exact (rtaken_3 b g q Vn Vp Vc node w ⟨h⟩ hs c0' cN cC).mono (fun e w' h => ⟨h.1, ⟨_, h.2.1⟩, h.2.2⟩)
      · rw [if_neg (fun h => h.elim c0 (fun h => h.elim (fun h => h cN) cC))]
        by_cases HD : q.nodes.length < 2 * (q.cntd.length + 1)
        · rw [if_pos HD]
          exact rtaken_5 b g q Vn Vp Vc node w ⟨h⟩ hs c0' cN cC HD
        · rw [if_neg HD]
          exact rtaken_4 b g q Vn Vp Vc node w ⟨h⟩ hs c0' cN cC HD
    · rw [if_pos (.inr (.inl cN))]
      exact (rtaken_2 b g q Vn Vp Vc node w ⟨h⟩ hs c0' cN).mono (fun e w' h => ⟨h.1, ⟨_, h.2.1⟩, h.2.2⟩)

attribute [local go_sem high] eqA23
def RfS.promise (q : RfS) (node : Int) (a : AcS) : RfS × Bool :=
  if q.st = 0 ∧ node ∈ q.nodes ∧ node ∉ q.prom ∧ AccP a.a a.b a.c a.d a.s ∧ a.a = q.r ∧ a.b = q.n then
    ({ q with prom := q.prom ++ [node], best := if LessP q.best.c q.best.d a.c a.d then a else q.best }, true)
  else (q, false)
theorem rless_is (a b c d : Int) : carillonref10_Less.f a b c d = some (decide (LessP a b c d)) := by
  unfold carillonref10_Less.f LessP
  by_cases h1 : a < c
  · simp [h1]
  · by_cases h2 : a = c
    · subst h2; simp
    · simp [h1, h2]
theorem rmay_is (a b : Int) : carillonref10_may.f a b = some (decide (RightP a b ∨ a = 0 ∧ b = 0)) := by
  unfold carillonref10_may.f carillonref10_Right.f RightP
  by_cases h1 : 1 ≤ a <;> by_cases h2 : a ≤ 9007199254740991 <;> by_cases h3 : 0 ≤ b <;> by_cases h4 : b < 7 <;> simp [h1, h2, h3, h4] <;> rfl
theorem rright_is (a b : Int) : carillonref10_Right.f a b = some (decide (RightP a b)) := by
  unfold carillonref10_Right.f RightP
  by_cases h1 : 1 ≤ a <;> by_cases h2 : a ≤ 9007199254740991 <;> by_cases h3 : 0 ≤ b <;> simp [h1, h2, h3]
theorem racc_is (a b c d : Int) (s : ByteArray) : carillonref10_RightAcceptor.f a b c d s = some (decide (AccP a b c d s)) := by
  unfold carillonref10_RightAcceptor.f
  simp only [rmay_is, rless_is, Option.bind_some, decide_eq_true_eq]
  by_cases h1 : RightP a b ∨ a = 0 ∧ b = 0
  case neg => rw [if_neg h1, decide_eq_false (show ¬ AccP a b c d s from fun h => h1 h.1)]
  rw [if_pos h1]
  by_cases h2 : RightP c d ∨ c = 0 ∧ d = 0
  case neg => rw [if_neg h2, decide_eq_false (show ¬ AccP a b c d s from fun h => h2 h.2.2.2.2.symm)]
  rw [if_pos h2]
  by_cases h3 : LessP a b c d
  case pos => rw [if_pos h3, decide_eq_false (show ¬ AccP a b c d s from fun h => h.2.1 h3)]
  rw [if_neg h3]
  by_cases h4 : (s.size : Int) ≤ 100000
  case neg => rw [if_neg h4, decide_eq_false (show ¬ AccP a b c d s from fun h => h4 h.2.2.1)]
  rw [if_pos h4]
  by_cases h5 : c = 0 ∧ d = 0
  · rw [req00 h5, toList_nil, if_neg (by simp)]
    by_cases h8 : s.toList = []
    · rw [decide_eq_true h8, decide_eq_true (show AccP a b c d s from ⟨h1, h3, h4, fun _ => h8, .inl h5⟩)]
    · rw [decide_eq_false h8, decide_eq_false (show ¬ AccP a b c d s from fun h => h8 (h.2.2.2.1 h5))]
  · rw [rne00 h5, if_pos rfl, decide_eq_true (show AccP a b c d s from ⟨h1, h3, h4, fun h => absurd h h5, h2.symm⟩)]
theorem RfIs.setBest {W : World} {b g : Nat} {q : RfS} {Vn Vp Vc : Value} (h : RfIs W b g q Vn Vp Vc) (a : AcS) : RfIs (((((W.setCell ⟨g, 4, none⟩ (.int .i64 a.a)).setCell ⟨g, 5, none⟩ (.int .i64 a.b)).setCell ⟨g, 6, none⟩ (.int .i64 a.c)).setCell ⟨g, 7, none⟩ (.int .i64 a.d)).setCell ⟨g, 8, none⟩ (.string a.s)) b g { q with best := a } Vn Vp Vc :=
  ((((h.set1 4 (.int .i64 a.a) { q with best := { q.best with a := a.a } } rfl rfl rfl rfl).set1 5 (.int .i64 a.b) { q with best := { q.best with a := a.a, b := a.b } } rfl rfl rfl rfl).set1 6 (.int .i64 a.c) { q with best := { q.best with a := a.a, b := a.b, c := a.c } } rfl rfl rfl rfl).set1 7 (.int .i64 a.d) { q with best := { q.best with a := a.a, b := a.b, c := a.c, d := a.d } } rfl rfl rfl rfl).set1 8 (.string a.s) { q with best := a } rfl rfl rfl rfl
set_option maxHeartbeats 4000000 in
set_option maxRecDepth 100000 in
theorem rprom_1 (b g : Nat) (q : RfS) (Vn Vp Vc : Value) (node : Int) (aa ab ac ad : Int) (as_ : ByteArray) (w : World) (HP : Aside0 (RfIs w b g q Vn Vp Vc)) (hs : q.short) (c0 : (q.st != 0) = true) :
    Calls Tryd.prog 12 #[.pointer (some ⟨g, 0, none⟩), .int .i64 node, .agg #[.int .i64 aa, .int .i64 ab, .int .i64 ac, .int .i64 ad, .string as_]] w fun e w' => e = .returned (.bool false) ∧ RfIs w' b g q Vn Vp Vc ∧ Only w w' (fun k => k = g ∨ Vp.ownBlock = some k) := by
  obtain ⟨An, cn, en, hcn, hCn⟩ := Kd.R_reads HP.out.N
  obtain ⟨Ap, cp, ep, hcp, hCp⟩ := Kd.R_reads HP.out.P
  obtain ⟨s1, s2, s3⟩ := hs
  subst en
  subst ep
  have HRA : Aside0 (∀ W, Calls Tryd.prog 30 #[.agg #[.int .i64 aa, .int .i64 ab, .int .i64 ac, .int .i64 ad, .string as_]] W fun e w' => e = .returned (.bool (decide (AccP aa ab ac ad as_))) ∧ Below W.heap.size W w') := ⟨fun W => carillonref10_RightAcceptor.calls aa ab ac ad as_ _ W (racc_is aa ab ac ad as_)⟩
  have HN : Aside0 (∀ W, RfIs W b g q (.slice An q.nodes.length cn) (.slice Ap q.prom.length cp) Vc → Calls Tryd.prog 31 #[.slice An q.nodes.length cn, .int .i64 node] W fun e w' => e = .returned (.bool (decide (node ∈ q.nodes))) ∧ ∃ m, w' = W.drewN m) := ⟨fun W h => has_calls An cn q.nodes node W (Kd.R_reads' h.N).2.2 hcn s1⟩
  have HC : Aside0 (∀ W, RfIs W b g q (.slice An q.nodes.length cn) (.slice Ap q.prom.length cp) Vc → Calls Tryd.prog 31 #[.slice Ap q.prom.length cp, .int .i64 node] W fun e w' => e = .returned (.bool (decide (node ∈ q.prom))) ∧ ∃ m, w' = W.drewN m) := ⟨fun W h => has_calls Ap cp q.prom node W (Kd.R_reads' h.P).2.2 hcp s2⟩
  obtain ⟨n, hn⟩ : ∃ n, q.nodes.length = n := ⟨_, rfl⟩
  obtain ⟨m, hm⟩ : ∃ m, q.prom.length = m := ⟨_, rfl⟩
  rw [hn] at HN HC HP s1 hcn ⊢
  rw [hm] at HN HC HP s2 hcp ⊢
  clear hCn hCp
  have HB1 := Aside0.mk (below_alloc (Below.refl w.heap.size w) (.cells #[.int .i64 aa, .int .i64 ab, .int .i64 ac, .int .i64 ad, .string as_] 34))
  go_enter Tryd.func12, Tryd.ntmps12
  go_wp2_with (go_at_call 30; refine (HRA.out _).mono ?_)
  rintro e W1 ⟨rfl, hb⟩
  have HBW := Aside0.mk (Below.trans HB1.out (hb.mono (by simp)))
  have HP1 := Aside0.mk (HP.out.below HBW.out)
  have HX := Aside0.mk (blk_below (heap_alloc_new w (.cells #[.int .i64 aa, .int .i64 ab, .int .i64 ac, .int .i64 ad, .string as_] 34)) hb)
  have HWZ := Aside0.mk (Nat.ne_of_lt HP.out.lt)
  clear hb HRA
  have HNq : Aside0 (∀ n, _) := ⟨fun n => HN.out (W1.drewN n) (HP1.out.drewN n)⟩
  have HCq : Aside0 (∀ n, _) := ⟨fun n => HC.out (W1.drewN n) (HP1.out.drewN n)⟩
  clear HN HC
  obtain ⟨h0, h1, h2, h3, h4, h5, h6, h7, h8, h9, h10, h11⟩ := HP1.out.cells
  obtain ⟨hx0, hx1, hx2, hx3, hx4, _, _, _, _, _⟩ := bx5 HX.out
  have hf3 := HP1.out.frozen 3
  go_wp2
  go_quiet (first | (go_at_call 31; with_reducible exact Calls.quiet_of (HNq.out _)) | (go_at_call 31; with_reducible exact Calls.quiet_of (HCq.out _)) | fail)
  clear HNq HCq
  go_wp2
  go_ret
  exact ⟨rfl, HP1.out.drewN nq, Only.of_below (pw_below_drewN HBW.out nq)⟩
set_option maxHeartbeats 4000000 in
set_option maxRecDepth 100000 in
theorem rprom_2 (b g : Nat) (q : RfS) (Vn Vp Vc : Value) (node : Int) (aa ab ac ad : Int) (as_ : ByteArray) (w : World) (HP : Aside0 (RfIs w b g q Vn Vp Vc)) (hs : q.short) (c0 : (q.st != 0) = false) (cN : node ∉ q.nodes) :
    Calls Tryd.prog 12 #[.pointer (some ⟨g, 0, none⟩), .int .i64 node, .agg #[.int .i64 aa, .int .i64 ab, .int .i64 ac, .int .i64 ad, .string as_]] w fun e w' => e = .returned (.bool false) ∧ RfIs w' b g q Vn Vp Vc ∧ Only w w' (fun k => k = g ∨ Vp.ownBlock = some k) := by
  obtain ⟨An, cn, en, hcn, hCn⟩ := Kd.R_reads HP.out.N
  obtain ⟨Ap, cp, ep, hcp, hCp⟩ := Kd.R_reads HP.out.P
  obtain ⟨s1, s2, s3⟩ := hs
  subst en
  subst ep
  have HRA : Aside0 (∀ W, Calls Tryd.prog 30 #[.agg #[.int .i64 aa, .int .i64 ab, .int .i64 ac, .int .i64 ad, .string as_]] W fun e w' => e = .returned (.bool (decide (AccP aa ab ac ad as_))) ∧ Below W.heap.size W w') := ⟨fun W => carillonref10_RightAcceptor.calls aa ab ac ad as_ _ W (racc_is aa ab ac ad as_)⟩
  have HN : Aside0 (∀ W, RfIs W b g q (.slice An q.nodes.length cn) (.slice Ap q.prom.length cp) Vc → Calls Tryd.prog 31 #[.slice An q.nodes.length cn, .int .i64 node] W fun e w' => e = .returned (.bool (decide (node ∈ q.nodes))) ∧ ∃ m, w' = W.drewN m) := ⟨fun W h => has_calls An cn q.nodes node W (Kd.R_reads' h.N).2.2 hcn s1⟩
  have HC : Aside0 (∀ W, RfIs W b g q (.slice An q.nodes.length cn) (.slice Ap q.prom.length cp) Vc → Calls Tryd.prog 31 #[.slice Ap q.prom.length cp, .int .i64 node] W fun e w' => e = .returned (.bool (decide (node ∈ q.prom))) ∧ ∃ m, w' = W.drewN m) := ⟨fun W h => has_calls Ap cp q.prom node W (Kd.R_reads' h.P).2.2 hcp s2⟩
  rw [decide_eq_false cN] at HN
  obtain ⟨n, hn⟩ : ∃ n, q.nodes.length = n := ⟨_, rfl⟩
  obtain ⟨m, hm⟩ : ∃ m, q.prom.length = m := ⟨_, rfl⟩
  rw [hn] at HN HC HP s1 hcn ⊢
  rw [hm] at HN HC HP s2 hcp ⊢
  clear hCn hCp
  have HB1 := Aside0.mk (below_alloc (Below.refl w.heap.size w) (.cells #[.int .i64 aa, .int .i64 ab, .int .i64 ac, .int .i64 ad, .string as_] 34))
  go_enter Tryd.func12, Tryd.ntmps12
  go_wp2_with (go_at_call 30; refine (HRA.out _).mono ?_)
  rintro e W1 ⟨rfl, hb⟩
  have HBW := Aside0.mk (Below.trans HB1.out (hb.mono (by simp)))
  have HP1 := Aside0.mk (HP.out.below HBW.out)
  have HX := Aside0.mk (blk_below (heap_alloc_new w (.cells #[.int .i64 aa, .int .i64 ab, .int .i64 ac, .int .i64 ad, .string as_] 34)) hb)
  have HWZ := Aside0.mk (Nat.ne_of_lt HP.out.lt)
  clear hb HRA
  have HNq : Aside0 (∀ n, _) := ⟨fun n => HN.out (W1.drewN n) (HP1.out.drewN n)⟩
  have HCq : Aside0 (∀ n, _) := ⟨fun n => HC.out (W1.drewN n) (HP1.out.drewN n)⟩
  clear HN HC
  obtain ⟨h0, h1, h2, h3, h4, h5, h6, h7, h8, h9, h10, h11⟩ := HP1.out.cells
  obtain ⟨hx0, hx1, hx2, hx3, hx4, _, _, _, _, _⟩ := bx5 HX.out
  have hf3 := HP1.out.frozen 3
  go_wp2
  go_quiet (first | (go_at_call 31; with_reducible exact Calls.quiet_of (HNq.out _)) | (go_at_call 31; with_reducible exact Calls.quiet_of (HCq.out _)) | fail)
  clear HNq HCq
  go_wp2
  go_ret
  exact ⟨rfl, HP1.out.drewN nq, Only.of_below (pw_below_drewN HBW.out nq)⟩
set_option maxHeartbeats 4000000 in
set_option maxRecDepth 100000 in
theorem rprom_3 (b g : Nat) (q : RfS) (Vn Vp Vc : Value) (node : Int) (aa ab ac ad : Int) (as_ : ByteArray) (w : World) (HP : Aside0 (RfIs w b g q Vn Vp Vc)) (hs : q.short) (c0 : (q.st != 0) = false) (cN : node ∈ q.nodes) (cC : node ∈ q.prom) :
    Calls Tryd.prog 12 #[.pointer (some ⟨g, 0, none⟩), .int .i64 node, .agg #[.int .i64 aa, .int .i64 ab, .int .i64 ac, .int .i64 ad, .string as_]] w fun e w' => e = .returned (.bool false) ∧ RfIs w' b g q Vn Vp Vc ∧ Only w w' (fun k => k = g ∨ Vp.ownBlock = some k) := by
  obtain ⟨An, cn, en, hcn, hCn⟩ := Kd.R_reads HP.out.N
  obtain ⟨Ap, cp, ep, hcp, hCp⟩ := Kd.R_reads HP.out.P
  obtain ⟨s1, s2, s3⟩ := hs
  subst en
  subst ep
  have HRA : Aside0 (∀ W, Calls Tryd.prog 30 #[.agg #[.int .i64 aa, .int .i64 ab, .int .i64 ac, .int .i64 ad, .string as_]] W fun e w' => e = .returned (.bool (decide (AccP aa ab ac ad as_))) ∧ Below W.heap.size W w') := ⟨fun W => carillonref10_RightAcceptor.calls aa ab ac ad as_ _ W (racc_is aa ab ac ad as_)⟩
  have HN : Aside0 (∀ W, RfIs W b g q (.slice An q.nodes.length cn) (.slice Ap q.prom.length cp) Vc → Calls Tryd.prog 31 #[.slice An q.nodes.length cn, .int .i64 node] W fun e w' => e = .returned (.bool (decide (node ∈ q.nodes))) ∧ ∃ m, w' = W.drewN m) := ⟨fun W h => has_calls An cn q.nodes node W (Kd.R_reads' h.N).2.2 hcn s1⟩
  have HC : Aside0 (∀ W, RfIs W b g q (.slice An q.nodes.length cn) (.slice Ap q.prom.length cp) Vc → Calls Tryd.prog 31 #[.slice Ap q.prom.length cp, .int .i64 node] W fun e w' => e = .returned (.bool (decide (node ∈ q.prom))) ∧ ∃ m, w' = W.drewN m) := ⟨fun W h => has_calls Ap cp q.prom node W (Kd.R_reads' h.P).2.2 hcp s2⟩
  rw [decide_eq_true cN] at HN
  rw [decide_eq_true cC] at HC
  obtain ⟨n, hn⟩ : ∃ n, q.nodes.length = n := ⟨_, rfl⟩
  obtain ⟨m, hm⟩ : ∃ m, q.prom.length = m := ⟨_, rfl⟩
  rw [hn] at HN HC HP s1 hcn ⊢
  rw [hm] at HN HC HP s2 hcp ⊢
  clear hCn hCp
  have HB1 := Aside0.mk (below_alloc (Below.refl w.heap.size w) (.cells #[.int .i64 aa, .int .i64 ab, .int .i64 ac, .int .i64 ad, .string as_] 34))
  go_enter Tryd.func12, Tryd.ntmps12
  go_wp2_with (go_at_call 30; refine (HRA.out _).mono ?_)
  rintro e W1 ⟨rfl, hb⟩
  have HBW := Aside0.mk (Below.trans HB1.out (hb.mono (by simp)))
  have HP1 := Aside0.mk (HP.out.below HBW.out)
  have HX := Aside0.mk (blk_below (heap_alloc_new w (.cells #[.int .i64 aa, .int .i64 ab, .int .i64 ac, .int .i64 ad, .string as_] 34)) hb)
  have HWZ := Aside0.mk (Nat.ne_of_lt HP.out.lt)
  clear hb HRA
  have HNq : Aside0 (∀ n, _) := ⟨fun n => HN.out (W1.drewN n) (HP1.out.drewN n)⟩
  have HCq : Aside0 (∀ n, _) := ⟨fun n => HC.out (W1.drewN n) (HP1.out.drewN n)⟩
  clear HN HC
  obtain ⟨h0, h1, h2, h3, h4, h5, h6, h7, h8, h9, h10, h11⟩ := HP1.out.cells
  obtain ⟨hx0, hx1, hx2, hx3, hx4, _, _, _, _, _⟩ := bx5 HX.out
  have hf3 := HP1.out.frozen 3
  go_wp2
  go_quiet (first | (go_at_call 31; with_reducible exact Calls.quiet_of (HNq.out _)) | (go_at_call 31; with_reducible exact Calls.quiet_of (HCq.out _)) | fail)
  clear HNq HCq
  go_wp2
  go_ret
  exact ⟨rfl, HP1.out.drewN nq, Only.of_below (pw_below_drewN HBW.out nq)⟩
set_option maxHeartbeats 4000000 in
set_option maxRecDepth 100000 in
theorem rprom_4 (b g : Nat) (q : RfS) (Vn Vp Vc : Value) (node : Int) (aa ab ac ad : Int) (as_ : ByteArray) (w : World) (HP : Aside0 (RfIs w b g q Vn Vp Vc)) (hs : q.short) (c0 : (q.st != 0) = false) (cN : node ∈ q.nodes) (cC : node ∉ q.prom) (cA : ¬ AccP aa ab ac ad as_) :
    Calls Tryd.prog 12 #[.pointer (some ⟨g, 0, none⟩), .int .i64 node, .agg #[.int .i64 aa, .int .i64 ab, .int .i64 ac, .int .i64 ad, .string as_]] w fun e w' => e = .returned (.bool false) ∧ RfIs w' b g q Vn Vp Vc ∧ Only w w' (fun k => k = g ∨ Vp.ownBlock = some k) := by
  obtain ⟨An, cn, en, hcn, hCn⟩ := Kd.R_reads HP.out.N
  obtain ⟨Ap, cp, ep, hcp, hCp⟩ := Kd.R_reads HP.out.P
  obtain ⟨s1, s2, s3⟩ := hs
  subst en
  subst ep
  have HRA : Aside0 (∀ W, Calls Tryd.prog 30 #[.agg #[.int .i64 aa, .int .i64 ab, .int .i64 ac, .int .i64 ad, .string as_]] W fun e w' => e = .returned (.bool (decide (AccP aa ab ac ad as_))) ∧ Below W.heap.size W w') := ⟨fun W => carillonref10_RightAcceptor.calls aa ab ac ad as_ _ W (racc_is aa ab ac ad as_)⟩
  have HN : Aside0 (∀ W, RfIs W b g q (.slice An q.nodes.length cn) (.slice Ap q.prom.length cp) Vc → Calls Tryd.prog 31 #[.slice An q.nodes.length cn, .int .i64 node] W fun e w' => e = .returned (.bool (decide (node ∈ q.nodes))) ∧ ∃ m, w' = W.drewN m) := ⟨fun W h => has_calls An cn q.nodes node W (Kd.R_reads' h.N).2.2 hcn s1⟩
  have HC : Aside0 (∀ W, RfIs W b g q (.slice An q.nodes.length cn) (.slice Ap q.prom.length cp) Vc → Calls Tryd.prog 31 #[.slice Ap q.prom.length cp, .int .i64 node] W fun e w' => e = .returned (.bool (decide (node ∈ q.prom))) ∧ ∃ m, w' = W.drewN m) := ⟨fun W h => has_calls Ap cp q.prom node W (Kd.R_reads' h.P).2.2 hcp s2⟩
  rw [decide_eq_true cN] at HN
  rw [decide_eq_false cC] at HC
  rw [decide_eq_false cA] at HRA
  obtain ⟨n, hn⟩ : ∃ n, q.nodes.length = n := ⟨_, rfl⟩
  obtain ⟨m, hm⟩ : ∃ m, q.prom.length = m := ⟨_, rfl⟩
  rw [hn] at HN HC HP s1 hcn ⊢
  rw [hm] at HN HC HP s2 hcp ⊢
  clear hCn hCp
  have HB1 := Aside0.mk (below_alloc (Below.refl w.heap.size w) (.cells #[.int .i64 aa, .int .i64 ab, .int .i64 ac, .int .i64 ad, .string as_] 34))
  go_enter Tryd.func12, Tryd.ntmps12
  go_wp2_with (go_at_call 30; refine (HRA.out _).mono ?_)
  rintro e W1 ⟨rfl, hb⟩
  have HBW := Aside0.mk (Below.trans HB1.out (hb.mono (by simp)))
  have HP1 := Aside0.mk (HP.out.below HBW.out)
  have HX := Aside0.mk (blk_below (heap_alloc_new w (.cells #[.int .i64 aa, .int .i64 ab, .int .i64 ac, .int .i64 ad, .string as_] 34)) hb)
  have HWZ := Aside0.mk (Nat.ne_of_lt HP.out.lt)
  clear hb HRA
  have HNq : Aside0 (∀ n, _) := ⟨fun n => HN.out (W1.drewN n) (HP1.out.drewN n)⟩
  have HCq : Aside0 (∀ n, _) := ⟨fun n => HC.out (W1.drewN n) (HP1.out.drewN n)⟩
  clear HN HC
  obtain ⟨h0, h1, h2, h3, h4, h5, h6, h7, h8, h9, h10, h11⟩ := HP1.out.cells
  obtain ⟨hx0, hx1, hx2, hx3, hx4, _, _, _, _, _⟩ := bx5 HX.out
  have hf3 := HP1.out.frozen 3
  go_wp2
  go_quiet (first | (go_at_call 31; with_reducible exact Calls.quiet_of (HNq.out _)) | (go_at_call 31; with_reducible exact Calls.quiet_of (HCq.out _)) | fail)
  clear HNq HCq
  go_wp2
  go_ret
  exact ⟨rfl, HP1.out.drewN nq, Only.of_below (pw_below_drewN HBW.out nq)⟩
set_option maxHeartbeats 4000000 in
set_option maxRecDepth 100000 in
theorem rprom_5 (b g : Nat) (q : RfS) (Vn Vp Vc : Value) (node : Int) (aa ab ac ad : Int) (as_ : ByteArray) (w : World) (HP : Aside0 (RfIs w b g q Vn Vp Vc)) (hs : q.short) (c0 : (q.st != 0) = false) (cN : node ∈ q.nodes) (cC : node ∉ q.prom) (cA : AccP aa ab ac ad as_) (c5 : (!(aa == q.r) || (!(ab == q.n))) = true) :
    Calls Tryd.prog 12 #[.pointer (some ⟨g, 0, none⟩), .int .i64 node, .agg #[.int .i64 aa, .int .i64 ab, .int .i64 ac, .int .i64 ad, .string as_]] w fun e w' => e = .returned (.bool false) ∧ RfIs w' b g q Vn Vp Vc ∧ Only w w' (fun k => k = g ∨ Vp.ownBlock = some k) := by
  obtain ⟨An, cn, en, hcn, hCn⟩ := Kd.R_reads HP.out.N
  obtain ⟨Ap, cp, ep, hcp, hCp⟩ := Kd.R_reads HP.out.P
  obtain ⟨s1, s2, s3⟩ := hs
  subst en
  subst ep
  have HRA : Aside0 (∀ W, Calls Tryd.prog 30 #[.agg #[.int .i64 aa, .int .i64 ab, .int .i64 ac, .int .i64 ad, .string as_]] W fun e w' => e = .returned (.bool (decide (AccP aa ab ac ad as_))) ∧ Below W.heap.size W w') := ⟨fun W => carillonref10_RightAcceptor.calls aa ab ac ad as_ _ W (racc_is aa ab ac ad as_)⟩
  have HN : Aside0 (∀ W, RfIs W b g q (.slice An q.nodes.length cn) (.slice Ap q.prom.length cp) Vc → Calls Tryd.prog 31 #[.slice An q.nodes.length cn, .int .i64 node] W fun e w' => e = .returned (.bool (decide (node ∈ q.nodes))) ∧ ∃ m, w' = W.drewN m) := ⟨fun W h => has_calls An cn q.nodes node W (Kd.R_reads' h.N).2.2 hcn s1⟩
  have HC : Aside0 (∀ W, RfIs W b g q (.slice An q.nodes.length cn) (.slice Ap q.prom.length cp) Vc → Calls Tryd.prog 31 #[.slice Ap q.prom.length cp, .int .i64 node] W fun e w' => e = .returned (.bool (decide (node ∈ q.prom))) ∧ ∃ m, w' = W.drewN m) := ⟨fun W h => has_calls Ap cp q.prom node W (Kd.R_reads' h.P).2.2 hcp s2⟩
  rw [decide_eq_true cN] at HN
  rw [decide_eq_false cC] at HC
  rw [decide_eq_true cA] at HRA
  obtain ⟨n, hn⟩ : ∃ n, q.nodes.length = n := ⟨_, rfl⟩
  obtain ⟨m, hm⟩ : ∃ m, q.prom.length = m := ⟨_, rfl⟩
  rw [hn] at HN HC HP s1 hcn ⊢
  rw [hm] at HN HC HP s2 hcp ⊢
  clear hCn hCp
  have HB1 := Aside0.mk (below_alloc (Below.refl w.heap.size w) (.cells #[.int .i64 aa, .int .i64 ab, .int .i64 ac, .int .i64 ad, .string as_] 34))
  go_enter Tryd.func12, Tryd.ntmps12
  go_wp2_with (go_at_call 30; refine (HRA.out _).mono ?_)
  rintro e W1 ⟨rfl, hb⟩
  have HBW := Aside0.mk (Below.trans HB1.out (hb.mono (by simp)))
  have HP1 := Aside0.mk (HP.out.below HBW.out)
  have HX := Aside0.mk (blk_below (heap_alloc_new w (.cells #[.int .i64 aa, .int .i64 ab, .int .i64 ac, .int .i64 ad, .string as_] 34)) hb)
  have HWZ := Aside0.mk (Nat.ne_of_lt HP.out.lt)
  clear hb HRA
  have HNq : Aside0 (∀ n, _) := ⟨fun n => HN.out (W1.drewN n) (HP1.out.drewN n)⟩
  have HCq : Aside0 (∀ n, _) := ⟨fun n => HC.out (W1.drewN n) (HP1.out.drewN n)⟩
  clear HN HC
  obtain ⟨h0, h1, h2, h3, h4, h5, h6, h7, h8, h9, h10, h11⟩ := HP1.out.cells
  obtain ⟨hx0, hx1, hx2, hx3, hx4, _, _, _, _, _⟩ := bx5 HX.out
  have hf3 := HP1.out.frozen 3
  go_wp2
  go_quiet (first | (go_at_call 31; with_reducible exact Calls.quiet_of (HNq.out _)) | (go_at_call 31; with_reducible exact Calls.quiet_of (HCq.out _)) | fail)
  clear HNq HCq
  go_wp2
  go_ret
  exact ⟨rfl, HP1.out.drewN nq, Only.of_below (pw_below_drewN HBW.out nq)⟩
set_option maxHeartbeats 4000000 in
set_option maxRecDepth 100000 in
theorem rprom_6 (b g : Nat) (q : RfS) (Vn Vp Vc : Value) (node : Int) (aa ab ac ad : Int) (as_ : ByteArray) (w : World) (HP : Aside0 (RfIs w b g q Vn Vp Vc)) (hs : q.short) (c0 : (q.st != 0) = false) (cN : node ∈ q.nodes) (cC : node ∉ q.prom) (cA : AccP aa ab ac ad as_) (c5 : (!(aa == q.r) || (!(ab == q.n))) = false) (cL : ¬ LessP q.best.c q.best.d ac ad) :
    Calls Tryd.prog 12 #[.pointer (some ⟨g, 0, none⟩), .int .i64 node, .agg #[.int .i64 aa, .int .i64 ab, .int .i64 ac, .int .i64 ad, .string as_]] w fun e w' => e = .returned (.bool true) ∧ (∃ Vp', RfIs w' b g { q with prom := q.prom ++ [node] } Vn Vp' Vc) ∧ Only w w' (fun k => k = g ∨ Vp.ownBlock = some k) := by
  have HL : Aside0 (∀ W, Calls Tryd.prog 32 #[.agg #[.int .i64 q.best.c, .int .i64 q.best.d], .agg #[.int .i64 ac, .int .i64 ad]] W fun e w' => e = .returned (.bool (decide (LessP q.best.c q.best.d ac ad))) ∧ Below W.heap.size W w') := ⟨fun W => carillonref10_Less.calls _ _ _ _ _ W (rless_is _ _ _ _)⟩
  rw [decide_eq_false cL] at HL
  obtain ⟨An, cn, en, hcn, hCn⟩ := Kd.R_reads HP.out.N
  obtain ⟨Ap, cp, ep, hcp, hCp⟩ := Kd.R_reads HP.out.P
  obtain ⟨s1, s2, s3⟩ := hs
  subst en
  subst ep
  have HRA : Aside0 (∀ W, Calls Tryd.prog 30 #[.agg #[.int .i64 aa, .int .i64 ab, .int .i64 ac, .int .i64 ad, .string as_]] W fun e w' => e = .returned (.bool (decide (AccP aa ab ac ad as_))) ∧ Below W.heap.size W w') := ⟨fun W => carillonref10_RightAcceptor.calls aa ab ac ad as_ _ W (racc_is aa ab ac ad as_)⟩
  have HN : Aside0 (∀ W, RfIs W b g q (.slice An q.nodes.length cn) (.slice Ap q.prom.length cp) Vc → Calls Tryd.prog 31 #[.slice An q.nodes.length cn, .int .i64 node] W fun e w' => e = .returned (.bool (decide (node ∈ q.nodes))) ∧ ∃ m, w' = W.drewN m) := ⟨fun W h => has_calls An cn q.nodes node W (Kd.R_reads' h.N).2.2 hcn s1⟩
  have HC : Aside0 (∀ W, RfIs W b g q (.slice An q.nodes.length cn) (.slice Ap q.prom.length cp) Vc → Calls Tryd.prog 31 #[.slice Ap q.prom.length cp, .int .i64 node] W fun e w' => e = .returned (.bool (decide (node ∈ q.prom))) ∧ ∃ m, w' = W.drewN m) := ⟨fun W h => has_calls Ap cp q.prom node W (Kd.R_reads' h.P).2.2 hcp s2⟩
  rw [decide_eq_true cN] at HN
  rw [decide_eq_false cC] at HC
  rw [decide_eq_true cA] at HRA
  obtain ⟨n, hn⟩ : ∃ n, q.nodes.length = n := ⟨_, rfl⟩
  obtain ⟨m, hm⟩ : ∃ m, q.prom.length = m := ⟨_, rfl⟩
  rw [hn] at HN HC HP s1 hcn ⊢
  rw [hm] at HN HC HP s2 hcp ⊢
  clear hCn hCp
  have HB1 := Aside0.mk (below_alloc (Below.refl w.heap.size w) (.cells #[.int .i64 aa, .int .i64 ab, .int .i64 ac, .int .i64 ad, .string as_] 34))
  go_enter Tryd.func12, Tryd.ntmps12
  go_wp2_with (go_at_call 30; refine (HRA.out _).mono ?_)
  rintro e W1 ⟨rfl, hb⟩
  have HBW := Aside0.mk (Below.trans HB1.out (hb.mono (by simp)))
  have HP1 := Aside0.mk (HP.out.below HBW.out)
  have HX := Aside0.mk (blk_below (heap_alloc_new w (.cells #[.int .i64 aa, .int .i64 ab, .int .i64 ac, .int .i64 ad, .string as_] 34)) hb)
  have HWZ := Aside0.mk (Nat.ne_of_lt HP.out.lt)
  clear hb HRA
  have HNq : Aside0 (∀ n, _) := ⟨fun n => HN.out (W1.drewN n) (HP1.out.drewN n)⟩
  have HCq : Aside0 (∀ n, _) := ⟨fun n => HC.out (W1.drewN n) (HP1.out.drewN n)⟩
  clear HN HC
  obtain ⟨h0, h1, h2, h3, h4, h5, h6, h7, h8, h9, h10, h11⟩ := HP1.out.cells
  obtain ⟨hx0, hx1, hx2, hx3, hx4, _, _, _, _, _⟩ := bx5 HX.out
  have hf3 := HP1.out.frozen 3
  go_wp2
  go_quiet (first | (go_at_call 31; with_reducible exact Calls.quiet_of (HNq.out _)) | (go_at_call 31; with_reducible exact Calls.quiet_of (HCq.out _)) | fail)
  clear HNq HCq
  have HP2 := Aside0.mk (HP1.out.drewN nq)
  have HK2 := Aside0.mk (Only.of_below (S := fun k => k = g ∨ (Value.slice Ap m cp).ownBlock = some k) (pw_below_drewN HBW.out nq))
  have HX2 := Aside0.mk (blk_drewN HX.out nq)
  generalize W1.drewN nq = W2 at HP2 HK2 HX2 ⊢
  clear h0 h1 h2 h3 h4 h5 h6 h7 h8 h9 h10 h11 hx0 hx1 hx2 hx3 hx4 hf3 HP1 HBW HX HB1
  obtain ⟨h0, h1, h2, h3, h4, h5, h6, h7, h8, h9, h10, h11⟩ := HP2.out.cells
  have hgl := HP2.out.lt
  have hge := HP2.out.ge
  have HPC := Aside0.mk HP2.out.P
  go_wp2_with ((with_reducible refine gate_builtin (b := .append) (xs := #[.tmp 49, .tmp 51]) rfl ?_); at_builtin; refine Kd.R_append (Kd.int .i64) (w0 := W2) b rfl (.tmp 49) (.tmp 51) 24 3 (.int .i64 0) 8 rfl Tryd.underlying24 info3 rfl (by decide) (by omega) (.slice Ap m cp) q.prom node [.int .i64 node] (fun k => some k ≠ (Value.slice An n cn).ownBlock) (fun _ => False) rfl rfl ?aP (fun _ hk => hk.elim) ?aF ?aO ?aB ?aS ?aL ?_)
  case aP => exact rfl
  case aF => exact (fun k hk e => by have := Kd.R_lt HP2.out.N k e.symm; omega)
  case aO => exact HPC.out
  case aB => exact Below.refl _ _
  case aS => omega
  case aL => rw [hm]; omega
  intro v1 W3 ho hb hg hat
  obtain ⟨Ax, cx, ex⟩ := Kd.R_slice ho
  rw [List.length_append, List.length_singleton, hm] at ex
  subst ex
  have hG := HP2.out.grewP ho hg hat
  have HP4 := Aside0.mk hG.1
  have HK4 := Aside0.mk (HK2.out.trans hG.2)
  have hX3 := blk_grown HP2.out.X hg (fun e => (HP2.out.neN HP2.out.X (by decide)).2.1 e.symm)
  have hX4 := blk_grown HX2.out hg (fun e => (HP2.out.neN HX2.out (by decide)).2.1 e.symm)
  have HX4 := Aside0.mk (blk_far (p := ⟨g, 3, none⟩) hX4 (Ne.symm HWZ.out) (.slice Ax (m + 1) cx))
  have hc3 : W3.cell? ⟨g, 3, none⟩ = some (.slice Ap m cp) := (blk_cell hX3 3).trans rfl
  have hf33 := blk_frozen hX3 3
  clear ho hb hg hat hG hX3 hX4 HPC hgl hge HX2
  clear h0 h1 h2 h3 h4 h5 h6 h7 h8 h9 h10 h11
  go_wp2
  generalize W3.setCell ⟨g, 3, none⟩ (.slice Ax (m + 1) cx) = W4 at HP4 HK4 HX4 ⊢
  clear hc3 hf33
  obtain ⟨h0, h1, h2, h3, h4, h5, h6, h7, h8, h9, h10, h11⟩ := HP4.out.cells
  dsimp only at h0 h1 h2 h3 h4 h5 h6 h7 h8 h9 h10 h11
  obtain ⟨hx0, hx1, hx2, hx3, hx4, _, _, _, _, _⟩ := bx5 HX4.out
  go_still_tail 7, (by kernel_rfl)
  change wpList _ _ _ _ _ W4.drew
  go_wp2_with (go_at_call 32; refine (HL.out _).mono ?_)
  rintro e W5 ⟨rfl, hb⟩
  have HP5 := Aside0.mk (HP4.out.drew.below hb)
  have HK5 := Aside0.mk (HK4.out.trans (Only.of_below (Below.trans (below_drew (Below.refl W4.heap.size W4)) hb)))
  have HX5 := Aside0.mk (blk_below (blk_drew HX4.out) hb)
  clear hb h0 h1 h2 h3 h4 h5 h6 h7 h8 h9 h10 h11 hx0 hx1 hx2 hx3 hx4
  go_wp2
  go_ret
  exact ⟨rfl, ⟨_, HP5.out⟩, HK5.out⟩
set_option maxHeartbeats 4000000 in
set_option maxRecDepth 100000 in
theorem rprom_7 (b g : Nat) (q : RfS) (Vn Vp Vc : Value) (node : Int) (aa ab ac ad : Int) (as_ : ByteArray) (w : World) (HP : Aside0 (RfIs w b g q Vn Vp Vc)) (hs : q.short) (c0 : (q.st != 0) = false) (cN : node ∈ q.nodes) (cC : node ∉ q.prom) (cA : AccP aa ab ac ad as_) (c5 : (!(aa == q.r) || (!(ab == q.n))) = false) (cL : LessP q.best.c q.best.d ac ad) :
    Calls Tryd.prog 12 #[.pointer (some ⟨g, 0, none⟩), .int .i64 node, .agg #[.int .i64 aa, .int .i64 ab, .int .i64 ac, .int .i64 ad, .string as_]] w fun e w' => e = .returned (.bool true) ∧ (∃ Vp', RfIs w' b g { q with prom := q.prom ++ [node], best := ⟨aa, ab, ac, ad, as_⟩ } Vn Vp' Vc) ∧ Only w w' (fun k => k = g ∨ Vp.ownBlock = some k) := by
  have HL : Aside0 (∀ W, Calls Tryd.prog 32 #[.agg #[.int .i64 q.best.c, .int .i64 q.best.d], .agg #[.int .i64 ac, .int .i64 ad]] W fun e w' => e = .returned (.bool (decide (LessP q.best.c q.best.d ac ad))) ∧ Below W.heap.size W w') := ⟨fun W => carillonref10_Less.calls _ _ _ _ _ W (rless_is _ _ _ _)⟩
  rw [decide_eq_true cL] at HL
  obtain ⟨An, cn, en, hcn, hCn⟩ := Kd.R_reads HP.out.N
  obtain ⟨Ap, cp, ep, hcp, hCp⟩ := Kd.R_reads HP.out.P
  obtain ⟨s1, s2, s3⟩ := hs
  subst en
  subst ep
  have HRA : Aside0 (∀ W, Calls Tryd.prog 30 #[.agg #[.int .i64 aa, .int .i64 ab, .int .i64 ac, .int .i64 ad, .string as_]] W fun e w' => e = .returned (.bool (decide (AccP aa ab ac ad as_))) ∧ Below W.heap.size W w') := ⟨fun W => carillonref10_RightAcceptor.calls aa ab ac ad as_ _ W (racc_is aa ab ac ad as_)⟩
  have HN : Aside0 (∀ W, RfIs W b g q (.slice An q.nodes.length cn) (.slice Ap q.prom.length cp) Vc → Calls Tryd.prog 31 #[.slice An q.nodes.length cn, .int .i64 node] W fun e w' => e = .returned (.bool (decide (node ∈ q.nodes))) ∧ ∃ m, w' = W.drewN m) := ⟨fun W h => has_calls An cn q.nodes node W (Kd.R_reads' h.N).2.2 hcn s1⟩
  have HC : Aside0 (∀ W, RfIs W b g q (.slice An q.nodes.length cn) (.slice Ap q.prom.length cp) Vc → Calls Tryd.prog 31 #[.slice Ap q.prom.length cp, .int .i64 node] W fun e w' => e = .returned (.bool (decide (node ∈ q.prom))) ∧ ∃ m, w' = W.drewN m) := ⟨fun W h => has_calls Ap cp q.prom node W (Kd.R_reads' h.P).2.2 hcp s2⟩
  rw [decide_eq_true cN] at HN
  rw [decide_eq_false cC] at HC
  rw [decide_eq_true cA] at HRA
  obtain ⟨n, hn⟩ : ∃ n, q.nodes.length = n := ⟨_, rfl⟩
  obtain ⟨m, hm⟩ : ∃ m, q.prom.length = m := ⟨_, rfl⟩
  rw [hn] at HN HC HP s1 hcn ⊢
  rw [hm] at HN HC HP s2 hcp ⊢
  clear hCn hCp
  have HB1 := Aside0.mk (below_alloc (Below.refl w.heap.size w) (.cells #[.int .i64 aa, .int .i64 ab, .int .i64 ac, .int .i64 ad, .string as_] 34))
  go_enter Tryd.func12, Tryd.ntmps12
  go_wp2_with (go_at_call 30; refine (HRA.out _).mono ?_)
  rintro e W1 ⟨rfl, hb⟩
  have HBW := Aside0.mk (Below.trans HB1.out (hb.mono (by simp)))
  have HP1 := Aside0.mk (HP.out.below HBW.out)
  have HX := Aside0.mk (blk_below (heap_alloc_new w (.cells #[.int .i64 aa, .int .i64 ab, .int .i64 ac, .int .i64 ad, .string as_] 34)) hb)
  have HWZ := Aside0.mk (Nat.ne_of_lt HP.out.lt)
  clear hb HRA
  have HNq : Aside0 (∀ n, _) := ⟨fun n => HN.out (W1.drewN n) (HP1.out.drewN n)⟩
  have HCq : Aside0 (∀ n, _) := ⟨fun n => HC.out (W1.drewN n) (HP1.out.drewN n)⟩
  clear HN HC
  obtain ⟨h0, h1, h2, h3, h4, h5, h6, h7, h8, h9, h10, h11⟩ := HP1.out.cells
  obtain ⟨hx0, hx1, hx2, hx3, hx4, _, _, _, _, _⟩ := bx5 HX.out
  have hf3 := HP1.out.frozen 3
  go_wp2
  go_quiet (first | (go_at_call 31; with_reducible exact Calls.quiet_of (HNq.out _)) | (go_at_call 31; with_reducible exact Calls.quiet_of (HCq.out _)) | fail)
  clear HNq HCq
  have HP2 := Aside0.mk (HP1.out.drewN nq)
  have HK2 := Aside0.mk (Only.of_below (S := fun k => k = g ∨ (Value.slice Ap m cp).ownBlock = some k) (pw_below_drewN HBW.out nq))
  have HX2 := Aside0.mk (blk_drewN HX.out nq)
  generalize W1.drewN nq = W2 at HP2 HK2 HX2 ⊢
  clear h0 h1 h2 h3 h4 h5 h6 h7 h8 h9 h10 h11 hx0 hx1 hx2 hx3 hx4 hf3 HP1 HBW HX HB1
  obtain ⟨h0, h1, h2, h3, h4, h5, h6, h7, h8, h9, h10, h11⟩ := HP2.out.cells
  have hgl := HP2.out.lt
  have hge := HP2.out.ge
  have HPC := Aside0.mk HP2.out.P
  go_wp2_with ((with_reducible refine gate_builtin (b := .append) (xs := #[.tmp 49, .tmp 51]) rfl ?_); at_builtin; refine Kd.R_append (Kd.int .i64) (w0 := W2) b rfl (.tmp 49) (.tmp 51) 24 3 (.int .i64 0) 8 rfl Tryd.underlying24 info3 rfl (by decide) (by omega) (.slice Ap m cp) q.prom node [.int .i64 node] (fun k => some k ≠ (Value.slice An n cn).ownBlock) (fun _ => False) rfl rfl ?aP (fun _ hk => hk.elim) ?aF ?aO ?aB ?aS ?aL ?_)
  case aP => exact rfl
  case aF => exact (fun k hk e => by have := Kd.R_lt HP2.out.N k e.symm; omega)
  case aO => exact HPC.out
  case aB => exact Below.refl _ _
  case aS => omega
  case aL => rw [hm]; omega
  intro v1 W3 ho hb hg hat
  obtain ⟨Ax, cx, ex⟩ := Kd.R_slice ho
  rw [List.length_append, List.length_singleton, hm] at ex
  subst ex
  have hG := HP2.out.grewP ho hg hat
  have HP4 := Aside0.mk hG.1
  have HK4 := Aside0.mk (HK2.out.trans hG.2)
  have hX3 := blk_grown HP2.out.X hg (fun e => (HP2.out.neN HP2.out.X (by decide)).2.1 e.symm)
  have hX4 := blk_grown HX2.out hg (fun e => (HP2.out.neN HX2.out (by decide)).2.1 e.symm)
  have HX4 := Aside0.mk (blk_far (p := ⟨g, 3, none⟩) hX4 (Ne.symm HWZ.out) (.slice Ax (m + 1) cx))
  have hc3 : W3.cell? ⟨g, 3, none⟩ = some (.slice Ap m cp) := (blk_cell hX3 3).trans rfl
  have hf33 := blk_frozen hX3 3
  clear ho hb hg hat hG hX3 hX4 HPC hgl hge HX2
  clear h0 h1 h2 h3 h4 h5 h6 h7 h8 h9 h10 h11
  go_wp2
  generalize W3.setCell ⟨g, 3, none⟩ (.slice Ax (m + 1) cx) = W4 at HP4 HK4 HX4 ⊢
  clear hc3 hf33
  obtain ⟨h0, h1, h2, h3, h4, h5, h6, h7, h8, h9, h10, h11⟩ := HP4.out.cells
  dsimp only at h0 h1 h2 h3 h4 h5 h6 h7 h8 h9 h10 h11
  obtain ⟨hx0, hx1, hx2, hx3, hx4, _, _, _, _, _⟩ := bx5 HX4.out
  go_still_tail 7, (by kernel_rfl)
  change wpList _ _ _ _ _ W4.drew
  go_wp2_with (go_at_call 32; refine (HL.out _).mono ?_)
  rintro e W5 ⟨rfl, hb⟩
  have HP5 := Aside0.mk (HP4.out.drew.below hb)
  have HK5 := Aside0.mk (HK4.out.trans (Only.of_below (Below.trans (below_drew (Below.refl W4.heap.size W4)) hb)))
  have HX5 := Aside0.mk (blk_below (blk_drew HX4.out) hb)
  clear hb h0 h1 h2 h3 h4 h5 h6 h7 h8 h9 h10 h11 hx0 hx1 hx2 hx3 hx4
  obtain ⟨h0, h1, h2, h3, h4, h5, h6, h7, h8, h9, h10, h11⟩ := HP5.out.cells
  dsimp only at h0 h1 h2 h3 h4 h5 h6 h7 h8 h9 h10 h11
  obtain ⟨hx0, hx1, hx2, hx3, hx4, _, _, _, _, _⟩ := bx5 HX5.out
  have hf4 := HP5.out.frozen 4
  have hf5 := HP5.out.frozen 5
  have hf6 := HP5.out.frozen 6
  have hf7 := HP5.out.frozen 7
  have hf8 := HP5.out.frozen 8
  go_wp2
  go_ret
  exact ⟨rfl, ⟨_, HP5.out.setBest ⟨aa, ab, ac, ad, as_⟩⟩, HK5.out.trans (((((((Only.refl _ (· = g)).set_ _ _).set_ _ _).set_ _ _).set_ _ _).set_ _ _).mono (fun i _ hi => .inl hi))⟩
theorem rprom_calls (b g : Nat) (q : RfS) (Vn Vp Vc : Value) (node : Int) (a : AcS) (w : World) (h : RfIs w b g q Vn Vp Vc) (hs : q.short) :
    Calls Tryd.prog 12 #[.pointer (some ⟨g, 0, none⟩), .int .i64 node, .agg #[.int .i64 a.a, .int .i64 a.b, .int .i64 a.c, .int .i64 a.d, .string a.s]] w fun e w' => e = .returned (.bool (q.promise node a).2) ∧ (∃ Vp', RfIs w' b g (q.promise node a).1 Vn Vp' Vc) ∧ Only w w' (fun k => k = g ∨ Vp.ownBlock = some k) := by
  unfold RfS.promise
  by_cases c0 : q.st = 0
  case neg => rw [if_neg (fun h => c0 h.1)]; exact (rprom_1 b g q Vn Vp Vc node _ _ _ _ _ w ⟨h⟩ hs (bne_iff_ne.mpr c0)).mono (fun e w' h => ⟨h.1, ⟨_, h.2.1⟩, h.2.2⟩)
  have c0' : (q.st != 0) = false := bne_eq_false_iff_eq.mpr c0
  by_cases cN : node ∈ q.nodes
  case neg => rw [if_neg (fun h => cN h.2.1)]; exact (rprom_2 b g q Vn Vp Vc node _ _ _ _ _ w ⟨h⟩ hs c0' cN).mono (fun e w' h => ⟨h.1, ⟨_, h.2.1⟩, h.2.2⟩)
  by_cases cC : node ∈ q.prom
  case pos => rw [if_neg (fun h => h.2.2.1 cC)]; exact (rprom_3 b g q Vn Vp Vc node _ _ _ _ _ w ⟨h⟩ hs c0' cN cC).mono (fun e w' h => ⟨h.1, ⟨_, h.2.1⟩, h.2.2⟩)
  by_cases cA : AccP a.a a.b a.c a.d a.s
  case neg => rw [if_neg (fun h => cA h.2.2.2.1)]; exact (rprom_4 b g q Vn Vp Vc node _ _ _ _ _ w ⟨h⟩ hs c0' cN cC cA).mono (fun e w' h => ⟨h.1, ⟨_, h.2.1⟩, h.2.2⟩)
  by_cases c5 : a.a = q.r ∧ a.b = q.n
  case neg =>
    rw [if_neg (fun h => c5 h.2.2.2.2)]
    exact (rprom_5 b g q Vn Vp Vc node _ _ _ _ _ w ⟨h⟩ hs c0' cN cC cA (by by_cases e1 : a.a = q.r <;> by_cases e2 : a.b = q.n <;> simp_all)).mono (fun e w' h => ⟨h.1, ⟨_, h.2.1⟩, h.2.2⟩)
  have c5' : (!(a.a == q.r) || (!(a.b == q.n))) = false := by simp [c5.1, c5.2]
  rw [if_pos ⟨c0, cN, cC, cA, c5.1, c5.2⟩]
  by_cases cL : LessP q.best.c q.best.d a.c a.d
  · rw [if_pos cL]
    exact rprom_7 b g q Vn Vp Vc node _ _ _ _ _ w ⟨h⟩ hs c0' cN cC cA c5' cL
  · rw [if_neg cL]
    exact rprom_6 b g q Vn Vp Vc node _ _ _ _ _ w ⟨h⟩ hs c0' cN cC cA c5' cL

end Go.Proofs.YtnmcknfkmelnbaaDoor.P
