-- Printed by this session's program wip/xp.py (a turned copy of the kit's printer): functions, their contracts.
import Derived.Test.YtbcpjegakjcmgaaPx0
import Derived.Test.YtbcpjegakjcmgaaPx1
import Derived.Test.YtbcpjegakjcmgaaPx3
import Derived.Test.YtbcpjegakjcmgaaPx4
import Derived.Test.YtbcpjegakjcmgaaPx7
namespace Go.Proofs.Ytbcpjegakjcmgaa.P
open Go.RowKit Go.Proofs.YtbcpjegakjcmgaaW.PrintWords Go.Proofs.YtbcpjegakjcmgaaW.PrintLast Go.Proofs.YtbcpjegakjcmgaaW.PrintMore
attribute [local go_sem] max2_int min2_int max_two min_two max_three min_three max_four min_four   -- for this text's walks alone
set_option linter.unusedVariables false
set_option linter.unusedSimpArgs false

attribute [local go_sem high] eqA26
/-! ### carillonlaw12_views: function 21 -/
def carillonlaw12_views.l0 : Nat → Int → Int → List (S26) → Int → List (S26) → Option (Bool)
 | 0, _, _, _, _, _ => none
 | k + 1, x5, x235000, x235001, x236000, x236001 => if x5 < (x235001.length : Int) then (if 0 ≤ x5 then (if x5 < (x236001.length : Int) then (if (!(((rd_T26 x235001 x5).f0) == ((rd_T26 x236001 x5).f0)) || (!(((rd_T26 x235001 x5).f1) == ((rd_T26 x236001 x5).f1)))) = true then (some false) else (carillonlaw12_views.l0 k (wrap64 (x5 + 1)) x235000 x235001 x236000 x236001)) else (none)) else (none)) else (some true)
def carillonlaw12_views.f (k : Nat) (a0_0 : Int) (l0_1 : List (S26)) (a1_0 : Int) (l1_1 : List (S26)) : Option (Bool) := if a0_0 = a1_0 then (if (l0_1.length : Int) = (l1_1.length : Int) then (carillonlaw12_views.l0 k 0 a0_0 l0_1 a1_0 l1_1) else (some false)) else (some false)
theorem carillonlaw12_views.mono_l : ∀ k, (∀ y0 y1 y2 y3 y4, LeO (carillonlaw12_views.l0 k y0 y1 y2 y3 y4) (carillonlaw12_views.l0 (k + 1) y0 y1 y2 y3 y4))
 | 0 => fun _ _ _ _ _ r h => by simp [carillonlaw12_views.l0] at h
 | k + 1 => by
  have ih0 := carillonlaw12_views.mono_l k
  ·intro y0 y1 y2 y3 y4
   unfold carillonlaw12_views.l0
   repeat' first
   | (with_reducible exact ih0 _ _ _ _ _)
   | (with_reducible exact LeO.refl _)
   | (with_reducible exact LeO.none _)
   | (with_reducible refine LeO.ite ?_ ?_)
   | (with_reducible refine LeO.bind ?_ (fun _ => ?_))
   | exact ih0 _ _ _ _ _
   | exact LeO.none _
   | refine LeO.ite ?_ ?_
   | refine LeO.bind ?_ (fun _ => ?_)
theorem carillonlaw12_views.mono : ∀ a0 a1 a2 a3 k, LeO (carillonlaw12_views.f k a0 a1 a2 a3) (carillonlaw12_views.f (k + 1) a0 a1 a2 a3) := by
 intro a0 a1 a2 a3 k
 have ih0 := carillonlaw12_views.mono_l k
 unfold carillonlaw12_views.f
 repeat' first
   | (with_reducible exact ih0 _ _ _ _ _)
   | (with_reducible exact LeO.refl _)
   | (with_reducible exact LeO.none _)
   | (with_reducible refine LeO.ite ?_ ?_)
   | (with_reducible refine LeO.bind ?_ (fun _ => ?_))
   | exact ih0 _ _ _ _ _
   | exact LeO.none _
   | refine LeO.ite ?_ ?_
   | refine LeO.bind ?_ (fun _ => ?_)
set_option maxHeartbeats 8000000 in
set_option maxRecDepth 100000 in
theorem carillonlaw12_views.calls (k : Nat) (a0_0 : Int) (A0_1 : Option Addr) (c0_1 : Nat) (l0_1 : List (S26)) (a1_0 : Int) (A1_1 : Option Addr) (c1_1 : Nat) (l1_1 : List (S26)) (r : Bool) (w : World) (hr0_1 : Kd.C k26 w A0_1 l0_1.length l0_1) (hc0_1 : l0_1.length ≤ c0_1) (hr1_1 : Kd.C k26 w A1_1 l1_1.length l1_1) (hc1_1 : l1_1.length ≤ c1_1) (h : carillonlaw12_views.f k a0_0 l0_1 a1_0 l1_1 = some r) :
  Calls Try.prog 21 #[.agg #[.int .i64 a0_0, .slice A0_1 l0_1.length c0_1], .agg #[.int .i64 a1_0, .slice A1_1 l1_1.length c1_1]] w fun e w' => e = .returned (.bool r) ∧ Below w.heap.size w w' := by
 have hu24 := Try.underlying24
 have hu26 := Try.underlying26
 have HR0_1 := Aside0.mk hr0_1
 have HC0_1 := Aside0.mk hc0_1
 clear hr0_1 hc0_1
 have HR1_1 := Aside0.mk hr1_1
 have HC1_1 := Aside0.mk hc1_1
 clear hr1_1 hc1_1
 have HB := Aside0.mk (Below.refl w.heap.size w)
 have H : (if a0_0 = a1_0 then (if (l0_1.length : Int) = (l1_1.length : Int) then (carillonlaw12_views.l0 k 0 a0_0 l0_1 a1_0 l1_1) else (some false)) else (some false)) = some r := h
 clear h
 by_cases c3 : a0_0 = a1_0
 ·rw [if_pos c3] at H
  have c3b0 : (a0_0 == a1_0) = true := beq_iff_eq.mpr c3
  have c3b1 : (a0_0 != a1_0) = false := bne_eq_false_iff_eq.mpr c3
  clear c3
  by_cases c4 : (l0_1.length : Int) = (l1_1.length : Int)
  ·rw [if_pos c4] at H
   have c4b0 : ((l0_1.length : Int) == (l1_1.length : Int)) = true := beq_iff_eq.mpr c4
   have c4b1 : ((l0_1.length : Int) != (l1_1.length : Int)) = false := bne_eq_false_iff_eq.mpr c4
   have c4b2 : (l0_1.length == l1_1.length) = true := by first | simpa using c4 | (simp at c4 ⊢; omega)
   clear c4
   have H' := Aside0.mk H
   clear H
   go_enter Try.func21, Try.ntmps21
   go_wp2_with (first | ((with_reducible refine gate_dst (N := 2) rfl ?_); (try (refine gate_guard (by rfl) ?_; dsimp only)); refine box_event ?hg (N := 2) ?hd (cs := #[.int .i64 a0_0, .slice A0_1 l0_1.length c0_1]) (t := 24) ?hr ?_; (case hd => rfl); (case hg => rfl); (case hr => first | (go_simp; done) | (go_simp; rfl)); intro gb234 hg w5 hbox hb; have n0_ := Aside0.mk (below_step bw hb); have n1_ := Aside0.mk (hbox); have n2_ := Aside0.mk ((g1 hg bw : w.heap.size ≤ gb234)); have n3_ := Aside0.mk ((g1 hg bw : w.heap.size ≤ gb234)); clear HB; have HB := n0_; have BK234 := n1_; have GW234 := n2_; have GE234 := n3_; clear n0_ n1_ n2_ n3_; clear hb hbox hg) | ((with_reducible refine gate_dst (N := 3) rfl ?_); (try (refine gate_guard (by rfl) ?_; dsimp only)); refine box_event ?hg (N := 3) ?hd (cs := #[.int .i64 a1_0, .slice A1_1 l1_1.length c1_1]) (t := 24) ?hr ?_; (case hd => rfl); (case hg => rfl); (case hr => first | (go_simp; done) | (go_simp; rfl)); intro gb235 hg w6 hbox hb; have n0_ := Aside0.mk (nb BK234.out hb); have n1_ := Aside0.mk (below_step bw hb); have n2_ := Aside0.mk (hbox); have n3_ := Aside0.mk ((g1 hg bw : w.heap.size ≤ gb235)); have n4_ := Aside0.mk ((g1 hg bw : w.heap.size ≤ gb235)); have n5_ := Aside0.mk ((n1 hg BK234.out : gb234 ≠ gb235)); have n6_ := Aside0.mk ((n2 hg BK234.out : gb235 ≠ gb234)); clear BK234; clear HB; have BK234 := n0_; have HB := n1_; have BK235 := n2_; have GW235 := n3_; have GE235 := n4_; have NB234_235 := n5_; have NB235_234 := n6_; clear n0_ n1_ n2_ n3_ n4_ n5_ n6_; clear hb hbox hg; have hnb7 := NB234_235.out; have hnc7 := NB235_234.out; have hcz8_0 := bc2_0 BK234.out; have hcz8_1 := bc2_1 BK234.out; have hfz8_0 := blk_frozen BK234.out 0; have hfz8_1 := blk_frozen BK234.out 1; have hcz9_0 := bc2_0 BK235.out; have hcz9_1 := bc2_1 BK235.out; have hfz9_0 := blk_frozen BK235.out 0; have hfz9_1 := blk_frozen BK235.out 1))
   go_loopg [5] k (fun kq v5 w' => ∃ (x5_1 : Int), v5 = .int .i64 x5_1 ∧ Aside0 (carillonlaw12_views.l0 kq x5_1 a0_0 l0_1 a1_0 l1_1 = some r) ∧ Aside0 (kq ≤ k) ∧ Aside0 (w'.heap[gb234]? = some (.cells #[.int .i64 a0_0, (.slice A0_1 l0_1.length c0_1)] 24 (0, 0))) ∧ Aside0 (w'.heap[gb235]? = some (.cells #[.int .i64 a1_0, (.slice A1_1 l1_1.length c1_1)] 24 (0, 0))) ∧ Aside0 (Below w.heap.size w w'))
   case atStart => exact ⟨(0), (by first | rfl | (simp; done) | (simp [*]; done)), H', ⟨Nat.le_refl _⟩, ⟨by (with_reducible repeat (first | refine blk_drewN ?_ _ | refine blk_drew ?_ | refine blk_alloc ?_ _)); exact BK234.out⟩, ⟨by (with_reducible repeat (first | refine blk_drewN ?_ _ | refine blk_drew ?_ | refine blk_alloc ?_ _)); exact BK235.out⟩, ⟨bw⟩⟩
   case round =>
    clear H'
    try clear c1
    try clear c2
    try clear p2
    try clear c3
    try clear c3b0
    try clear c3b1
    try clear c4
    try clear c4b0
    try clear c4b1
    try clear c4b2
    try clear c7
    try clear hcz8_0
    try clear hcz8_1
    try clear hcz9_0
    try clear hcz9_1
    try clear hfz8_0
    try clear hfz8_1
    try clear hfz9_0
    try clear hfz9_1
    obtain ⟨x5_1, rfl, HA, HK1, BK234, BK235, HB⟩ := hrel
    cases gk with
    | zero => exact absurd HA.out (by simp [carillonlaw12_views.l0])
    | succ k1 =>
     have H := HA.out
     clear HA
     simp only [carillonlaw12_views.l0] at H
     by_cases c10 : x5_1 < (l0_1.length : Int)
     ·rw [if_pos c10] at H
      have c10b0 : decide (x5_1 < (l0_1.length : Int)) = true := decide_eq_true c10
      clear c10
      by_cases c11 : 0 ≤ x5_1
      ·rw [if_pos c11] at H
       have c11b0 : decide (0 ≤ x5_1) = true := decide_eq_true c11
       clear c11
       by_cases c12 : x5_1 < (l1_1.length : Int)
       ·rw [if_pos c12] at H
        have c12b0 : decide (x5_1 < (l1_1.length : Int)) = true := decide_eq_true c12
        clear c12
        by_cases c13 : (!(((rd_T26 l0_1 x5_1).f0) == ((rd_T26 l1_1 x5_1).f0)) || (!(((rd_T26 l0_1 x5_1).f1) == ((rd_T26 l1_1 x5_1).f1)))) = true
        ·rw [if_pos c13] at H
         have c13b0 : (!(((rd_T26 l0_1 x5_1).f0) == ((rd_T26 l1_1 x5_1).f0)) || (!(((rd_T26 l0_1 x5_1).f1) == ((rd_T26 l1_1 x5_1).f1)))) = true := c13
         clear c13
         obtain rfl := Option.some.inj H
         have hnb14 := NB234_235.out
         have hnc14 := NB235_234.out
         have hcz15_0 := bc2_0 BK234.out
         have hcz15_1 := bc2_1 BK234.out
         have hfz15_0 := blk_frozen BK234.out 0
         have hfz15_1 := blk_frozen BK234.out 1
         have p236 : 0 ≤ (x5_1 : Int) := of_decide_eq_true (by first | (with_reducible assumption) | assumption)
         have q236 : x5_1 < (l0_1.length : Int) := of_decide_eq_true (by first | (with_reducible assumption) | assumption)
         obtain ⟨ad236, e236, hx236_0, hx236_1⟩ := at_T26 HR0_1.out x5_1 p236 q236
         cases e236
         replace hx236_0 := (HB.out.cell (World.block_lt_of_cell? w _ hx236_0)).trans hx236_0
         replace hx236_1 := (HB.out.cell (World.block_lt_of_cell? w _ hx236_1)).trans hx236_1
         replace p236 := eq_true p236
         replace q236 := eq_true q236
         have hcz16_0 := bc2_0 BK235.out
         have hcz16_1 := bc2_1 BK235.out
         have hfz16_0 := blk_frozen BK235.out 0
         have hfz16_1 := blk_frozen BK235.out 1
         have p237 : 0 ≤ (x5_1 : Int) := of_decide_eq_true (by first | (with_reducible assumption) | assumption)
         have q237 : x5_1 < (l1_1.length : Int) := of_decide_eq_true (by first | (with_reducible assumption) | assumption)
         obtain ⟨ad237, e237, hx237_0, hx237_1⟩ := at_T26 HR1_1.out x5_1 p237 q237
         cases e237
         replace hx237_0 := (HB.out.cell (World.block_lt_of_cell? w _ hx237_0)).trans hx237_0
         replace hx237_1 := (HB.out.cell (World.block_lt_of_cell? w _ hx237_1)).trans hx237_1
         replace p237 := eq_true p237
         replace q237 := eq_true q237
         go_wp2
         repeat (go_quiet (fail); try go_wp2)
         go_ret
         exact ⟨er, bw⟩
        ·rw [if_neg c13] at H
         have c13b0 : (!(((rd_T26 l0_1 x5_1).f0) == ((rd_T26 l1_1 x5_1).f0)) || (!(((rd_T26 l0_1 x5_1).f1) == ((rd_T26 l1_1 x5_1).f1)))) = false := by simpa using c13
         clear c13
         have H' := Aside0.mk H
         clear H
         have hnb17 := NB234_235.out
         have hnc17 := NB235_234.out
         have hcz18_0 := bc2_0 BK234.out
         have hcz18_1 := bc2_1 BK234.out
         have hfz18_0 := blk_frozen BK234.out 0
         have hfz18_1 := blk_frozen BK234.out 1
         have p236 : 0 ≤ (x5_1 : Int) := of_decide_eq_true (by first | (with_reducible assumption) | assumption)
         have q236 : x5_1 < (l0_1.length : Int) := of_decide_eq_true (by first | (with_reducible assumption) | assumption)
         obtain ⟨ad236, e236, hx236_0, hx236_1⟩ := at_T26 HR0_1.out x5_1 p236 q236
         cases e236
         replace hx236_0 := (HB.out.cell (World.block_lt_of_cell? w _ hx236_0)).trans hx236_0
         replace hx236_1 := (HB.out.cell (World.block_lt_of_cell? w _ hx236_1)).trans hx236_1
         replace p236 := eq_true p236
         replace q236 := eq_true q236
         have hcz19_0 := bc2_0 BK235.out
         have hcz19_1 := bc2_1 BK235.out
         have hfz19_0 := blk_frozen BK235.out 0
         have hfz19_1 := blk_frozen BK235.out 1
         have p237 : 0 ≤ (x5_1 : Int) := of_decide_eq_true (by first | (with_reducible assumption) | assumption)
         have q237 : x5_1 < (l1_1.length : Int) := of_decide_eq_true (by first | (with_reducible assumption) | assumption)
         obtain ⟨ad237, e237, hx237_0, hx237_1⟩ := at_T26 HR1_1.out x5_1 p237 q237
         cases e237
         replace hx237_0 := (HB.out.cell (World.block_lt_of_cell? w _ hx237_0)).trans hx237_0
         replace hx237_1 := (HB.out.cell (World.block_lt_of_cell? w _ hx237_1)).trans hx237_1
         replace p237 := eq_true p237
         replace q237 := eq_true q237
         go_wp2
         repeat (go_quiet (fail); try go_wp2)
         go_roundg k1
         case measure => have := HK1.out; omega
         case rel => exact ⟨(wrap64 (x5_1 + 1)), (by first | rfl | (simp; done) | (simp [*]; done)), H', ⟨by have := HK1.out; omega⟩, ⟨by (with_reducible repeat (first | refine blk_drewN ?_ _ | refine blk_drew ?_ | refine blk_alloc ?_ _)); exact BK234.out⟩, ⟨by (with_reducible repeat (first | refine blk_drewN ?_ _ | refine blk_drew ?_ | refine blk_alloc ?_ _)); exact BK235.out⟩, ⟨bw⟩⟩
       ·rw [if_neg c12] at H
        exact absurd H (by simp)
      ·rw [if_neg c11] at H
       exact absurd H (by simp)
     ·rw [if_neg c10] at H
      have c10b0 : decide (x5_1 < (l0_1.length : Int)) = false := decide_eq_false c10
      clear c10
      obtain rfl := Option.some.inj H
      have hnb20 := NB234_235.out
      have hnc20 := NB235_234.out
      have hcz21_0 := bc2_0 BK234.out
      have hcz21_1 := bc2_1 BK234.out
      have hfz21_0 := blk_frozen BK234.out 0
      have hfz21_1 := blk_frozen BK234.out 1
      go_wp2
      go_ret
      exact ⟨er, bw⟩
  ·rw [if_neg c4] at H
   have c4b0 : ((l0_1.length : Int) == (l1_1.length : Int)) = false := beq_eq_false_iff_ne.mpr c4
   have c4b1 : ((l0_1.length : Int) != (l1_1.length : Int)) = true := bne_iff_ne.mpr c4
   have c4b2 : (l0_1.length == l1_1.length) = false := by first | simpa using c4 | (simp at c4 ⊢; omega)
   obtain rfl := Option.some.inj H
   go_enter Try.func21, Try.ntmps21
   go_wp2_with (first | ((with_reducible refine gate_dst (N := 2) rfl ?_); (try (refine gate_guard (by rfl) ?_; dsimp only)); refine box_event ?hg (N := 2) ?hd (cs := #[.int .i64 a0_0, .slice A0_1 l0_1.length c0_1]) (t := 24) ?hr ?_; (case hd => rfl); (case hg => rfl); (case hr => first | (go_simp; done) | (go_simp; rfl)); intro gb234 hg w22 hbox hb; have n0_ := Aside0.mk (below_step bw hb); have n1_ := Aside0.mk (hbox); have n2_ := Aside0.mk ((g1 hg bw : w.heap.size ≤ gb234)); have n3_ := Aside0.mk ((g1 hg bw : w.heap.size ≤ gb234)); clear HB; have HB := n0_; have BK234 := n1_; have GW234 := n2_; have GE234 := n3_; clear n0_ n1_ n2_ n3_; clear hb hbox hg) | ((with_reducible refine gate_dst (N := 3) rfl ?_); (try (refine gate_guard (by rfl) ?_; dsimp only)); refine box_event ?hg (N := 3) ?hd (cs := #[.int .i64 a1_0, .slice A1_1 l1_1.length c1_1]) (t := 24) ?hr ?_; (case hd => rfl); (case hg => rfl); (case hr => first | (go_simp; done) | (go_simp; rfl)); intro gb235 hg w23 hbox hb; have n0_ := Aside0.mk (nb BK234.out hb); have n1_ := Aside0.mk (below_step bw hb); have n2_ := Aside0.mk (hbox); have n3_ := Aside0.mk ((g1 hg bw : w.heap.size ≤ gb235)); have n4_ := Aside0.mk ((g1 hg bw : w.heap.size ≤ gb235)); have n5_ := Aside0.mk ((n1 hg BK234.out : gb234 ≠ gb235)); have n6_ := Aside0.mk ((n2 hg BK234.out : gb235 ≠ gb234)); clear BK234; clear HB; have BK234 := n0_; have HB := n1_; have BK235 := n2_; have GW235 := n3_; have GE235 := n4_; have NB234_235 := n5_; have NB235_234 := n6_; clear n0_ n1_ n2_ n3_ n4_ n5_ n6_; clear hb hbox hg; have hnb24 := NB234_235.out; have hnc24 := NB235_234.out; have hcz25_0 := bc2_0 BK234.out; have hcz25_1 := bc2_1 BK234.out; have hfz25_0 := blk_frozen BK234.out 0; have hfz25_1 := blk_frozen BK234.out 1; have hcz26_0 := bc2_0 BK235.out; have hcz26_1 := bc2_1 BK235.out; have hfz26_0 := blk_frozen BK235.out 0; have hfz26_1 := blk_frozen BK235.out 1))
   go_ret
   exact ⟨er, bw⟩
 ·rw [if_neg c3] at H
  have c3b0 : (a0_0 == a1_0) = false := beq_eq_false_iff_ne.mpr c3
  have c3b1 : (a0_0 != a1_0) = true := bne_iff_ne.mpr c3
  obtain rfl := Option.some.inj H
  go_enter Try.func21, Try.ntmps21
  go_wp2_with (first | ((with_reducible refine gate_dst (N := 2) rfl ?_); (try (refine gate_guard (by rfl) ?_; dsimp only)); refine box_event ?hg (N := 2) ?hd (cs := #[.int .i64 a0_0, .slice A0_1 l0_1.length c0_1]) (t := 24) ?hr ?_; (case hd => rfl); (case hg => rfl); (case hr => first | (go_simp; done) | (go_simp; rfl)); intro gb234 hg w27 hbox hb; have n0_ := Aside0.mk (below_step bw hb); have n1_ := Aside0.mk (hbox); have n2_ := Aside0.mk ((g1 hg bw : w.heap.size ≤ gb234)); have n3_ := Aside0.mk ((g1 hg bw : w.heap.size ≤ gb234)); clear HB; have HB := n0_; have BK234 := n1_; have GW234 := n2_; have GE234 := n3_; clear n0_ n1_ n2_ n3_; clear hb hbox hg) | ((with_reducible refine gate_dst (N := 3) rfl ?_); (try (refine gate_guard (by rfl) ?_; dsimp only)); refine box_event ?hg (N := 3) ?hd (cs := #[.int .i64 a1_0, .slice A1_1 l1_1.length c1_1]) (t := 24) ?hr ?_; (case hd => rfl); (case hg => rfl); (case hr => first | (go_simp; done) | (go_simp; rfl)); intro gb235 hg w28 hbox hb; have n0_ := Aside0.mk (nb BK234.out hb); have n1_ := Aside0.mk (below_step bw hb); have n2_ := Aside0.mk (hbox); have n3_ := Aside0.mk ((g1 hg bw : w.heap.size ≤ gb235)); have n4_ := Aside0.mk ((g1 hg bw : w.heap.size ≤ gb235)); have n5_ := Aside0.mk ((n1 hg BK234.out : gb234 ≠ gb235)); have n6_ := Aside0.mk ((n2 hg BK234.out : gb235 ≠ gb234)); clear BK234; clear HB; have BK234 := n0_; have HB := n1_; have BK235 := n2_; have GW235 := n3_; have GE235 := n4_; have NB234_235 := n5_; have NB235_234 := n6_; clear n0_ n1_ n2_ n3_ n4_ n5_ n6_; clear hb hbox hg; have hnb29 := NB234_235.out; have hnc29 := NB235_234.out; have hcz30_0 := bc2_0 BK234.out; have hcz30_1 := bc2_1 BK234.out; have hfz30_0 := blk_frozen BK234.out 0; have hfz30_1 := blk_frozen BK234.out 1; have hcz31_0 := bc2_0 BK235.out; have hcz31_1 := bc2_1 BK235.out; have hfz31_0 := blk_frozen BK235.out 0; have hfz31_1 := blk_frozen BK235.out 1))
  go_ret
  exact ⟨er, bw⟩

/-! ### carillonlaw12_ViewNext: function 4 -/
mutual
def carillonlaw12_ViewNext.l0 : Nat → List (S26) → List Int → Bool → Int → Int → Int → List (S26) → Int → List (S26) → Option (Bool)
 | 0, _, _, _, _, _, _, _, _, _ => none
 | k + 1, x1, x2, x7, x9, x10, x239000, x239001, x246000, x246001 => if x10 < 2 then ((view_Next.f k x239000 x239001 x1 x2).bind fun bt246 => ((carillonlaw12_views.f k bt246.1 bt246.2.1 x246000 x246001).bind fun t252 => (if t252 = true then (if bt246.2.2 = x9 then (carillonlaw12_ViewNext.l1 k x1 x2 x7 x9 x10 0 x239000 x239001 x246000 x246001 bt246.1 bt246.2.1) else (some false)) else (some false)))) else (some x7)
def carillonlaw12_ViewNext.l1 : Nat → List (S26) → List Int → Bool → Int → Int → Int → Int → List (S26) → Int → List (S26) → Int → List (S26) → Option (Bool)
 | 0, _, _, _, _, _, _, _, _, _, _, _, _ => none
 | k + 1, x1, x2, x7, x9, x10, x14, x239000, x239001, x246000, x246001, x252000, x252001 => if x14 < (x252001.length : Int) then (if 0 ≤ x14 then (carillonlaw12_ViewNext.l1 k x1 x2 x7 x9 x10 (wrap64 (x14 + 1)) x239000 x239001 x246000 x246001 x252000 (x252001.set (x14 : Int).toNat (⟨0, 0⟩ : S26))) else (none)) else (carillonlaw12_ViewNext.l0 k x1 x2 x7 x9 (wrap64 (x10 + 1)) x239000 x239001 x246000 x246001)
end
def carillonlaw12_ViewNext.f (k : Nat) (a0_0 : Int) (l0_1 : List (S26)) (l1 : List (S26)) (l2 : List Int) : Option (Bool) := (carillonlaw12_examples.f).bind fun t239 => ((carillonref12_Next.f k a0_0 l0_1 l1 l2).bind fun bt240 => (carillonlaw12_ViewNext.l0 k l1 l2 t239 bt240.2.2 0 a0_0 l0_1 bt240.1 bt240.2.1))
theorem carillonlaw12_ViewNext.mono_l : ∀ k, (∀ y0 y1 y2 y3 y4 y5 y6 y7 y8, LeO (carillonlaw12_ViewNext.l0 k y0 y1 y2 y3 y4 y5 y6 y7 y8) (carillonlaw12_ViewNext.l0 (k + 1) y0 y1 y2 y3 y4 y5 y6 y7 y8)) ∧ (∀ y0 y1 y2 y3 y4 y5 y6 y7 y8 y9 y10 y11, LeO (carillonlaw12_ViewNext.l1 k y0 y1 y2 y3 y4 y5 y6 y7 y8 y9 y10 y11) (carillonlaw12_ViewNext.l1 (k + 1) y0 y1 y2 y3 y4 y5 y6 y7 y8 y9 y10 y11))
 | 0 => ⟨fun _ _ _ _ _ _ _ _ _ r h => by simp [carillonlaw12_ViewNext.l0] at h, fun _ _ _ _ _ _ _ _ _ _ _ _ r h => by simp [carillonlaw12_ViewNext.l1] at h⟩
 | k + 1 => by
  obtain ⟨ih0, ih1⟩ := carillonlaw12_ViewNext.mono_l k
  refine ⟨?_, ?_⟩
  ·intro y0 y1 y2 y3 y4 y5 y6 y7 y8
   unfold carillonlaw12_ViewNext.l0
   repeat' first
   | (with_reducible exact ih0 _ _ _ _ _ _ _ _ _)
   | (with_reducible exact ih1 _ _ _ _ _ _ _ _ _ _ _ _)
   | (with_reducible exact carillonlaw12_views.mono _ _ _ _ _)
   | (with_reducible exact carillonref12_Next.mono _ _ _ _ _)
   | (with_reducible exact view_Next.mono _ _ _ _ _)
   | (with_reducible exact LeO.refl _)
   | (with_reducible exact LeO.none _)
   | (with_reducible refine LeO.ite ?_ ?_)
   | (with_reducible refine LeO.bind ?_ (fun _ => ?_))
   | exact ih0 _ _ _ _ _ _ _ _ _
   | exact ih1 _ _ _ _ _ _ _ _ _ _ _ _
   | exact carillonlaw12_views.mono _ _ _ _ _
   | exact carillonref12_Next.mono _ _ _ _ _
   | exact view_Next.mono _ _ _ _ _
   | exact LeO.none _
   | refine LeO.ite ?_ ?_
   | refine LeO.bind ?_ (fun _ => ?_)
  ·intro y0 y1 y2 y3 y4 y5 y6 y7 y8 y9 y10 y11
   unfold carillonlaw12_ViewNext.l1
   repeat' first
   | (with_reducible exact ih0 _ _ _ _ _ _ _ _ _)
   | (with_reducible exact ih1 _ _ _ _ _ _ _ _ _ _ _ _)
   | (with_reducible exact carillonlaw12_views.mono _ _ _ _ _)
   | (with_reducible exact carillonref12_Next.mono _ _ _ _ _)
   | (with_reducible exact view_Next.mono _ _ _ _ _)
   | (with_reducible exact LeO.refl _)
   | (with_reducible exact LeO.none _)
   | (with_reducible refine LeO.ite ?_ ?_)
   | (with_reducible refine LeO.bind ?_ (fun _ => ?_))
   | exact ih0 _ _ _ _ _ _ _ _ _
   | exact ih1 _ _ _ _ _ _ _ _ _ _ _ _
   | exact carillonlaw12_views.mono _ _ _ _ _
   | exact carillonref12_Next.mono _ _ _ _ _
   | exact view_Next.mono _ _ _ _ _
   | exact LeO.none _
   | refine LeO.ite ?_ ?_
   | refine LeO.bind ?_ (fun _ => ?_)
theorem carillonlaw12_ViewNext.mono : ∀ a0 a1 a2 a3 k, LeO (carillonlaw12_ViewNext.f k a0 a1 a2 a3) (carillonlaw12_ViewNext.f (k + 1) a0 a1 a2 a3) := by
 intro a0 a1 a2 a3 k
 obtain ⟨ih0, ih1⟩ := carillonlaw12_ViewNext.mono_l k
 unfold carillonlaw12_ViewNext.f
 repeat' first
   | (with_reducible exact ih0 _ _ _ _ _ _ _ _ _)
   | (with_reducible exact ih1 _ _ _ _ _ _ _ _ _ _ _ _)
   | (with_reducible exact carillonlaw12_views.mono _ _ _ _ _)
   | (with_reducible exact carillonref12_Next.mono _ _ _ _ _)
   | (with_reducible exact view_Next.mono _ _ _ _ _)
   | (with_reducible exact LeO.refl _)
   | (with_reducible exact LeO.none _)
   | (with_reducible refine LeO.ite ?_ ?_)
   | (with_reducible refine LeO.bind ?_ (fun _ => ?_))
   | exact ih0 _ _ _ _ _ _ _ _ _
   | exact ih1 _ _ _ _ _ _ _ _ _ _ _ _
   | exact carillonlaw12_views.mono _ _ _ _ _
   | exact carillonref12_Next.mono _ _ _ _ _
   | exact view_Next.mono _ _ _ _ _
   | exact LeO.none _
   | refine LeO.ite ?_ ?_
   | refine LeO.bind ?_ (fun _ => ?_)
set_option maxHeartbeats 8000000 in
set_option maxRecDepth 100000 in
theorem carillonlaw12_ViewNext.calls (k : Nat) (a0_0 : Int) (A0_1 : Option Addr) (c0_1 : Nat) (l0_1 : List (S26)) (A1 : Option Addr) (c1 : Nat) (l1 : List (S26)) (A2 : Option Addr) (c2 : Nat) (l2 : List Int) (r : Bool) (w : World) (hr0_1 : Kd.C k26 w A0_1 l0_1.length l0_1) (hc0_1 : l0_1.length ≤ c0_1) (hr1 : Kd.C k26 w A1 l1.length l1) (hc1 : l1.length ≤ c1) (hr2 : Kd.C (Kd.int .i64) w A2 l2.length l2) (hc2 : l2.length ≤ c2) (hr_ : Aside0 (r = true)) (h : carillonlaw12_ViewNext.f k a0_0 l0_1 l1 l2 = some r) :
  Calls Try.prog 4 #[.agg #[.int .i64 a0_0, .slice A0_1 l0_1.length c0_1], .slice A1 l1.length c1, .slice A2 l2.length c2] w fun e w' => e = .returned (.bool r) ∧ Below w.heap.size w w' := by
 have hu24 := Try.underlying24
 have hu26 := Try.underlying26
 have HR0_1 := Aside0.mk hr0_1
 have HC0_1 := Aside0.mk hc0_1
 clear hr0_1 hc0_1
 have HR1 := Aside0.mk hr1
 have HC1 := Aside0.mk hc1
 clear hr1 hc1
 have HR2 := Aside0.mk hr2
 have HC2 := Aside0.mk hc2
 clear hr2 hc2
 have HB := Aside0.mk (Below.refl w.heap.size w)
 have H : ((carillonlaw12_examples.f).bind fun t239 => ((carillonref12_Next.f k a0_0 l0_1 l1 l2).bind fun bt240 => (carillonlaw12_ViewNext.l0 k l1 l2 t239 bt240.2.2 0 a0_0 l0_1 bt240.1 bt240.2.1))) = some r := h
 clear h
 replace H := Option.bind_eq_some_iff.mp H
 obtain ⟨t239, A40, H⟩ := H
 replace H : ((carillonref12_Next.f k a0_0 l0_1 l1 l2).bind fun bt240 => (carillonlaw12_ViewNext.l0 k l1 l2 t239 bt240.2.2 0 a0_0 l0_1 bt240.1 bt240.2.1)) = some r := H
 have A4 := Aside0.mk A40
 clear A40
 replace H := Option.bind_eq_some_iff.mp H
 obtain ⟨⟨t240, t241, t244⟩, A50, H⟩ := H
 replace H : (carillonlaw12_ViewNext.l0 k l1 l2 t239 t244 0 a0_0 l0_1 t240 t241) = some r := H
 have A5 := Aside0.mk A50
 clear A50
 have H' := Aside0.mk H
 clear H
 go_enter Try.func4, Try.ntmps4
 go_wp2_with (first | ((with_reducible refine gate_dst (N := 3) rfl ?_); refine box_event ?hg (N := 3) ?hd (cs := #[.int .i64 a0_0, .slice A0_1 l0_1.length c0_1]) (t := 24) ?hr ?_; (case hd => rfl); (case hg => rfl); (case hr => first | (go_simp; done) | (go_simp; rfl)); intro gb238 hg w6 hbox hb; have n0_ := Aside0.mk (below_step bw hb); have n1_ := Aside0.mk (hbox); have n2_ := Aside0.mk ((g1 hg bw : w.heap.size ≤ gb238)); have n3_ := Aside0.mk ((g1 hg bw : w.heap.size ≤ gb238)); clear HB; have HB := n0_; have BK238 := n1_; have GW238 := n2_; have GE238 := n3_; clear n0_ n1_ n2_ n3_; clear hb hbox hg) | ((with_reducible refine gate_callee (f := 7) rfl ?_); refine goesL_ (some 15) rfl rfl Try.func7 (by kernel_rfl) rfl #[] rfl am ?_; (with_reducible refine (carillonlaw12_examples.calls  t239 _ A4.out).mono ?_); rintro e w7 ⟨rfl, hb⟩; refine ⟨_, rfl, ?_⟩; have n0_ := Aside0.mk (nb BK238.out hb); have n1_ := Aside0.mk (below_step bw hb); clear BK238; clear HB; have BK238 := n0_; have HB := n1_; clear n0_ n1_; (try clear hb); (try clear hb2); (try clear hk); (try clear hi); have hcz8_0 := bc2_0 BK238.out; have hcz8_1 := bc2_1 BK238.out; have hfz8_0 := blk_frozen BK238.out 0; have hfz8_1 := blk_frozen BK238.out 1) | ((with_reducible refine gate_callee (f := 19) rfl ?_); refine goesL_ (some 20) rfl rfl Try.func19 (by kernel_rfl) rfl #[.agg #[.int .i64 a0_0, .slice A0_1 l0_1.length c0_1], .slice A1 l1.length c1, .slice A2 l2.length c2] rfl am ?_; (with_reducible refine (carillonref12_Next.calls k a0_0 _ _ l0_1 _ _ l1 _ _ l2 t240 t241 t244 _ ?side1 ?side2 ?side3 ?side4 ?side5 ?side6 A5.out).mono ?_); (case side1 => repeat (first | exact (Kd.C_below HR0_1.out HB.out) | (with_reducible refine Kd.C_alloc ?_ _) | (with_reducible refine Kd.C_drewN ?_ _) | (with_reducible refine Kd.C_drew ?_))); (case side2 => exact HC0_1.out); (case side3 => repeat (first | exact (Kd.C_below HR1.out HB.out) | (with_reducible refine Kd.C_alloc ?_ _) | (with_reducible refine Kd.C_drewN ?_ _) | (with_reducible refine Kd.C_drew ?_))); (case side4 => exact HC1.out); (case side5 => repeat (first | exact (Kd.C_below HR2.out HB.out) | (with_reducible refine Kd.C_alloc ?_ _) | (with_reducible refine Kd.C_drewN ?_ _) | (with_reducible refine Kd.C_drew ?_))); (case side6 => exact HC2.out); rintro e w9 ⟨v242, rfl, ho0, hb⟩; refine ⟨_, rfl, ?_⟩; have n0_ := Aside0.mk (Kd.R_lower ho0 (below_size bw)); have n1_ := Aside0.mk (nb BK238.out hb); have n2_ := Aside0.mk (below_step bw hb); clear BK238; clear HB; have HO243 := n0_; have BK238 := n1_; have HB := n2_; clear n0_ n1_ n2_; (try clear hb); (try clear hb2); (try clear hk); (try clear hi); (try clear ho0)) | ((with_reducible refine gate_dst (N := 8) rfl ?_); refine box_event ?hg (N := 8) ?hd (cs := #[.int .i64 0, .slice none 0 0]) (t := 24) ?hr ?_; (case hd => rfl); (case hg => rfl); (case hr => first | (go_simp; done) | (go_simp; rfl)); intro gb245 hg w10 hbox hb; have n0_ := Aside0.mk (Kd.R_below (by (with_reducible repeat (first | apply Kd.R_alloc | apply Kd.R_drewN | apply Kd.R_drew)); exact HO243.out) hb); have n1_ := Aside0.mk (nb BK238.out hb); have n2_ := Aside0.mk (below_step bw hb); have n3_ := Aside0.mk (hbox); have n4_ := Aside0.mk ((g1 hg bw : w.heap.size ≤ gb245)); have n5_ := Aside0.mk ((g1 hg bw : w.heap.size ≤ gb245)); have n6_ := Aside0.mk ((n1 hg BK238.out : gb238 ≠ gb245)); have n7_ := Aside0.mk ((n2 hg BK238.out : gb245 ≠ gb238)); clear HO243; clear BK238; clear HB; have HO243 := n0_; have BK238 := n1_; have HB := n2_; have BK245 := n3_; have GW245 := n4_; have GE245 := n5_; have NB238_245 := n6_; have NB245_238 := n7_; clear n0_ n1_ n2_ n3_ n4_ n5_ n6_ n7_; clear hb hbox hg; have hnb11 := NB245_238.out; have hnc11 := NB238_245.out; have hcz12_0 := bc2_0 BK245.out; have hcz12_1 := bc2_1 BK245.out; have hfz12_0 := blk_frozen BK245.out 0; have hfz12_1 := blk_frozen BK245.out 1; obtain ⟨Ao13, co13, eo13⟩ := Kd.R_slice HO243.out; subst eo13))
 go_loopg [10] k (fun kq v10 w' => ∃ (x10_1 : Int) (x246001_1 : List (S26)) (u246001 : Value), v10 = .int .i64 x10_1 ∧ Aside0 (carillonlaw12_ViewNext.l0 kq l1 l2 t239 t244 x10_1 a0_0 l0_1 t240 x246001_1 = some r) ∧ Aside0 (kq ≤ k) ∧ Aside0 (Kd.R k26 26 w' w.heap.size (fun _ => True) u246001 x246001_1) ∧ Aside0 (w'.heap[gb238]? = some (.cells #[.int .i64 a0_0, (.slice A0_1 l0_1.length c0_1)] 24 (0, 0))) ∧ Aside0 (w'.heap[gb245]? = some (.cells #[.int .i64 t240, u246001] 24 (0, 0))) ∧ Aside0 (Below w.heap.size w w'))
 case atStart => exact ⟨(0), (t241), (.slice Ao13 t241.length co13), (by first | rfl | (simp; done) | (simp [*]; done)), H', ⟨Nat.le_refl _⟩, ⟨by (with_reducible repeat (first | apply Kd.R_alloc | apply Kd.R_drewN | apply Kd.R_drew)); exact Kd.R_mono (Kd.R_far (p := ⟨gb245, 1, none⟩) (Kd.R_far (p := ⟨gb245, 0, none⟩) (Kd.R_types HO243.out BK245.out (by decide)) (fun _ hk => hk.2) (.int .i64 t240)) (fun _ hk => hk.2) (.slice Ao13 t241.length co13)) (fun _ hk => trivial)⟩, ⟨by (with_reducible repeat (first | refine blk_drewN ?_ _ | refine blk_drew ?_ | refine blk_alloc ?_ _ | refine blk_far ?_ NB238_245.out _)); exact BK238.out⟩, ⟨by (with_reducible repeat (first | refine blk_drewN ?_ _ | refine blk_drew ?_ | refine blk_alloc ?_ _)); refine blk_put (cs := #[.int .i64 t240, .slice none 0 0]) ?_ 1 _ rfl; (with_reducible repeat (first | refine blk_drewN ?_ _ | refine blk_drew ?_ | refine blk_alloc ?_ _)); refine blk_put (cs := #[.int .i64 0, .slice none 0 0]) ?_ 0 _ rfl; (with_reducible repeat (first | refine blk_drewN ?_ _ | refine blk_drew ?_ | refine blk_alloc ?_ _)); exact BK245.out⟩, ⟨bw⟩⟩
 case round =>
  clear H'
  try clear c1
  try clear c2
  try clear p2
  try clear c4
  try clear c7
  try clear c11
  try clear hcz12_0
  try clear hcz12_1
  try clear hcz8_0
  try clear hcz8_1
  try clear hfz12_0
  try clear hfz12_1
  try clear hfz8_0
  try clear hfz8_1
  obtain ⟨x10_1, x246001_1, u246001, rfl, HA, HK1, HO_246001, BK238, BK245, HB⟩ := hrel
  cases gk with
  | zero => exact absurd HA.out (by simp [carillonlaw12_ViewNext.l0])
  | succ k1 =>
   have H := HA.out
   clear HA
   simp only [carillonlaw12_ViewNext.l0] at H
   by_cases c14 : x10_1 < 2
   ·rw [if_pos c14] at H
    have c14b0 : decide (x10_1 < 2) = true := decide_eq_true c14
    clear c14
    replace H := Option.bind_eq_some_iff.mp H
    obtain ⟨⟨t246, t247, t250⟩, A150, H⟩ := H
    replace H : ((carillonlaw12_views.f k1 t246 t247 t240 x246001_1).bind fun t252 => (if t252 = true then (if t250 = t244 then (carillonlaw12_ViewNext.l1 k1 l1 l2 t239 t244 x10_1 0 a0_0 l0_1 t240 x246001_1 t246 t247) else (some false)) else (some false))) = some r := H
    have A15 := Aside0.mk A150
    clear A150
    replace H := Option.bind_eq_some_iff.mp H
    obtain ⟨t252, A160, H⟩ := H
    replace H : (if t252 = true then (if t250 = t244 then (carillonlaw12_ViewNext.l1 k1 l1 l2 t239 t244 x10_1 0 a0_0 l0_1 t240 x246001_1 t246 t247) else (some false)) else (some false)) = some r := H
    have A16 := Aside0.mk A160
    clear A160
    by_cases c17 : t252 = true
    ·subst c17
     have H1 : (if t250 = t244 then (carillonlaw12_ViewNext.l1 k1 l1 l2 t239 t244 x10_1 0 a0_0 l0_1 t240 x246001_1 t246 t247) else (some false)) = some r := by rw [if_pos rfl] at H; exact H
     clear H
     have H := H1
     clear H1
     by_cases c18 : t250 = t244
     ·rw [if_pos c18] at H
      have c18b0 : (t250 == t244) = true := beq_iff_eq.mpr c18
      have c18b1 : (t250 != t244) = false := bne_eq_false_iff_eq.mpr c18
      clear c18
      have H' := Aside0.mk H
      clear H
      have hnb19 := NB238_245.out
      have hnc19 := NB245_238.out
      have hcz20_0 := bc2_0 BK238.out
      have hcz20_1 := bc2_1 BK238.out
      have hfz20_0 := blk_frozen BK238.out 0
      have hfz20_1 := blk_frozen BK238.out 1
      go_wp2_with (first | ((with_reducible refine gate_callee (f := 20) rfl ?_); refine goesL_ (some 31) rfl rfl Try.func20 (by kernel_rfl) rfl #[.agg #[.int .i64 a0_0, .slice A0_1 l0_1.length c0_1], .slice A1 l1.length c1, .slice A2 l2.length c2] rfl am ?_; (with_reducible refine (view_Next.calls k1 a0_0 _ _ l0_1 _ _ l1 _ _ l2 t246 t247 t250 _ ?side1 ?side2 ?side3 ?side4 ?side5 ?side6 A15.out).mono ?_); (case side1 => repeat (first | exact (Kd.C_below HR0_1.out HB.out) | (with_reducible refine Kd.C_alloc ?_ _) | (with_reducible refine Kd.C_drewN ?_ _) | (with_reducible refine Kd.C_drew ?_))); (case side2 => exact HC0_1.out); (case side3 => repeat (first | exact (Kd.C_below HR1.out HB.out) | (with_reducible refine Kd.C_alloc ?_ _) | (with_reducible refine Kd.C_drewN ?_ _) | (with_reducible refine Kd.C_drew ?_))); (case side4 => exact HC1.out); (case side5 => repeat (first | exact (Kd.C_below HR2.out HB.out) | (with_reducible refine Kd.C_alloc ?_ _) | (with_reducible refine Kd.C_drewN ?_ _) | (with_reducible refine Kd.C_drew ?_))); (case side6 => exact HC2.out); rintro e w21 ⟨v248, rfl, ho0, hb⟩; refine ⟨_, rfl, ?_⟩; have n0_ := Aside0.mk (Kd.R_elder' (by (with_reducible repeat (first | apply Kd.R_alloc | apply Kd.R_drewN | apply Kd.R_drew)); exact HO_246001.out) (Kd.R_base ho0) hb); have n1_ := Aside0.mk (Kd.R_lower (Kd.R_new' ho0 (Kd.R_lt (by (with_reducible repeat (first | apply Kd.R_alloc | apply Kd.R_drewN | apply Kd.R_drew)); exact HO_246001.out))) (below_size bw)); have n2_ := Aside0.mk (nb BK238.out hb); have n3_ := Aside0.mk (nb BK245.out hb); have n4_ := Aside0.mk (below_step bw hb); clear HO_246001; clear BK238; clear BK245; clear HB; have HO_246001 := n0_; have HO249 := n1_; have BK238 := n2_; have BK245 := n3_; have HB := n4_; clear n0_ n1_ n2_ n3_ n4_; (try clear hb); (try clear hb2); (try clear hk); (try clear hi); (try clear ho0)) | ((with_reducible refine gate_dst (N := 11) rfl ?_); refine box_event ?hg (N := 11) ?hd (cs := #[.int .i64 0, .slice none 0 0]) (t := 24) ?hr ?_; (case hd => rfl); (case hg => rfl); (case hr => first | (go_simp; done) | (go_simp; rfl)); intro gb251 hg w22 hbox hb; have n0_ := Aside0.mk (Kd.R_below (by (with_reducible repeat (first | apply Kd.R_alloc | apply Kd.R_drewN | apply Kd.R_drew)); exact HO_246001.out) hb); have n1_ := Aside0.mk (Kd.R_below (by (with_reducible repeat (first | apply Kd.R_alloc | apply Kd.R_drewN | apply Kd.R_drew)); exact HO249.out) hb); have n2_ := Aside0.mk (nb BK238.out hb); have n3_ := Aside0.mk (nb BK245.out hb); have n4_ := Aside0.mk (below_step bw hb); have n5_ := Aside0.mk (hbox); have n6_ := Aside0.mk ((g1 hg bw : w.heap.size ≤ gb251)); have n7_ := Aside0.mk ((g1 hg bw : w.heap.size ≤ gb251)); have n8_ := Aside0.mk ((n1 hg BK238.out : gb238 ≠ gb251)); have n9_ := Aside0.mk ((n2 hg BK238.out : gb251 ≠ gb238)); have n10_ := Aside0.mk ((n1 hg BK245.out : gb245 ≠ gb251)); have n11_ := Aside0.mk ((n2 hg BK245.out : gb251 ≠ gb245)); clear HO_246001; clear HO249; clear BK238; clear BK245; clear HB; have HO_246001 := n0_; have HO249 := n1_; have BK238 := n2_; have BK245 := n3_; have HB := n4_; have BK251 := n5_; have GW251 := n6_; have GE251 := n7_; have NB238_251 := n8_; have NB251_238 := n9_; have NB245_251 := n10_; have NB251_245 := n11_; clear n0_ n1_ n2_ n3_ n4_ n5_ n6_ n7_ n8_ n9_ n10_ n11_; clear hb hbox hg; have hnb23 := NB251_238.out; have hnc23 := NB238_251.out; have hnb24 := NB251_245.out; have hnc24 := NB245_251.out; have hcz25_0 := bc2_0 BK251.out; have hcz25_1 := bc2_1 BK251.out; have hfz25_0 := blk_frozen BK251.out 0; have hfz25_1 := blk_frozen BK251.out 1; obtain ⟨Ao26, co26, eo26⟩ := Kd.R_slice HO249.out; subst eo26; have hcz27_0 := bc2_0 BK245.out; have hcz27_1 := bc2_1 BK245.out; have hfz27_0 := blk_frozen BK245.out 0; have hfz27_1 := blk_frozen BK245.out 1; obtain ⟨Ao28, co28, eo28⟩ := Kd.R_slice HO_246001.out; subst eo28) | ((with_reducible refine gate_callee (f := 21) rfl ?_); refine goesL_ (some 36) rfl rfl Try.func21 (by kernel_rfl) rfl #[.agg #[.int .i64 t246, .slice Ao26 t247.length co26], .agg #[.int .i64 t240, .slice Ao28 x246001_1.length co28]] rfl am ?_; (with_reducible refine (carillonlaw12_views.calls k1 t246 _ _ t247 t240 _ _ x246001_1 true _ ?side1 ?side2 ?side3 ?side4 A16.out).mono ?_); (case side1 => refine (Kd.R_reads' (e := 26) (base := w.heap.size) (ok := fun k_ => (True ∧ some k_ ≠ (.slice Ao28 x246001_1.length co28 : Value).ownBlock)) (n := t247.length) (c := co26) ?_).2.2; exact (by (with_reducible repeat (first | apply Kd.R_alloc | apply Kd.R_drewN | apply Kd.R_drew)); exact (Kd.R_mono (Kd.R_far (p := ⟨gb251, 1, none⟩) (Kd.R_far (p := ⟨gb251, 0, none⟩) (Kd.R_types HO249.out BK251.out (by decide)) (fun _ hk => hk.2) (.int .i64 t246)) (fun _ hk => hk.2) (.slice Ao26 t247.length co26)) (fun _ h_ => h_.1)))); (case side2 => exact (Kd.R_reads' HO249.out).2.1); (case side3 => refine (Kd.R_reads' (e := 26) (base := w.heap.size) (ok := fun k_ => (True ∧ some k_ ≠ (.slice Ao26 t247.length co26 : Value).ownBlock)) (n := x246001_1.length) (c := co28) ?_).2.2; exact (by (with_reducible repeat (first | apply Kd.R_alloc | apply Kd.R_drewN | apply Kd.R_drew)); exact (Kd.R_mono (Kd.R_far (p := ⟨gb251, 1, none⟩) (Kd.R_far (p := ⟨gb251, 0, none⟩) (Kd.R_types HO_246001.out BK251.out (by decide)) (fun _ hk => hk.2) (.int .i64 t246)) (fun _ hk => hk.2) (.slice Ao26 t247.length co26)) (fun _ h_ => h_.1)))); (case side4 => exact (Kd.R_reads' HO_246001.out).2.1); rintro e w29 ⟨rfl, hb⟩; refine ⟨_, rfl, ?_⟩; have n0_ := Aside0.mk (Kd.R_below (by (with_reducible repeat (first | apply Kd.R_alloc | apply Kd.R_drewN | apply Kd.R_drew)); exact (Kd.R_mono (Kd.R_far (p := ⟨gb251, 1, none⟩) (Kd.R_far (p := ⟨gb251, 0, none⟩) (Kd.R_types HO_246001.out BK251.out (by decide)) (fun _ hk => hk.2) (.int .i64 t246)) (fun _ hk => hk.2) (.slice Ao26 t247.length co26)) (fun _ h_ => h_.1))) hb); have n1_ := Aside0.mk (Kd.R_below (by (with_reducible repeat (first | apply Kd.R_alloc | apply Kd.R_drewN | apply Kd.R_drew)); exact (Kd.R_mono (Kd.R_far (p := ⟨gb251, 1, none⟩) (Kd.R_far (p := ⟨gb251, 0, none⟩) (Kd.R_types HO249.out BK251.out (by decide)) (fun _ hk => hk.2) (.int .i64 t246)) (fun _ hk => hk.2) (.slice Ao26 t247.length co26)) (fun _ h_ => h_.1))) hb); have n2_ := Aside0.mk (blk_below (g := gb238) (o := .cells #[.int .i64 a0_0, .slice A0_1 l0_1.length c0_1] 24 (0, 0)) (by (with_reducible repeat (first | refine blk_drewN ?_ _ | refine blk_drew ?_ | refine blk_alloc ?_ _ | refine blk_far ?_ NB238_251.out _)); exact BK238.out) hb); have n3_ := Aside0.mk (blk_below (g := gb245) (o := .cells #[.int .i64 t240, .slice Ao28 x246001_1.length co28] 24 (0, 0)) (by (with_reducible repeat (first | refine blk_drewN ?_ _ | refine blk_drew ?_ | refine blk_alloc ?_ _ | refine blk_far ?_ NB245_251.out _)); exact BK245.out) hb); have n4_ := Aside0.mk (blk_below (g := gb251) (o := .cells #[.int .i64 t246, .slice Ao26 t247.length co26] 24 (0, 0)) (by (with_reducible repeat (first | refine blk_drewN ?_ _ | refine blk_drew ?_ | refine blk_alloc ?_ _)); refine blk_put (cs := #[.int .i64 t246, .slice none 0 0]) ?_ 1 _ rfl; (with_reducible repeat (first | refine blk_drewN ?_ _ | refine blk_drew ?_ | refine blk_alloc ?_ _)); refine blk_put (cs := #[.int .i64 0, .slice none 0 0]) ?_ 0 _ rfl; (with_reducible repeat (first | refine blk_drewN ?_ _ | refine blk_drew ?_ | refine blk_alloc ?_ _)); exact BK251.out) hb); have n5_ := Aside0.mk (below_step bw hb); clear HO_246001; clear HO249; clear BK238; clear BK245; clear BK251; clear HB; have HO_246001 := n0_; have HO249 := n1_; have BK238 := n2_; have BK245 := n3_; have BK251 := n4_; have HB := n5_; clear n0_ n1_ n2_ n3_ n4_ n5_; (try clear hb); (try clear hb2); (try clear hk); (try clear hi)))
      go_loopg [14] k1 (fun kq v14 w' => ∃ (x14_2 : Int) (x246001_2 : List (S26)) (x252001_2 : List (S26)) (u246001 : Value) (u252001 : Value), v14 = .int .i64 x14_2 ∧ Aside0 (carillonlaw12_ViewNext.l1 kq l1 l2 t239 t244 x10_1 x14_2 a0_0 l0_1 t240 x246001_2 t246 x252001_2 = some r) ∧ Aside0 (kq ≤ k1) ∧ Aside0 (Kd.R k26 26 w' w.heap.size (fun k_ => some k_ ≠ (u252001 : Value).ownBlock) u246001 x246001_2) ∧ Aside0 (Kd.R k26 26 w' w.heap.size (fun k_ => some k_ ≠ (u246001 : Value).ownBlock) u252001 x252001_2) ∧ Aside0 (w'.heap[gb238]? = some (.cells #[.int .i64 a0_0, (.slice A0_1 l0_1.length c0_1)] 24 (0, 0))) ∧ Aside0 (w'.heap[gb245]? = some (.cells #[.int .i64 t240, u246001] 24 (0, 0))) ∧ Aside0 (w'.heap[gb251]? = some (.cells #[.int .i64 t246, u252001] 24 (0, 0))) ∧ Aside0 (Below w.heap.size w w'))
      case atStart => exact ⟨(0), (x246001_1), (t247), (.slice Ao28 x246001_1.length co28), (.slice Ao26 t247.length co26), (by first | rfl | (simp; done) | (simp [*]; done)), H', ⟨Nat.le_refl _⟩, ⟨by (with_reducible repeat (first | apply Kd.R_alloc | apply Kd.R_drewN | apply Kd.R_drew)); exact Kd.R_mono HO_246001.out (fun _ hk => hk.2)⟩, ⟨by (with_reducible repeat (first | apply Kd.R_alloc | apply Kd.R_drewN | apply Kd.R_drew)); exact Kd.R_mono HO249.out (fun _ hk => hk.2)⟩, ⟨by (with_reducible repeat (first | refine blk_drewN ?_ _ | refine blk_drew ?_ | refine blk_alloc ?_ _)); exact BK238.out⟩, ⟨by (with_reducible repeat (first | refine blk_drewN ?_ _ | refine blk_drew ?_ | refine blk_alloc ?_ _)); exact BK245.out⟩, ⟨by (with_reducible repeat (first | refine blk_drewN ?_ _ | refine blk_drew ?_ | refine blk_alloc ?_ _)); exact BK251.out⟩, ⟨bw⟩⟩
      case round =>
       clear H'
       try clear c1
       try clear c2
       try clear p2
       try clear c4
       try clear c7
       try clear c11
       try clear c14
       try clear c14b0
       try clear c17
       try clear c18
       try clear c18b0
       try clear c18b1
       try clear c19
       try clear c20
       try clear c21
       try clear c23
       try clear c24
       try clear hcz12_0
       try clear hcz12_1
       try clear hcz20_0
       try clear hcz20_1
       try clear hcz25_0
       try clear hcz25_1
       try clear hcz27_0
       try clear hcz27_1
       try clear hcz8_0
       try clear hcz8_1
       try clear hfz12_0
       try clear hfz12_1
       try clear hfz20_0
       try clear hfz20_1
       try clear hfz25_0
       try clear hfz25_1
       try clear hfz27_0
       try clear hfz27_1
       try clear hfz8_0
       try clear hfz8_1
       try clear p2
       obtain ⟨x14_2, x246001_2, x252001_2, u246001, u252001, rfl, HA, HK2, HO_246001, HO_252001, BK238, BK245, BK251, HB⟩ := hrel
       cases gk with
       | zero => exact absurd HA.out (by simp [carillonlaw12_ViewNext.l1])
       | succ k2 =>
        have H := HA.out
        clear HA
        simp only [carillonlaw12_ViewNext.l1] at H
        by_cases c30 : x14_2 < (x252001_2.length : Int)
        ·rw [if_pos c30] at H
         have c30b0 : decide (x14_2 < (x252001_2.length : Int)) = true := decide_eq_true c30
         clear c30
         by_cases c31 : 0 ≤ x14_2
         ·rw [if_pos c31] at H
          have c31b0 : decide (0 ≤ x14_2) = true := decide_eq_true c31
          clear c31
          obtain ⟨y253, hy253⟩ : ∃ y_ : List (S26), y_ = (x252001_2.set (x14_2 : Int).toNat (⟨0, 0⟩ : S26)) := ⟨_, rfl⟩
          replace H : (carillonlaw12_ViewNext.l1 k2 l1 l2 t239 t244 x10_1 (wrap64 (x14_2 + 1)) a0_0 l0_1 t240 x246001_2 t246 y253) = some r := by first | (rw [hy253]; with_reducible exact H) | (have H2_ := (Option.bind_some _ _).symm.trans H; rw [hy253]; with_reducible exact H2_) | (have H2_ := (Option.bind_some _ _).symm.trans H; with_reducible exact H2_) | with_reducible exact H | (rw [hy253]; exact H) | exact H
          have Ny253 := Aside0.mk hy253
          clear hy253
          have H' := Aside0.mk H
          clear H
          have hnb33 := NB251_238.out
          have hnc33 := NB238_251.out
          have hnb34 := NB251_245.out
          have hnc34 := NB245_251.out
          have hcz35_0 := bc2_0 BK251.out
          have hcz35_1 := bc2_1 BK251.out
          have hfz35_0 := blk_frozen BK251.out 0
          have hfz35_1 := blk_frozen BK251.out 1
          obtain ⟨Ao36, co36, eo36⟩ := Kd.R_slice HO_252001.out
          subst eo36
          have p32 : 0 ≤ (x14_2 : Int) := of_decide_eq_true (by first | (with_reducible assumption) | assumption)
          have q32 : (x14_2 : Int) < ((x252001_2.length : Int) : Int) := of_decide_eq_true (by first | (with_reducible assumption) | assumption)
          obtain ⟨go32, co32, eo32, gb32, gl32, cl32, HG32⟩ := Kd.R_form HO_252001.out (by omega)
          (first | cases eo32 | (injection eo32 with ea_ en_ ec_; (first | subst ea_ | (injection ea_ with ea_; subst ea_)); subst ec_; clear en_))
          have GB32 := Aside0.mk gb32
          have GG32 := Aside0.mk HG32
          clear gb32 gl32 HG32
          obtain ⟨ce32, hcl32, hM32, hcc32, hfr32⟩ := Kd.R_elem HO_252001.out z26 (x14_2 : Int) p32 q32
          obtain rfl := k26_openM hM32
          have hx32_0 : wr.cell? ⟨go32, (x14_2 : Int).toNat * 2, none⟩ = some (.int .i64 ((rd_T26 x252001_2 x14_2).f0)) := hcc32 0 _ rfl
          have hx32_1 : wr.cell? ⟨go32, (x14_2 : Int).toNat * 2 + 1, none⟩ = some (.int .i64 ((rd_T26 x252001_2 x14_2).f1)) := hcc32 1 _ rfl
          have hf32_0 : wr.frozen? ⟨go32, (x14_2 : Int).toNat * 2, none⟩ = false := hfr32 0
          have hf32_1 : wr.frozen? ⟨go32, (x14_2 : Int).toNat * 2 + 1, none⟩ = false := hfr32 1
          clear hcl32 hcc32 hfr32 hM32
          replace p32 := eq_true p32
          replace q32 := eq_true q32
          have HX37 := Aside0.mk (show Kd.R k26 26 wr w.heap.size (fun k_ => some k_ ≠ (u246001 : Value).ownBlock) (.slice (some ⟨go32, 0, none⟩) x252001_2.length co36) x252001_2 from (by (with_reducible repeat (first | apply Kd.R_alloc | apply Kd.R_drewN | apply Kd.R_drew)); exact HO_252001.out))
          obtain ⟨ce37, hcl37, hM37, hcc37, hfr37⟩ := Kd.R_elem HX37.out z26 (x14_2 : Int) (of_decide_eq_true (by first | (with_reducible assumption) | assumption)) (by have h_ : (x14_2 : Int) < ((x252001_2.length : Int) : Int) := of_decide_eq_true (by first | (with_reducible assumption) | assumption); first | exact h_ | (have e_ := (Kd.R_reads' HO_252001.out).1; omega) | simpa using h_)
          obtain rfl := k26_openM hM37
          have HP37 := Kd.R_seg HX37.out (x14_2 : Int) (of_decide_eq_true (by first | (with_reducible assumption) | assumption)) (by have h_ : (x14_2 : Int) < ((x252001_2.length : Int) : Int) := of_decide_eq_true (by first | (with_reducible assumption) | assumption); first | exact h_ | (have e_ := (Kd.R_reads' HO_252001.out).1; omega) | simpa using h_) (seg := [.int .i64 0, .int .i64 0]) (j := 0) hcl37 hcc37 (show 2 ≤ 2 from by decide) (x' := (⟨0, 0⟩ : S26)) (k26_mkM _ _ _ (⟨0, 0⟩ : S26) ) (fun _ hk => hk)
          have hx37_0 := hcc37 0 _ rfl
          (try simp only [show (k26).sz = 2 from rfl, Nat.mul_one, Nat.add_zero] at hx37_0)
          have hf37_0 := hfr37 0
          (try simp only [show (k26).sz = 2 from rfl, Nat.mul_one, Nat.add_zero] at hf37_0)
          have hx37_1 := hcc37 1 _ rfl
          (try simp only [show (k26).sz = 2 from rfl, Nat.mul_one, Nat.add_zero] at hx37_1)
          have hf37_1 := hfr37 1
          (try simp only [show (k26).sz = 2 from rfl, Nat.mul_one, Nat.add_zero] at hf37_1)
          clear hcl37 hcc37 hfr37 hM37
          go_wp2_with (first | ((with_reducible refine gate_store (t := 26) (p := 55) rfl ?_); refine store_event (t := 26) (p := 55) (v := ?vo_w38) (w1 := ((wr.setCell ⟨go32, (x14_2 : Int).toNat * 2, none⟩ (.int .i64 0)).setCell ⟨go32, (x14_2 : Int).toNat * 2 + 1, none⟩ (.int .i64 0))) ?hg ?ho ?hn ?hr ?_; (case ho => rfl); (case hg => rfl); (case hn => rfl); (case hr => first | (go_simp; done) | (go_simp; rfl)); intro w38 hw; have hg : wr.grownBy w38 (some go32) := (by rw [hw]; exact HP37.2); have hp_ : Kd.R k26 26 w38 w.heap.size (fun k_ => some k_ ≠ (u246001 : Value).ownBlock) (.slice (some ⟨go32, 0, none⟩) x252001_2.length co36) y253 := (by rw [hw, Ny253.out]; exact HP37.1); clear HP37; have n0_ := Aside0.mk (Kd.R_after (v := (.slice (some ⟨go32, 0, none⟩) x252001_2.length co36)) (v1 := (.slice (some ⟨go32, 0, none⟩) x252001_2.length co36)) (ok := (fun _ => True)) (by (with_reducible repeat (first | apply Kd.R_alloc | apply Kd.R_drewN | apply Kd.R_drew)); exact Kd.R_mono HO_246001.out (fun _ hk => ⟨trivial, hk⟩)) hg (.inl rfl)); have n1_ := Aside0.mk (hp_); have n2_ := Aside0.mk (blk_grown (g := gb238) (o := .cells #[.int .i64 a0_0, .slice A0_1 l0_1.length c0_1] 24 (0, 0)) (bk BK238.out) hg (Kd.R_ne HO_252001.out BK238.out (by decide))); have n3_ := Aside0.mk (blk_grown (g := gb245) (o := .cells #[.int .i64 t240, u246001] 24 (0, 0)) (bk BK245.out) hg (Kd.R_ne HO_252001.out BK245.out (by decide))); have n4_ := Aside0.mk (blk_grown (g := gb251) (o := .cells #[.int .i64 t246, .slice (some ⟨go32, 0, none⟩) x252001_2.length co36] 24 (0, 0)) (bk BK251.out) hg (Kd.R_ne HO_252001.out BK251.out (by decide))); have n5_ := Aside0.mk ((by rw [hw]; exact below_set (below_set (HB.out) GB32.out) GB32.out : Below w.heap.size w w38)); clear HO_246001; clear HO_252001; clear BK238; clear BK245; clear BK251; clear HB; have HO_246001 := n0_; have HO_252001 := n1_; have BK238 := n2_; have BK245 := n3_; have BK251 := n4_; have HB := n5_; clear n0_ n1_ n2_ n3_ n4_ n5_; clear hg hw hp_))
          go_roundg k2
          case measure => have := HK1.out; have := HK2.out; omega
          case rel => exact ⟨(wrap64 (x14_2 + 1)), (x246001_2), (y253), (u246001), (.slice (some ⟨go32, 0, none⟩) x252001_2.length co36), (by first | rfl | (simp; done) | (simp [*]; done)), H', ⟨by have := HK1.out; have := HK2.out; omega⟩, ⟨by (with_reducible repeat (first | apply Kd.R_alloc | apply Kd.R_drewN | apply Kd.R_drew)); exact Kd.R_mono HO_246001.out (fun _ hk => hk.2)⟩, ⟨by (with_reducible repeat (first | apply Kd.R_alloc | apply Kd.R_drewN | apply Kd.R_drew)); exact HO_252001.out⟩, ⟨by (with_reducible repeat (first | refine blk_drewN ?_ _ | refine blk_drew ?_ | refine blk_alloc ?_ _)); exact BK238.out⟩, ⟨by (with_reducible repeat (first | refine blk_drewN ?_ _ | refine blk_drew ?_ | refine blk_alloc ?_ _)); exact BK245.out⟩, ⟨by (with_reducible repeat (first | refine blk_drewN ?_ _ | refine blk_drew ?_ | refine blk_alloc ?_ _)); exact BK251.out⟩, ⟨bw⟩⟩
         ·rw [if_neg c31] at H
          exact absurd H (by simp)
        ·rw [if_neg c30] at H
         have c30b0 : decide (x14_2 < (x252001_2.length : Int)) = false := decide_eq_false c30
         clear c30
         have H' := Aside0.mk H
         clear H
         have hnb39 := NB251_238.out
         have hnc39 := NB238_251.out
         have hnb40 := NB251_245.out
         have hnc40 := NB245_251.out
         have hcz41_0 := bc2_0 BK251.out
         have hcz41_1 := bc2_1 BK251.out
         have hfz41_0 := blk_frozen BK251.out 0
         have hfz41_1 := blk_frozen BK251.out 1
         obtain ⟨Ao42, co42, eo42⟩ := Kd.R_slice HO_252001.out
         subst eo42
         go_wp2
         go_roundg k2
         case measure => have := HK1.out; have := HK2.out; omega
         case rel => exact ⟨(wrap64 (x10_1 + 1)), (x246001_2), (u246001), (by first | rfl | (simp; done) | (simp [*]; done)), H', ⟨by have := HK1.out; have := HK2.out; omega⟩, ⟨by (with_reducible repeat (first | apply Kd.R_alloc | apply Kd.R_drewN | apply Kd.R_drew)); exact Kd.R_mono HO_246001.out (fun _ hk => trivial)⟩, ⟨by (with_reducible repeat (first | refine blk_drewN ?_ _ | refine blk_drew ?_ | refine blk_alloc ?_ _)); exact BK238.out⟩, ⟨by (with_reducible repeat (first | refine blk_drewN ?_ _ | refine blk_drew ?_ | refine blk_alloc ?_ _)); exact BK245.out⟩, ⟨bw⟩⟩
     ·rw [if_neg c18] at H
      have c18b0 : (t250 == t244) = false := beq_eq_false_iff_ne.mpr c18
      have c18b1 : (t250 != t244) = true := bne_iff_ne.mpr c18
      exact absurd ((Option.some.inj H).trans hr_.out) (by decide)
    ·replace c17 := Bool.eq_false_iff.mpr c17
     subst c17
     have H1 : (some false) = some r := by rw [if_neg (show ¬ (false = true) by decide)] at H; exact H
     clear H
     have H := H1
     clear H1
     exact absurd ((Option.some.inj H).trans hr_.out) (by decide)
   ·rw [if_neg c14] at H
    have c14b0 : decide (x10_1 < 2) = false := decide_eq_false c14
    clear c14
    obtain rfl := Option.some.inj H
    go_wp2
    go_ret
    exact ⟨er, bw⟩

end Go.Proofs.Ytbcpjegakjcmgaa.P
