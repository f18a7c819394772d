-- Printed by this session's program wip/xp.py (a turned copy of the kit's printer): functions, their contracts.
import Derived.Test.YtpgiagdpepkooaaDoorPx0
import Derived.Test.YtpgiagdpepkooaaDoorPx2
namespace Go.Proofs.YtpgiagdpepkooaaDoor.P
open Go.RowKit Go.Proofs.YtpgiagdpepkooaaDoorW.PrintWords Go.Proofs.YtpgiagdpepkooaaDoorW.PrintLast Go.Proofs.YtpgiagdpepkooaaDoorW.PrintMore
attribute [local go_sem] max2_int min2_int max_two min_two max_three min_three max_four min_four   -- for this text's walks alone
set_option linter.unusedVariables false
set_option linter.unusedSimpArgs false

attribute [local go_sem high] eqA48
/-! ### carillonlaw14_replies: function 28 -/
def carillonlaw14_replies.l0 : Nat → Int → Int → Int → List (S48) → Int → Int → List (S48) → Option (Bool)
 | 0, _, _, _, _, _, _, _ => none
 | k + 1, x5, x641000, x641001, x641002, x642000, x642001, x642002 => if x5 < (x641002.length : Int) then (if 0 ≤ x5 then (if x5 < (x642002.length : Int) then (if (!(((rd_T48 x641002 x5).f0) == ((rd_T48 x642002 x5).f0)) || (!((((rd_T48 x641002 x5).f1).toList) == (((rd_T48 x642002 x5).f1).toList)) || (!(((rd_T48 x641002 x5).f2) == ((rd_T48 x642002 x5).f2)) || (!((((rd_T48 x641002 x5).f3).toList) == (((rd_T48 x642002 x5).f3).toList)) || (!((((rd_T48 x641002 x5).f4).toList) == (((rd_T48 x642002 x5).f4).toList))))))) = true then (some false) else (carillonlaw14_replies.l0 k (wrap64 (x5 + 1)) x641000 x641001 x641002 x642000 x642001 x642002)) else (none)) else (none)) else (some true)
def carillonlaw14_replies.f (k : Nat) (a0_0 : Int) (a0_1 : Int) (l0_2 : List (S48)) (a1_0 : Int) (a1_1 : Int) (l1_2 : List (S48)) : Option (Bool) := if a0_0 = a1_0 then (if a0_1 = a1_1 then (if (l0_2.length : Int) = (l1_2.length : Int) then (carillonlaw14_replies.l0 k 0 a0_0 a0_1 l0_2 a1_0 a1_1 l1_2) else (some false)) else (some false)) else (some false)
set_option maxHeartbeats 8000000 in
set_option maxRecDepth 100000 in
theorem carillonlaw14_replies.calls (k : Nat) (a0_0 : Int) (a0_1 : Int) (A0_2 : Option Addr) (c0_2 : Nat) (l0_2 : List (S48)) (a1_0 : Int) (a1_1 : Int) (A1_2 : Option Addr) (c1_2 : Nat) (l1_2 : List (S48)) (r : Bool) (w : World) (hr0_2 : Kd.C k48 w A0_2 l0_2.length l0_2) (hc0_2 : l0_2.length ≤ c0_2) (hr1_2 : Kd.C k48 w A1_2 l1_2.length l1_2) (hc1_2 : l1_2.length ≤ c1_2) (h : carillonlaw14_replies.f k a0_0 a0_1 l0_2 a1_0 a1_1 l1_2 = some r) :
  Calls Tryd.prog 28 #[.agg #[.int .i64 a0_0, .int .i64 a0_1, .slice A0_2 l0_2.length c0_2], .agg #[.int .i64 a1_0, .int .i64 a1_1, .slice A1_2 l1_2.length c1_2]] w fun e w' => e = .returned (.bool r) ∧ Below w.heap.size w w' := by
 have hu39 := Tryd.underlying39
 have hu48 := Tryd.underlying48
 have HR0_2 := Aside0.mk hr0_2
 have HC0_2 := Aside0.mk hc0_2
 clear hr0_2 hc0_2
 have HR1_2 := Aside0.mk hr1_2
 have HC1_2 := Aside0.mk hc1_2
 clear hr1_2 hc1_2
 have HB := Aside0.mk (Below.refl w.heap.size w)
 have H := h
 unfold carillonlaw14_replies.f at H
 clear h
 by_cases c3 : a0_0 = a1_0; rotate_left
 ·rw [if_neg c3] at H
  have ax : (a0_0 == a1_0) = false := beq_eq_false_iff_ne.mpr c3
  have ay : (a0_0 != a1_0) = true := bne_iff_ne.mpr c3
  obtain rfl := Option.some.inj H
  go_enter Tryd.func28, Tryd.ntmps28
  go_wp2_with (first | ((with_reducible refine gate_dst (N := 2) rfl ?_); (try (refine gate_guard (by rfl) ?_; dsimp only)); refine box_event ?hg (N := 2) ?hd (cs := #[.int .i64 a0_0, .int .i64 a0_1, .slice A0_2 l0_2.length c0_2]) (t := 39) ?hr ?_; (case hd => rfl); (case hg => rfl); (case hr => first | (go_simp; done) | (go_simp; rfl)); intro ad hg w33 hbox hb; have aa := Aside0.mk (hbox); have ar := Aside0.mk ((g1 hg bw : w.heap.size ≤ ad)); have au := Aside0.mk ((g1 hg bw : w.heap.size ≤ ad)); replace HB := Aside0.mk (below_step bw hb); clear hb hbox hg) | ((with_reducible refine gate_dst (N := 3) rfl ?_); (try (refine gate_guard (by rfl) ?_; dsimp only)); refine box_event ?hg (N := 3) ?hd (cs := #[.int .i64 a1_0, .int .i64 a1_1, .slice A1_2 l1_2.length c1_2]) (t := 39) ?hr ?_; (case hd => rfl); (case hg => rfl); (case hr => first | (go_simp; done) | (go_simp; rfl)); intro ae hg w34 hbox hb; have aq := Aside0.mk (hbox); have av := Aside0.mk ((g1 hg bw : w.heap.size ≤ ae)); have aw := Aside0.mk ((g1 hg bw : w.heap.size ≤ ae)); replace HB := Aside0.mk (below_step bw hb); have ab := Aside0.mk ((n1 hg aa.out : ad ≠ ae)); have ac := Aside0.mk ((n2 hg aa.out : ae ≠ ad)); replace aa := Aside0.mk (nb aa.out hb); clear hb hbox hg; have hnb35 := ab.out; have hnc35 := ac.out; obtain ⟨hcz36_0, hcz36_1, hcz36_2, hfz36_0, hfz36_1, hfz36_2⟩ := bx3 aa.out; obtain ⟨hcz37_0, hcz37_1, hcz37_2, hfz37_0, hfz37_1, hfz37_2⟩ := bx3 aq.out))
  go_ret
  exact ⟨er, bw⟩
 rw [if_pos c3] at H
 have ax : (a0_0 == a1_0) = true := beq_iff_eq.mpr c3
 have ay : (a0_0 != a1_0) = false := bne_eq_false_iff_eq.mpr c3
 clear c3
 by_cases c4 : a0_1 = a1_1; rotate_left
 ·rw [if_neg c4] at H
  have az : (a0_1 == a1_1) = false := beq_eq_false_iff_ne.mpr c4
  have a6 : (a0_1 != a1_1) = true := bne_iff_ne.mpr c4
  obtain rfl := Option.some.inj H
  go_enter Tryd.func28, Tryd.ntmps28
  go_wp2_with (first | ((with_reducible refine gate_dst (N := 2) rfl ?_); (try (refine gate_guard (by rfl) ?_; dsimp only)); refine box_event ?hg (N := 2) ?hd (cs := #[.int .i64 a0_0, .int .i64 a0_1, .slice A0_2 l0_2.length c0_2]) (t := 39) ?hr ?_; (case hd => rfl); (case hg => rfl); (case hr => first | (go_simp; done) | (go_simp; rfl)); intro ad hg w28 hbox hb; have aa := Aside0.mk (hbox); have ar := Aside0.mk ((g1 hg bw : w.heap.size ≤ ad)); have au := Aside0.mk ((g1 hg bw : w.heap.size ≤ ad)); replace HB := Aside0.mk (below_step bw hb); clear hb hbox hg) | ((with_reducible refine gate_dst (N := 3) rfl ?_); (try (refine gate_guard (by rfl) ?_; dsimp only)); refine box_event ?hg (N := 3) ?hd (cs := #[.int .i64 a1_0, .int .i64 a1_1, .slice A1_2 l1_2.length c1_2]) (t := 39) ?hr ?_; (case hd => rfl); (case hg => rfl); (case hr => first | (go_simp; done) | (go_simp; rfl)); intro ae hg w29 hbox hb; have aq := Aside0.mk (hbox); have av := Aside0.mk ((g1 hg bw : w.heap.size ≤ ae)); have aw := Aside0.mk ((g1 hg bw : w.heap.size ≤ ae)); replace HB := Aside0.mk (below_step bw hb); have ab := Aside0.mk ((n1 hg aa.out : ad ≠ ae)); have ac := Aside0.mk ((n2 hg aa.out : ae ≠ ad)); replace aa := Aside0.mk (nb aa.out hb); clear hb hbox hg; have hnb30 := ab.out; have hnc30 := ac.out; obtain ⟨hcz31_0, hcz31_1, hcz31_2, hfz31_0, hfz31_1, hfz31_2⟩ := bx3 aa.out; obtain ⟨hcz32_0, hcz32_1, hcz32_2, hfz32_0, hfz32_1, hfz32_2⟩ := bx3 aq.out))
  go_ret
  exact ⟨er, bw⟩
 rw [if_pos c4] at H
 have az : (a0_1 == a1_1) = true := beq_iff_eq.mpr c4
 have a6 : (a0_1 != a1_1) = false := bne_eq_false_iff_eq.mpr c4
 clear c4
 by_cases c5 : (l0_2.length : Int) = (l1_2.length : Int); rotate_left
 ·rw [if_neg c5] at H
  have a7 : ((l0_2.length : Int) == (l1_2.length : Int)) = false := beq_eq_false_iff_ne.mpr c5
  have a8 : ((l0_2.length : Int) != (l1_2.length : Int)) = true := bne_iff_ne.mpr c5
  have a9 : (l0_2.length == l1_2.length) = false := by first | simpa using c5 | (simp at c5 ⊢; omega)
  obtain rfl := Option.some.inj H
  go_enter Tryd.func28, Tryd.ntmps28
  go_wp2_with (first | ((with_reducible refine gate_dst (N := 2) rfl ?_); (try (refine gate_guard (by rfl) ?_; dsimp only)); refine box_event ?hg (N := 2) ?hd (cs := #[.int .i64 a0_0, .int .i64 a0_1, .slice A0_2 l0_2.length c0_2]) (t := 39) ?hr ?_; (case hd => rfl); (case hg => rfl); (case hr => first | (go_simp; done) | (go_simp; rfl)); intro ad hg w23 hbox hb; have aa := Aside0.mk (hbox); have ar := Aside0.mk ((g1 hg bw : w.heap.size ≤ ad)); have au := Aside0.mk ((g1 hg bw : w.heap.size ≤ ad)); replace HB := Aside0.mk (below_step bw hb); clear hb hbox hg) | ((with_reducible refine gate_dst (N := 3) rfl ?_); (try (refine gate_guard (by rfl) ?_; dsimp only)); refine box_event ?hg (N := 3) ?hd (cs := #[.int .i64 a1_0, .int .i64 a1_1, .slice A1_2 l1_2.length c1_2]) (t := 39) ?hr ?_; (case hd => rfl); (case hg => rfl); (case hr => first | (go_simp; done) | (go_simp; rfl)); intro ae hg w24 hbox hb; have aq := Aside0.mk (hbox); have av := Aside0.mk ((g1 hg bw : w.heap.size ≤ ae)); have aw := Aside0.mk ((g1 hg bw : w.heap.size ≤ ae)); replace HB := Aside0.mk (below_step bw hb); have ab := Aside0.mk ((n1 hg aa.out : ad ≠ ae)); have ac := Aside0.mk ((n2 hg aa.out : ae ≠ ad)); replace aa := Aside0.mk (nb aa.out hb); clear hb hbox hg; have hnb25 := ab.out; have hnc25 := ac.out; obtain ⟨hcz26_0, hcz26_1, hcz26_2, hfz26_0, hfz26_1, hfz26_2⟩ := bx3 aa.out; obtain ⟨hcz27_0, hcz27_1, hcz27_2, hfz27_0, hfz27_1, hfz27_2⟩ := bx3 aq.out))
  go_ret
  exact ⟨er, bw⟩
 rw [if_pos c5] at H
 have a7 : ((l0_2.length : Int) == (l1_2.length : Int)) = true := beq_iff_eq.mpr c5
 have a8 : ((l0_2.length : Int) != (l1_2.length : Int)) = false := bne_eq_false_iff_eq.mpr c5
 have a9 : (l0_2.length == l1_2.length) = true := by first | simpa using c5 | (simp at c5 ⊢; omega)
 clear c5
 have H' := Aside0.mk H
 clear H
 go_enter Tryd.func28, Tryd.ntmps28
 go_wp2_with (first | ((with_reducible refine gate_dst (N := 2) rfl ?_); (try (refine gate_guard (by rfl) ?_; dsimp only)); refine box_event ?hg (N := 2) ?hd (cs := #[.int .i64 a0_0, .int .i64 a0_1, .slice A0_2 l0_2.length c0_2]) (t := 39) ?hr ?_; (case hd => rfl); (case hg => rfl); (case hr => first | (go_simp; done) | (go_simp; rfl)); intro ad hg w6 hbox hb; have aa := Aside0.mk (hbox); have ar := Aside0.mk ((g1 hg bw : w.heap.size ≤ ad)); have au := Aside0.mk ((g1 hg bw : w.heap.size ≤ ad)); replace HB := Aside0.mk (below_step bw hb); clear hb hbox hg) | ((with_reducible refine gate_dst (N := 3) rfl ?_); (try (refine gate_guard (by rfl) ?_; dsimp only)); refine box_event ?hg (N := 3) ?hd (cs := #[.int .i64 a1_0, .int .i64 a1_1, .slice A1_2 l1_2.length c1_2]) (t := 39) ?hr ?_; (case hd => rfl); (case hg => rfl); (case hr => first | (go_simp; done) | (go_simp; rfl)); intro ae hg w7 hbox hb; have aq := Aside0.mk (hbox); have av := Aside0.mk ((g1 hg bw : w.heap.size ≤ ae)); have aw := Aside0.mk ((g1 hg bw : w.heap.size ≤ ae)); replace HB := Aside0.mk (below_step bw hb); have ab := Aside0.mk ((n1 hg aa.out : ad ≠ ae)); have ac := Aside0.mk ((n2 hg aa.out : ae ≠ ad)); replace aa := Aside0.mk (nb aa.out hb); clear hb hbox hg; have hnb8 := ab.out; have hnc8 := ac.out; obtain ⟨hcz9_0, hcz9_1, hcz9_2, hfz9_0, hfz9_1, hfz9_2⟩ := bx3 aa.out; obtain ⟨hcz10_0, hcz10_1, hcz10_2, hfz10_0, hfz10_1, hfz10_2⟩ := bx3 aq.out))
 go_loopg [5] k (fun kq v5 w' => ∃ (x5_1 : Int), v5 = .int .i64 x5_1 ∧ Aside0 (carillonlaw14_replies.l0 kq x5_1 a0_0 a0_1 l0_2 a1_0 a1_1 l1_2 = some r) ∧ Aside0 (kq ≤ k) ∧ Aside0 (w'.heap[ad]? = some (.cells #[.int .i64 a0_0, .int .i64 a0_1, (.slice A0_2 l0_2.length c0_2)] 39 (0, 0))) ∧ Aside0 (w'.heap[ae]? = some (.cells #[.int .i64 a1_0, .int .i64 a1_1, (.slice A1_2 l1_2.length c1_2)] 39 (0, 0))) ∧ Aside0 (Below w.heap.size w w'))
 case atStart => exact ⟨(0), (by first | rfl | (simp; done) | (simp [*]; done)), H', ⟨Nat.le_refl _⟩, ⟨by (with_reducible repeat (first | refine blk_drewN ?_ _ | refine blk_drew ?_ | refine blk_alloc ?_ _)); exact aa.out⟩, ⟨by (with_reducible repeat (first | refine blk_drewN ?_ _ | refine blk_drew ?_ | refine blk_alloc ?_ _)); exact aq.out⟩, ⟨bw⟩⟩
 case round =>
  clear H'
  try clear c1
  try clear c2
  try clear p2
  try clear c3
  try clear ax
  try clear ay
  try clear c4
  try clear az
  try clear a6
  try clear c5
  try clear a7
  try clear a8
  try clear a9
  try clear c8
  try clear hcz10_0 hcz10_1 hcz10_2 hcz9_0 hcz9_1 hcz9_2
  try clear hfz10_0 hfz10_1 hfz10_2 hfz9_0 hfz9_1 hfz9_2
  obtain ⟨x5_1, rfl, HA, HK1, aa, aq, HB⟩ := hrel
  cases gk with
  | zero => exact absurd HA.out (by simp [carillonlaw14_replies.l0])
  | succ k1 =>
   have H := HA.out
   clear HA
   simp only [carillonlaw14_replies.l0] at H
   by_cases c11 : x5_1 < (l0_2.length : Int); rotate_left
   ·rw [if_neg c11] at H
    have c11b0 : decide (x5_1 < (l0_2.length : Int)) = false := decide_eq_false c11
    clear c11
    obtain rfl := Option.some.inj H
    have hnb21 := ab.out
    have hnc21 := ac.out
    obtain ⟨hcz22_0, hcz22_1, hcz22_2, hfz22_0, hfz22_1, hfz22_2⟩ := bx3 aa.out
    go_wp2
    go_ret
    exact ⟨er, bw⟩
   rw [if_pos c11] at H
   have c11b0 : decide (x5_1 < (l0_2.length : Int)) = true := decide_eq_true c11
   clear c11
   obtain ⟨c12, H⟩ := its H
   have c12b0 : decide (0 ≤ x5_1) = true := decide_eq_true c12
   clear c12
   obtain ⟨c13, H⟩ := its H
   have c13b0 : decide (x5_1 < (l1_2.length : Int)) = true := decide_eq_true c13
   clear c13
   by_cases c14 : (!(((rd_T48 l0_2 x5_1).f0) == ((rd_T48 l1_2 x5_1).f0)) || (!((((rd_T48 l0_2 x5_1).f1).toList) == (((rd_T48 l1_2 x5_1).f1).toList)) || (!(((rd_T48 l0_2 x5_1).f2) == ((rd_T48 l1_2 x5_1).f2)) || (!((((rd_T48 l0_2 x5_1).f3).toList) == (((rd_T48 l1_2 x5_1).f3).toList)) || (!((((rd_T48 l0_2 x5_1).f4).toList) == (((rd_T48 l1_2 x5_1).f4).toList))))))) = true
   ·rw [if_pos c14] at H
    have c14b0 : (!(((rd_T48 l0_2 x5_1).f0) == ((rd_T48 l1_2 x5_1).f0)) || (!((((rd_T48 l0_2 x5_1).f1).toList) == (((rd_T48 l1_2 x5_1).f1).toList)) || (!(((rd_T48 l0_2 x5_1).f2) == ((rd_T48 l1_2 x5_1).f2)) || (!((((rd_T48 l0_2 x5_1).f3).toList) == (((rd_T48 l1_2 x5_1).f3).toList)) || (!((((rd_T48 l0_2 x5_1).f4).toList) == (((rd_T48 l1_2 x5_1).f4).toList))))))) = true := c14
    clear c14
    obtain rfl := Option.some.inj H
    have hnb15 := ab.out
    have hnc15 := ac.out
    obtain ⟨hcz16_0, hcz16_1, hcz16_2, hfz16_0, hfz16_1, hfz16_2⟩ := bx3 aa.out
    have p642 : 0 ≤ (x5_1 : Int) := od
    have q642 : x5_1 < (l0_2.length : Int) := od
    obtain ⟨ad642, e642, af, ag, ah, ai, aj⟩ := at_T48 HR0_2.out x5_1 p642 q642
    cases e642
    replace af := (HB.out.cell (World.block_lt_of_cell? w _ af)).trans af
    replace ag := (HB.out.cell (World.block_lt_of_cell? w _ ag)).trans ag
    replace ah := (HB.out.cell (World.block_lt_of_cell? w _ ah)).trans ah
    replace ai := (HB.out.cell (World.block_lt_of_cell? w _ ai)).trans ai
    replace aj := (HB.out.cell (World.block_lt_of_cell? w _ aj)).trans aj
    replace p642 := eq_true p642
    replace q642 := eq_true q642
    obtain ⟨hcz17_0, hcz17_1, hcz17_2, hfz17_0, hfz17_1, hfz17_2⟩ := bx3 aq.out
    have p643 : 0 ≤ (x5_1 : Int) := od
    have q643 : x5_1 < (l1_2.length : Int) := od
    obtain ⟨ad643, e643, ak, al, an, ao, ap⟩ := at_T48 HR1_2.out x5_1 p643 q643
    cases e643
    replace ak := (HB.out.cell (World.block_lt_of_cell? w _ ak)).trans ak
    replace al := (HB.out.cell (World.block_lt_of_cell? w _ al)).trans al
    replace an := (HB.out.cell (World.block_lt_of_cell? w _ an)).trans an
    replace ao := (HB.out.cell (World.block_lt_of_cell? w _ ao)).trans ao
    replace ap := (HB.out.cell (World.block_lt_of_cell? w _ ap)).trans ap
    replace p643 := eq_true p643
    replace q643 := eq_true q643
    go_wp2
    repeat (go_quiet (fail); try go_wp2)
    go_ret
    exact ⟨er, bw⟩
   rw [if_neg c14] at H
   have c14b0 : (!(((rd_T48 l0_2 x5_1).f0) == ((rd_T48 l1_2 x5_1).f0)) || (!((((rd_T48 l0_2 x5_1).f1).toList) == (((rd_T48 l1_2 x5_1).f1).toList)) || (!(((rd_T48 l0_2 x5_1).f2) == ((rd_T48 l1_2 x5_1).f2)) || (!((((rd_T48 l0_2 x5_1).f3).toList) == (((rd_T48 l1_2 x5_1).f3).toList)) || (!((((rd_T48 l0_2 x5_1).f4).toList) == (((rd_T48 l1_2 x5_1).f4).toList))))))) = false := by simpa using c14
   clear c14
   have H' := Aside0.mk H
   clear H
   have hnb18 := ab.out
   have hnc18 := ac.out
   obtain ⟨hcz19_0, hcz19_1, hcz19_2, hfz19_0, hfz19_1, hfz19_2⟩ := bx3 aa.out
   have p642 : 0 ≤ (x5_1 : Int) := od
   have q642 : x5_1 < (l0_2.length : Int) := od
   obtain ⟨ad642, e642, af, ag, ah, ai, aj⟩ := at_T48 HR0_2.out x5_1 p642 q642
   cases e642
   replace af := (HB.out.cell (World.block_lt_of_cell? w _ af)).trans af
   replace ag := (HB.out.cell (World.block_lt_of_cell? w _ ag)).trans ag
   replace ah := (HB.out.cell (World.block_lt_of_cell? w _ ah)).trans ah
   replace ai := (HB.out.cell (World.block_lt_of_cell? w _ ai)).trans ai
   replace aj := (HB.out.cell (World.block_lt_of_cell? w _ aj)).trans aj
   replace p642 := eq_true p642
   replace q642 := eq_true q642
   obtain ⟨hcz20_0, hcz20_1, hcz20_2, hfz20_0, hfz20_1, hfz20_2⟩ := bx3 aq.out
   have p643 : 0 ≤ (x5_1 : Int) := od
   have q643 : x5_1 < (l1_2.length : Int) := od
   obtain ⟨ad643, e643, ak, al, an, ao, ap⟩ := at_T48 HR1_2.out x5_1 p643 q643
   cases e643
   replace ak := (HB.out.cell (World.block_lt_of_cell? w _ ak)).trans ak
   replace al := (HB.out.cell (World.block_lt_of_cell? w _ al)).trans al
   replace an := (HB.out.cell (World.block_lt_of_cell? w _ an)).trans an
   replace ao := (HB.out.cell (World.block_lt_of_cell? w _ ao)).trans ao
   replace ap := (HB.out.cell (World.block_lt_of_cell? w _ ap)).trans ap
   replace p643 := eq_true p643
   replace q643 := eq_true q643
   go_wp2
   repeat (go_quiet (fail); try go_wp2)
   go_roundg k1
   case measure => have := HK1.out; omega
   case rel => exact ⟨(wrap64 (x5_1 + 1)), (by first | rfl | (simp; done) | (simp [*]; done)), H', ⟨by have := HK1.out; omega⟩, ⟨by (with_reducible repeat (first | refine blk_drewN ?_ _ | refine blk_drew ?_ | refine blk_alloc ?_ _)); exact aa.out⟩, ⟨by (with_reducible repeat (first | refine blk_drewN ?_ _ | refine blk_drew ?_ | refine blk_alloc ?_ _)); exact aq.out⟩, ⟨bw⟩⟩

end Go.Proofs.YtpgiagdpepkooaaDoor.P
