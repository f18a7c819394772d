-- Printed by this session's program wip/xp.py (a turned copy of the kit's printer): functions, their contracts.
import Derived.Test.YtdpogggajdfedaaPx0
import Derived.Test.YtdpogggajdfedaaPx1
namespace Go.Proofs.Ytdpogggajdfedaa.P
open Go.RowKit Go.Proofs.YtdpogggajdfedaaW.PrintWords Go.Proofs.YtdpogggajdfedaaW.PrintLast Go.Proofs.YtdpogggajdfedaaW.PrintMore
attribute [local go_sem] max2_int min2_int max_two min_two max_three min_three max_four min_four   -- for this text's walks alone
set_option linter.unusedVariables false
set_option linter.unusedSimpArgs false

attribute [local go_sem high] eqA46
/-! ### link_right: function 29 -/
def link_right.f (a0_0 : Int) (a0_1 : Int) (a0_2 : Int) (a0_3 : Int) (a0_4 : ByteArray) : Option (Bool) := if (wrap64 (a0_0 - 1)) < 0 then (some false) else (if (wrap64 (a0_0 - 1)) > 9007199254740991 then (some false) else (if a0_1 < 0 then (some false) else (if a0_1 > 9007199254740991 then (some false) else (if a0_2 < 0 then (some false) else (if a0_2 > 9007199254740991 then (some false) else (if a0_3 < 0 then (some false) else (if a0_3 > 9007199254740991 then (some false) else (if a0_0 ≤ 9007199254740991 then (if (a0_4.size : Int) ≤ 100000 then (if a0_2 > 0 then (some true) else (some (a0_4.toList == ([] : List UInt8)))) else (some false)) else (some false)))))))))
theorem ixlink_right_70_0 (c0 c1 c2 c3 : Value) (w_ : World) : (Instr.index 70 (.agg #[c0, c1, c2, c3]) (.int .i64 0)).run Try.prog w_ = .ok (c0) w_ := run_index_agg (sz := 1) Try.underlying70 (by decide) (by go_simp) (by go_simp)
theorem ixlink_right_70_1 (c0 c1 c2 c3 : Value) (w_ : World) : (Instr.index 70 (.agg #[c0, c1, c2, c3]) (.int .i64 1)).run Try.prog w_ = .ok (c1) w_ := run_index_agg (sz := 1) Try.underlying70 (by decide) (by go_simp) (by go_simp)
theorem ixlink_right_70_2 (c0 c1 c2 c3 : Value) (w_ : World) : (Instr.index 70 (.agg #[c0, c1, c2, c3]) (.int .i64 2)).run Try.prog w_ = .ok (c2) w_ := run_index_agg (sz := 1) Try.underlying70 (by decide) (by go_simp) (by go_simp)
theorem ixlink_right_70_3 (c0 c1 c2 c3 : Value) (w_ : World) : (Instr.index 70 (.agg #[c0, c1, c2, c3]) (.int .i64 3)).run Try.prog w_ = .ok (c3) w_ := run_index_agg (sz := 1) Try.underlying70 (by decide) (by go_simp) (by go_simp)
set_option maxHeartbeats 8000000 in
set_option maxRecDepth 100000 in
theorem link_right.calls (a0_0 : Int) (a0_1 : Int) (a0_2 : Int) (a0_3 : Int) (a0_4 : ByteArray) (r : Bool) (w : World) (h : link_right.f a0_0 a0_1 a0_2 a0_3 a0_4 = some r) :
  Calls Try.prog 29 #[.agg #[.int .i64 a0_0, .int .i64 a0_1, .int .i64 a0_2, .int .i64 a0_3, .string a0_4]] w fun e w' => e = .returned (.bool r) ∧ Below w.heap.size w w' := by
 have hu46 := Try.underlying46
 have hu70 := Try.underlying70
 have ix70_0_ := ixlink_right_70_0
 have ix70_1_ := ixlink_right_70_1
 have ix70_2_ := ixlink_right_70_2
 have ix70_3_ := ixlink_right_70_3
 have HB := Aside0.mk (Below.refl w.heap.size w)
 have H : (if (wrap64 (a0_0 - 1)) < 0 then (some false) else (if (wrap64 (a0_0 - 1)) > 9007199254740991 then (some false) else (if a0_1 < 0 then (some false) else (if a0_1 > 9007199254740991 then (some false) else (if a0_2 < 0 then (some false) else (if a0_2 > 9007199254740991 then (some false) else (if a0_3 < 0 then (some false) else (if a0_3 > 9007199254740991 then (some false) else (if a0_0 ≤ 9007199254740991 then (if (a0_4.size : Int) ≤ 100000 then (if a0_2 > 0 then (some true) else (some (a0_4.toList == ([] : List UInt8)))) else (some false)) else (some false)))))))))) = some r := h
 clear h
 by_cases c2 : (wrap64 (a0_0 - 1)) < 0
 ·rw [if_pos c2] at H
  have c2b0 : decide ((wrap64 (a0_0 - 1)) < 0) = true := decide_eq_true c2
  clear c2
  obtain rfl := Option.some.inj H
  go_enter Try.func29, Try.ntmps29
  go_wp2_with (first | ((with_reducible refine gate_dst (N := 1) rfl ?_); (try (refine gate_guard (by rfl) ?_; dsimp only)); refine box_event ?hg (N := 1) ?hd (cs := #[.int .i64 a0_0, .int .i64 a0_1, .int .i64 a0_2, .int .i64 a0_3, .string a0_4]) (t := 46) ?hr ?_; (case hd => rfl); (case hg => rfl); (case hr => first | (go_simp; done) | (go_simp; rfl)); intro aa hg w3 hbox hb; have n0_ := Aside0.mk (below_step bw hb); have n1_ := Aside0.mk (hbox); have n2_ := Aside0.mk ((g1 hg bw : w.heap.size ≤ aa)); have n3_ := Aside0.mk ((g1 hg bw : w.heap.size ≤ aa)); clear HB; have HB := n0_; have ab := n1_; have ac := n2_; have ad := n3_; clear n0_ n1_ n2_ n3_; clear hb hbox hg; obtain ⟨hcz4_0, hcz4_1, hcz4_2, hcz4_3, hcz4_4, hfz4_0, hfz4_1, hfz4_2, hfz4_3, hfz4_4⟩ := bx5 ab.out))
  first | refine wp_loop_enter (loopAt_once fun _ _ => ?_) | refine loopAt_once fun _ _ => ?_ | (go_step; refine loopAt_once fun _ _ => ?_)
  go_wp2
  go_ret
  exact ⟨er, bw⟩
 rw [if_neg c2] at H
 have c2b0 : decide ((wrap64 (a0_0 - 1)) < 0) = false := decide_eq_false c2
 clear c2
 by_cases c5 : (wrap64 (a0_0 - 1)) > 9007199254740991
 ·rw [if_pos c5] at H
  have c5b0 : decide (9007199254740991 < (wrap64 (a0_0 - 1))) = true := decide_eq_true c5
  clear c5
  obtain rfl := Option.some.inj H
  go_enter Try.func29, Try.ntmps29
  go_wp2_with (first | ((with_reducible refine gate_dst (N := 1) rfl ?_); (try (refine gate_guard (by rfl) ?_; dsimp only)); refine box_event ?hg (N := 1) ?hd (cs := #[.int .i64 a0_0, .int .i64 a0_1, .int .i64 a0_2, .int .i64 a0_3, .string a0_4]) (t := 46) ?hr ?_; (case hd => rfl); (case hg => rfl); (case hr => first | (go_simp; done) | (go_simp; rfl)); intro aa hg w6 hbox hb; have n0_ := Aside0.mk (below_step bw hb); have n1_ := Aside0.mk (hbox); have n2_ := Aside0.mk ((g1 hg bw : w.heap.size ≤ aa)); have n3_ := Aside0.mk ((g1 hg bw : w.heap.size ≤ aa)); clear HB; have HB := n0_; have ab := n1_; have ac := n2_; have ad := n3_; clear n0_ n1_ n2_ n3_; clear hb hbox hg; obtain ⟨hcz7_0, hcz7_1, hcz7_2, hcz7_3, hcz7_4, hfz7_0, hfz7_1, hfz7_2, hfz7_3, hfz7_4⟩ := bx5 ab.out))
  first | refine wp_loop_enter (loopAt_once fun _ _ => ?_) | refine loopAt_once fun _ _ => ?_ | (go_step; refine loopAt_once fun _ _ => ?_)
  go_wp2
  go_ret
  exact ⟨er, bw⟩
 rw [if_neg c5] at H
 have c5b0 : decide (9007199254740991 < (wrap64 (a0_0 - 1))) = false := decide_eq_false c5
 clear c5
 by_cases c8 : a0_1 < 0
 ·rw [if_pos c8] at H
  have c8b0 : decide (a0_1 < 0) = true := decide_eq_true c8
  clear c8
  obtain rfl := Option.some.inj H
  go_enter Try.func29, Try.ntmps29
  go_wp2_with (first | ((with_reducible refine gate_dst (N := 1) rfl ?_); (try (refine gate_guard (by rfl) ?_; dsimp only)); refine box_event ?hg (N := 1) ?hd (cs := #[.int .i64 a0_0, .int .i64 a0_1, .int .i64 a0_2, .int .i64 a0_3, .string a0_4]) (t := 46) ?hr ?_; (case hd => rfl); (case hg => rfl); (case hr => first | (go_simp; done) | (go_simp; rfl)); intro aa hg w9 hbox hb; have n0_ := Aside0.mk (below_step bw hb); have n1_ := Aside0.mk (hbox); have n2_ := Aside0.mk ((g1 hg bw : w.heap.size ≤ aa)); have n3_ := Aside0.mk ((g1 hg bw : w.heap.size ≤ aa)); clear HB; have HB := n0_; have ab := n1_; have ac := n2_; have ad := n3_; clear n0_ n1_ n2_ n3_; clear hb hbox hg; obtain ⟨hcz10_0, hcz10_1, hcz10_2, hcz10_3, hcz10_4, hfz10_0, hfz10_1, hfz10_2, hfz10_3, hfz10_4⟩ := bx5 ab.out))
  first | refine wp_loop_enter (loopAt_once fun _ _ => ?_) | refine loopAt_once fun _ _ => ?_ | (go_step; refine loopAt_once fun _ _ => ?_)
  go_wp2
  first | refine wp_loop_enter (loopAt_once fun _ _ => ?_) | refine loopAt_once fun _ _ => ?_ | (go_step; refine loopAt_once fun _ _ => ?_)
  go_wp2
  go_ret
  exact ⟨er, bw⟩
 rw [if_neg c8] at H
 have c8b0 : decide (a0_1 < 0) = false := decide_eq_false c8
 clear c8
 by_cases c11 : a0_1 > 9007199254740991
 ·rw [if_pos c11] at H
  have c11b0 : decide (9007199254740991 < a0_1) = true := decide_eq_true c11
  clear c11
  obtain rfl := Option.some.inj H
  go_enter Try.func29, Try.ntmps29
  go_wp2_with (first | ((with_reducible refine gate_dst (N := 1) rfl ?_); (try (refine gate_guard (by rfl) ?_; dsimp only)); refine box_event ?hg (N := 1) ?hd (cs := #[.int .i64 a0_0, .int .i64 a0_1, .int .i64 a0_2, .int .i64 a0_3, .string a0_4]) (t := 46) ?hr ?_; (case hd => rfl); (case hg => rfl); (case hr => first | (go_simp; done) | (go_simp; rfl)); intro aa hg w12 hbox hb; have n0_ := Aside0.mk (below_step bw hb); have n1_ := Aside0.mk (hbox); have n2_ := Aside0.mk ((g1 hg bw : w.heap.size ≤ aa)); have n3_ := Aside0.mk ((g1 hg bw : w.heap.size ≤ aa)); clear HB; have HB := n0_; have ab := n1_; have ac := n2_; have ad := n3_; clear n0_ n1_ n2_ n3_; clear hb hbox hg; obtain ⟨hcz13_0, hcz13_1, hcz13_2, hcz13_3, hcz13_4, hfz13_0, hfz13_1, hfz13_2, hfz13_3, hfz13_4⟩ := bx5 ab.out))
  first | refine wp_loop_enter (loopAt_once fun _ _ => ?_) | refine loopAt_once fun _ _ => ?_ | (go_step; refine loopAt_once fun _ _ => ?_)
  go_wp2
  first | refine wp_loop_enter (loopAt_once fun _ _ => ?_) | refine loopAt_once fun _ _ => ?_ | (go_step; refine loopAt_once fun _ _ => ?_)
  go_wp2
  go_ret
  exact ⟨er, bw⟩
 rw [if_neg c11] at H
 have c11b0 : decide (9007199254740991 < a0_1) = false := decide_eq_false c11
 clear c11
 by_cases c14 : a0_2 < 0
 ·rw [if_pos c14] at H
  have c14b0 : decide (a0_2 < 0) = true := decide_eq_true c14
  clear c14
  obtain rfl := Option.some.inj H
  go_enter Try.func29, Try.ntmps29
  go_wp2_with (first | ((with_reducible refine gate_dst (N := 1) rfl ?_); (try (refine gate_guard (by rfl) ?_; dsimp only)); refine box_event ?hg (N := 1) ?hd (cs := #[.int .i64 a0_0, .int .i64 a0_1, .int .i64 a0_2, .int .i64 a0_3, .string a0_4]) (t := 46) ?hr ?_; (case hd => rfl); (case hg => rfl); (case hr => first | (go_simp; done) | (go_simp; rfl)); intro aa hg w15 hbox hb; have n0_ := Aside0.mk (below_step bw hb); have n1_ := Aside0.mk (hbox); have n2_ := Aside0.mk ((g1 hg bw : w.heap.size ≤ aa)); have n3_ := Aside0.mk ((g1 hg bw : w.heap.size ≤ aa)); clear HB; have HB := n0_; have ab := n1_; have ac := n2_; have ad := n3_; clear n0_ n1_ n2_ n3_; clear hb hbox hg; obtain ⟨hcz16_0, hcz16_1, hcz16_2, hcz16_3, hcz16_4, hfz16_0, hfz16_1, hfz16_2, hfz16_3, hfz16_4⟩ := bx5 ab.out))
  first | refine wp_loop_enter (loopAt_once fun _ _ => ?_) | refine loopAt_once fun _ _ => ?_ | (go_step; refine loopAt_once fun _ _ => ?_)
  go_wp2
  first | refine wp_loop_enter (loopAt_once fun _ _ => ?_) | refine loopAt_once fun _ _ => ?_ | (go_step; refine loopAt_once fun _ _ => ?_)
  go_wp2
  first | refine wp_loop_enter (loopAt_once fun _ _ => ?_) | refine loopAt_once fun _ _ => ?_ | (go_step; refine loopAt_once fun _ _ => ?_)
  go_wp2
  go_ret
  exact ⟨er, bw⟩
 rw [if_neg c14] at H
 have c14b0 : decide (a0_2 < 0) = false := decide_eq_false c14
 clear c14
 by_cases c17 : a0_2 > 9007199254740991
 ·rw [if_pos c17] at H
  have c17b0 : decide (9007199254740991 < a0_2) = true := decide_eq_true c17
  clear c17
  obtain rfl := Option.some.inj H
  go_enter Try.func29, Try.ntmps29
  go_wp2_with (first | ((with_reducible refine gate_dst (N := 1) rfl ?_); (try (refine gate_guard (by rfl) ?_; dsimp only)); refine box_event ?hg (N := 1) ?hd (cs := #[.int .i64 a0_0, .int .i64 a0_1, .int .i64 a0_2, .int .i64 a0_3, .string a0_4]) (t := 46) ?hr ?_; (case hd => rfl); (case hg => rfl); (case hr => first | (go_simp; done) | (go_simp; rfl)); intro aa hg w18 hbox hb; have n0_ := Aside0.mk (below_step bw hb); have n1_ := Aside0.mk (hbox); have n2_ := Aside0.mk ((g1 hg bw : w.heap.size ≤ aa)); have n3_ := Aside0.mk ((g1 hg bw : w.heap.size ≤ aa)); clear HB; have HB := n0_; have ab := n1_; have ac := n2_; have ad := n3_; clear n0_ n1_ n2_ n3_; clear hb hbox hg; obtain ⟨hcz19_0, hcz19_1, hcz19_2, hcz19_3, hcz19_4, hfz19_0, hfz19_1, hfz19_2, hfz19_3, hfz19_4⟩ := bx5 ab.out))
  first | refine wp_loop_enter (loopAt_once fun _ _ => ?_) | refine loopAt_once fun _ _ => ?_ | (go_step; refine loopAt_once fun _ _ => ?_)
  go_wp2
  first | refine wp_loop_enter (loopAt_once fun _ _ => ?_) | refine loopAt_once fun _ _ => ?_ | (go_step; refine loopAt_once fun _ _ => ?_)
  go_wp2
  first | refine wp_loop_enter (loopAt_once fun _ _ => ?_) | refine loopAt_once fun _ _ => ?_ | (go_step; refine loopAt_once fun _ _ => ?_)
  go_wp2
  go_ret
  exact ⟨er, bw⟩
 rw [if_neg c17] at H
 have c17b0 : decide (9007199254740991 < a0_2) = false := decide_eq_false c17
 clear c17
 by_cases c20 : a0_3 < 0
 ·rw [if_pos c20] at H
  have c20b0 : decide (a0_3 < 0) = true := decide_eq_true c20
  clear c20
  obtain rfl := Option.some.inj H
  go_enter Try.func29, Try.ntmps29
  go_wp2_with (first | ((with_reducible refine gate_dst (N := 1) rfl ?_); (try (refine gate_guard (by rfl) ?_; dsimp only)); refine box_event ?hg (N := 1) ?hd (cs := #[.int .i64 a0_0, .int .i64 a0_1, .int .i64 a0_2, .int .i64 a0_3, .string a0_4]) (t := 46) ?hr ?_; (case hd => rfl); (case hg => rfl); (case hr => first | (go_simp; done) | (go_simp; rfl)); intro aa hg w21 hbox hb; have n0_ := Aside0.mk (below_step bw hb); have n1_ := Aside0.mk (hbox); have n2_ := Aside0.mk ((g1 hg bw : w.heap.size ≤ aa)); have n3_ := Aside0.mk ((g1 hg bw : w.heap.size ≤ aa)); clear HB; have HB := n0_; have ab := n1_; have ac := n2_; have ad := n3_; clear n0_ n1_ n2_ n3_; clear hb hbox hg; obtain ⟨hcz22_0, hcz22_1, hcz22_2, hcz22_3, hcz22_4, hfz22_0, hfz22_1, hfz22_2, hfz22_3, hfz22_4⟩ := bx5 ab.out))
  first | refine wp_loop_enter (loopAt_once fun _ _ => ?_) | refine loopAt_once fun _ _ => ?_ | (go_step; refine loopAt_once fun _ _ => ?_)
  go_wp2
  first | refine wp_loop_enter (loopAt_once fun _ _ => ?_) | refine loopAt_once fun _ _ => ?_ | (go_step; refine loopAt_once fun _ _ => ?_)
  go_wp2
  first | refine wp_loop_enter (loopAt_once fun _ _ => ?_) | refine loopAt_once fun _ _ => ?_ | (go_step; refine loopAt_once fun _ _ => ?_)
  go_wp2
  first | refine wp_loop_enter (loopAt_once fun _ _ => ?_) | refine loopAt_once fun _ _ => ?_ | (go_step; refine loopAt_once fun _ _ => ?_)
  go_wp2
  go_ret
  exact ⟨er, bw⟩
 rw [if_neg c20] at H
 have c20b0 : decide (a0_3 < 0) = false := decide_eq_false c20
 clear c20
 by_cases c23 : a0_3 > 9007199254740991
 ·rw [if_pos c23] at H
  have c23b0 : decide (9007199254740991 < a0_3) = true := decide_eq_true c23
  clear c23
  obtain rfl := Option.some.inj H
  go_enter Try.func29, Try.ntmps29
  go_wp2_with (first | ((with_reducible refine gate_dst (N := 1) rfl ?_); (try (refine gate_guard (by rfl) ?_; dsimp only)); refine box_event ?hg (N := 1) ?hd (cs := #[.int .i64 a0_0, .int .i64 a0_1, .int .i64 a0_2, .int .i64 a0_3, .string a0_4]) (t := 46) ?hr ?_; (case hd => rfl); (case hg => rfl); (case hr => first | (go_simp; done) | (go_simp; rfl)); intro aa hg w24 hbox hb; have n0_ := Aside0.mk (below_step bw hb); have n1_ := Aside0.mk (hbox); have n2_ := Aside0.mk ((g1 hg bw : w.heap.size ≤ aa)); have n3_ := Aside0.mk ((g1 hg bw : w.heap.size ≤ aa)); clear HB; have HB := n0_; have ab := n1_; have ac := n2_; have ad := n3_; clear n0_ n1_ n2_ n3_; clear hb hbox hg; obtain ⟨hcz25_0, hcz25_1, hcz25_2, hcz25_3, hcz25_4, hfz25_0, hfz25_1, hfz25_2, hfz25_3, hfz25_4⟩ := bx5 ab.out))
  first | refine wp_loop_enter (loopAt_once fun _ _ => ?_) | refine loopAt_once fun _ _ => ?_ | (go_step; refine loopAt_once fun _ _ => ?_)
  go_wp2
  first | refine wp_loop_enter (loopAt_once fun _ _ => ?_) | refine loopAt_once fun _ _ => ?_ | (go_step; refine loopAt_once fun _ _ => ?_)
  go_wp2
  first | refine wp_loop_enter (loopAt_once fun _ _ => ?_) | refine loopAt_once fun _ _ => ?_ | (go_step; refine loopAt_once fun _ _ => ?_)
  go_wp2
  first | refine wp_loop_enter (loopAt_once fun _ _ => ?_) | refine loopAt_once fun _ _ => ?_ | (go_step; refine loopAt_once fun _ _ => ?_)
  go_wp2
  go_ret
  exact ⟨er, bw⟩
 rw [if_neg c23] at H
 have c23b0 : decide (9007199254740991 < a0_3) = false := decide_eq_false c23
 clear c23
 by_cases c26 : a0_0 ≤ 9007199254740991; rotate_left
 ·rw [if_neg c26] at H
  have c26b0 : decide (a0_0 ≤ 9007199254740991) = false := decide_eq_false c26
  clear c26
  obtain rfl := Option.some.inj H
  go_enter Try.func29, Try.ntmps29
  go_wp2_with (first | ((with_reducible refine gate_dst (N := 1) rfl ?_); (try (refine gate_guard (by rfl) ?_; dsimp only)); refine box_event ?hg (N := 1) ?hd (cs := #[.int .i64 a0_0, .int .i64 a0_1, .int .i64 a0_2, .int .i64 a0_3, .string a0_4]) (t := 46) ?hr ?_; (case hd => rfl); (case hg => rfl); (case hr => first | (go_simp; done) | (go_simp; rfl)); intro aa hg w35 hbox hb; have n0_ := Aside0.mk (below_step bw hb); have n1_ := Aside0.mk (hbox); have n2_ := Aside0.mk ((g1 hg bw : w.heap.size ≤ aa)); have n3_ := Aside0.mk ((g1 hg bw : w.heap.size ≤ aa)); clear HB; have HB := n0_; have ab := n1_; have ac := n2_; have ad := n3_; clear n0_ n1_ n2_ n3_; clear hb hbox hg; obtain ⟨hcz36_0, hcz36_1, hcz36_2, hcz36_3, hcz36_4, hfz36_0, hfz36_1, hfz36_2, hfz36_3, hfz36_4⟩ := bx5 ab.out))
  first | refine wp_loop_enter (loopAt_once fun _ _ => ?_) | refine loopAt_once fun _ _ => ?_ | (go_step; refine loopAt_once fun _ _ => ?_)
  go_wp2
  first | refine wp_loop_enter (loopAt_once fun _ _ => ?_) | refine loopAt_once fun _ _ => ?_ | (go_step; refine loopAt_once fun _ _ => ?_)
  go_wp2
  first | refine wp_loop_enter (loopAt_once fun _ _ => ?_) | refine loopAt_once fun _ _ => ?_ | (go_step; refine loopAt_once fun _ _ => ?_)
  go_wp2
  first | refine wp_loop_enter (loopAt_once fun _ _ => ?_) | refine loopAt_once fun _ _ => ?_ | (go_step; refine loopAt_once fun _ _ => ?_)
  go_wp2
  first | refine wp_loop_enter (loopAt_once fun _ _ => ?_) | refine loopAt_once fun _ _ => ?_ | (go_step; refine loopAt_once fun _ _ => ?_)
  go_wp2
  go_ret
  exact ⟨er, bw⟩
 rw [if_pos c26] at H
 have c26b0 : decide (a0_0 ≤ 9007199254740991) = true := decide_eq_true c26
 clear c26
 by_cases c27 : (a0_4.size : Int) ≤ 100000; rotate_left
 ·rw [if_neg c27] at H
  have c27b0 : decide ((a0_4.size : Int) ≤ 100000) = false := decide_eq_false c27
  have c27b1 : decide (a0_4.size ≤ 100000) = false := decide_eq_false (by omega)
  clear c27
  obtain rfl := Option.some.inj H
  go_enter Try.func29, Try.ntmps29
  go_wp2_with (first | ((with_reducible refine gate_dst (N := 1) rfl ?_); (try (refine gate_guard (by rfl) ?_; dsimp only)); refine box_event ?hg (N := 1) ?hd (cs := #[.int .i64 a0_0, .int .i64 a0_1, .int .i64 a0_2, .int .i64 a0_3, .string a0_4]) (t := 46) ?hr ?_; (case hd => rfl); (case hg => rfl); (case hr => first | (go_simp; done) | (go_simp; rfl)); intro aa hg w33 hbox hb; have n0_ := Aside0.mk (below_step bw hb); have n1_ := Aside0.mk (hbox); have n2_ := Aside0.mk ((g1 hg bw : w.heap.size ≤ aa)); have n3_ := Aside0.mk ((g1 hg bw : w.heap.size ≤ aa)); clear HB; have HB := n0_; have ab := n1_; have ac := n2_; have ad := n3_; clear n0_ n1_ n2_ n3_; clear hb hbox hg; obtain ⟨hcz34_0, hcz34_1, hcz34_2, hcz34_3, hcz34_4, hfz34_0, hfz34_1, hfz34_2, hfz34_3, hfz34_4⟩ := bx5 ab.out))
  first | refine wp_loop_enter (loopAt_once fun _ _ => ?_) | refine loopAt_once fun _ _ => ?_ | (go_step; refine loopAt_once fun _ _ => ?_)
  go_wp2
  first | refine wp_loop_enter (loopAt_once fun _ _ => ?_) | refine loopAt_once fun _ _ => ?_ | (go_step; refine loopAt_once fun _ _ => ?_)
  go_wp2
  first | refine wp_loop_enter (loopAt_once fun _ _ => ?_) | refine loopAt_once fun _ _ => ?_ | (go_step; refine loopAt_once fun _ _ => ?_)
  go_wp2
  first | refine wp_loop_enter (loopAt_once fun _ _ => ?_) | refine loopAt_once fun _ _ => ?_ | (go_step; refine loopAt_once fun _ _ => ?_)
  go_wp2
  first | refine wp_loop_enter (loopAt_once fun _ _ => ?_) | refine loopAt_once fun _ _ => ?_ | (go_step; refine loopAt_once fun _ _ => ?_)
  go_wp2
  go_ret
  exact ⟨er, bw⟩
 rw [if_pos c27] at H
 have c27b0 : decide ((a0_4.size : Int) ≤ 100000) = true := decide_eq_true c27
 have c27b1 : decide (a0_4.size ≤ 100000) = true := decide_eq_true (by omega)
 clear c27
 by_cases c28 : a0_2 > 0; rotate_left
 ·rw [if_neg c28] at H
  have c28b0 : decide (0 < a0_2) = false := decide_eq_false c28
  clear c28
  obtain rfl := Option.some.inj H
  go_enter Try.func29, Try.ntmps29
  go_wp2_with (first | ((with_reducible refine gate_dst (N := 1) rfl ?_); (try (refine gate_guard (by rfl) ?_; dsimp only)); refine box_event ?hg (N := 1) ?hd (cs := #[.int .i64 a0_0, .int .i64 a0_1, .int .i64 a0_2, .int .i64 a0_3, .string a0_4]) (t := 46) ?hr ?_; (case hd => rfl); (case hg => rfl); (case hr => first | (go_simp; done) | (go_simp; rfl)); intro aa hg w31 hbox hb; have n0_ := Aside0.mk (below_step bw hb); have n1_ := Aside0.mk (hbox); have n2_ := Aside0.mk ((g1 hg bw : w.heap.size ≤ aa)); have n3_ := Aside0.mk ((g1 hg bw : w.heap.size ≤ aa)); clear HB; have HB := n0_; have ab := n1_; have ac := n2_; have ad := n3_; clear n0_ n1_ n2_ n3_; clear hb hbox hg; obtain ⟨hcz32_0, hcz32_1, hcz32_2, hcz32_3, hcz32_4, hfz32_0, hfz32_1, hfz32_2, hfz32_3, hfz32_4⟩ := bx5 ab.out))
  first | refine wp_loop_enter (loopAt_once fun _ _ => ?_) | refine loopAt_once fun _ _ => ?_ | (go_step; refine loopAt_once fun _ _ => ?_)
  go_wp2
  first | refine wp_loop_enter (loopAt_once fun _ _ => ?_) | refine loopAt_once fun _ _ => ?_ | (go_step; refine loopAt_once fun _ _ => ?_)
  go_wp2
  first | refine wp_loop_enter (loopAt_once fun _ _ => ?_) | refine loopAt_once fun _ _ => ?_ | (go_step; refine loopAt_once fun _ _ => ?_)
  go_wp2
  first | refine wp_loop_enter (loopAt_once fun _ _ => ?_) | refine loopAt_once fun _ _ => ?_ | (go_step; refine loopAt_once fun _ _ => ?_)
  go_wp2
  first | refine wp_loop_enter (loopAt_once fun _ _ => ?_) | refine loopAt_once fun _ _ => ?_ | (go_step; refine loopAt_once fun _ _ => ?_)
  go_wp2
  go_ret
  exact ⟨er, bw⟩
 rw [if_pos c28] at H
 have c28b0 : decide (0 < a0_2) = true := decide_eq_true c28
 clear c28
 obtain rfl := Option.some.inj H
 go_enter Try.func29, Try.ntmps29
 go_wp2_with (first | ((with_reducible refine gate_dst (N := 1) rfl ?_); (try (refine gate_guard (by rfl) ?_; dsimp only)); refine box_event ?hg (N := 1) ?hd (cs := #[.int .i64 a0_0, .int .i64 a0_1, .int .i64 a0_2, .int .i64 a0_3, .string a0_4]) (t := 46) ?hr ?_; (case hd => rfl); (case hg => rfl); (case hr => first | (go_simp; done) | (go_simp; rfl)); intro aa hg w29 hbox hb; have n0_ := Aside0.mk (below_step bw hb); have n1_ := Aside0.mk (hbox); have n2_ := Aside0.mk ((g1 hg bw : w.heap.size ≤ aa)); have n3_ := Aside0.mk ((g1 hg bw : w.heap.size ≤ aa)); clear HB; have HB := n0_; have ab := n1_; have ac := n2_; have ad := n3_; clear n0_ n1_ n2_ n3_; clear hb hbox hg; obtain ⟨hcz30_0, hcz30_1, hcz30_2, hcz30_3, hcz30_4, hfz30_0, hfz30_1, hfz30_2, hfz30_3, hfz30_4⟩ := bx5 ab.out))
 first | refine wp_loop_enter (loopAt_once fun _ _ => ?_) | refine loopAt_once fun _ _ => ?_ | (go_step; refine loopAt_once fun _ _ => ?_)
 go_wp2
 first | refine wp_loop_enter (loopAt_once fun _ _ => ?_) | refine loopAt_once fun _ _ => ?_ | (go_step; refine loopAt_once fun _ _ => ?_)
 go_wp2
 first | refine wp_loop_enter (loopAt_once fun _ _ => ?_) | refine loopAt_once fun _ _ => ?_ | (go_step; refine loopAt_once fun _ _ => ?_)
 go_wp2
 first | refine wp_loop_enter (loopAt_once fun _ _ => ?_) | refine loopAt_once fun _ _ => ?_ | (go_step; refine loopAt_once fun _ _ => ?_)
 go_wp2
 first | refine wp_loop_enter (loopAt_once fun _ _ => ?_) | refine loopAt_once fun _ _ => ?_ | (go_step; refine loopAt_once fun _ _ => ?_)
 go_wp2
 go_ret
 exact ⟨er, bw⟩

-- NOT PRINTED: function 30 (link_Link_reset)

-- NOT PRINTED: function 31 (link_Link_ack)

-- NOT PRINTED: function 18 (link_Link_Take)

-- NOT PRINTED: function 9 (carillonlaw09_examples)

-- NOT PRINTED: function 10 (carillonlaw09_begin)

end Go.Proofs.Ytdpogggajdfedaa.P
