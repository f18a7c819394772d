-- Printed by this session's program wip/xp.py (a turned copy of the kit's printer): functions, their contracts.
import Derived.Test.YtpgiagdpepkooaaDoorPx0
namespace Go.Proofs.YtpgiagdpepkooaaDoor.P
open Go.RowKit Go.Proofs.YtpgiagdpepkooaaDoorW.PrintWords Go.Proofs.YtpgiagdpepkooaaDoorW.PrintLast Go.Proofs.YtpgiagdpepkooaaDoorW.PrintMore
attribute [local go_sem] max2_int min2_int max_two min_two max_three min_three max_four min_four   -- for this text's walks alone
set_option linter.unusedVariables false
set_option linter.unusedSimpArgs false

/-! ### carillonref06_Right: function 71 -/
def carillonref06_Right.f (a0_0 : Int) (a0_1 : ByteArray) (a0_2 : Int) (a0_3 : ByteArray) (a0_4 : ByteArray) : Option (Bool) := if a0_0 ≥ 0 then (if a0_0 ≤ 9007199254740991 then (if a0_2 ≥ 0 then (if a0_2 ≤ 9007199254740991 then (if (a0_1.size : Int) ≤ 20 then (if (a0_3.size : Int) ≤ 100 then (some (decide ((a0_4.size : Int) ≤ 1000))) else (some false)) else (some false)) else (some false)) else (some false)) else (some false)) else (some false)
set_option maxHeartbeats 8000000 in
set_option maxRecDepth 100000 in
theorem carillonref06_Right.calls (a0_0 : Int) (a0_1 : ByteArray) (a0_2 : Int) (a0_3 : ByteArray) (a0_4 : ByteArray) (r : Bool) (w : World) (h : carillonref06_Right.f a0_0 a0_1 a0_2 a0_3 a0_4 = some r) :
  Calls Tryd.prog 71 #[.agg #[.int .i64 a0_0, .string a0_1, .int .i64 a0_2, .string a0_3, .string a0_4]] w fun e w' => e = .returned (.bool r) ∧ Below w.heap.size w w' := by
 have hu48 := Tryd.underlying48
 have HB := Aside0.mk (Below.refl w.heap.size w)
 have H := h
 unfold carillonref06_Right.f at H
 clear h
 by_cases c2 : a0_0 ≥ 0; rotate_left
 ·rw [if_neg c2] at H
  have c2b0 : decide (0 ≤ a0_0) = false := decide_eq_false c2
  clear c2
  obtain rfl := Option.some.inj H
  go_enter Tryd.func71, Tryd.ntmps71
  go_wp2_with (first | ((with_reducible refine gate_dst (N := 1) rfl ?_); (try (refine gate_guard (by rfl) ?_; dsimp only)); refine box_event ?hg (N := 1) ?hd (cs := #[.int .i64 a0_0, .string a0_1, .int .i64 a0_2, .string a0_3, .string a0_4]) (t := 48) ?hr ?_; (case hd => rfl); (case hg => rfl); (case hr => first | (go_simp; done) | (go_simp; rfl)); intro aa hg w20 hbox hb; have ab := Aside0.mk (hbox); have ac := Aside0.mk ((g1 hg bw : w.heap.size ≤ aa)); have ad := Aside0.mk ((g1 hg bw : w.heap.size ≤ aa)); replace HB := Aside0.mk (below_step bw hb); clear hb hbox hg; obtain ⟨hcz21_0, hcz21_1, hcz21_2, hcz21_3, hcz21_4, hfz21_0, hfz21_1, hfz21_2, hfz21_3, hfz21_4⟩ := bx5 ab.out))
  go_ret
  exact ⟨er, bw⟩
 rw [if_pos c2] at H
 have c2b0 : decide (0 ≤ a0_0) = true := decide_eq_true c2
 clear c2
 by_cases c3 : a0_0 ≤ 9007199254740991; rotate_left
 ·rw [if_neg c3] at H
  have c3b0 : decide (a0_0 ≤ 9007199254740991) = false := decide_eq_false c3
  clear c3
  obtain rfl := Option.some.inj H
  go_enter Tryd.func71, Tryd.ntmps71
  go_wp2_with (first | ((with_reducible refine gate_dst (N := 1) rfl ?_); (try (refine gate_guard (by rfl) ?_; dsimp only)); refine box_event ?hg (N := 1) ?hd (cs := #[.int .i64 a0_0, .string a0_1, .int .i64 a0_2, .string a0_3, .string a0_4]) (t := 48) ?hr ?_; (case hd => rfl); (case hg => rfl); (case hr => first | (go_simp; done) | (go_simp; rfl)); intro aa hg w18 hbox hb; have ab := Aside0.mk (hbox); have ac := Aside0.mk ((g1 hg bw : w.heap.size ≤ aa)); have ad := Aside0.mk ((g1 hg bw : w.heap.size ≤ aa)); replace HB := Aside0.mk (below_step bw hb); clear hb hbox hg; obtain ⟨hcz19_0, hcz19_1, hcz19_2, hcz19_3, hcz19_4, hfz19_0, hfz19_1, hfz19_2, hfz19_3, hfz19_4⟩ := bx5 ab.out))
  go_ret
  exact ⟨er, bw⟩
 rw [if_pos c3] at H
 have c3b0 : decide (a0_0 ≤ 9007199254740991) = true := decide_eq_true c3
 clear c3
 by_cases c4 : a0_2 ≥ 0; rotate_left
 ·rw [if_neg c4] at H
  have c4b0 : decide (0 ≤ a0_2) = false := decide_eq_false c4
  clear c4
  obtain rfl := Option.some.inj H
  go_enter Tryd.func71, Tryd.ntmps71
  go_wp2_with (first | ((with_reducible refine gate_dst (N := 1) rfl ?_); (try (refine gate_guard (by rfl) ?_; dsimp only)); refine box_event ?hg (N := 1) ?hd (cs := #[.int .i64 a0_0, .string a0_1, .int .i64 a0_2, .string a0_3, .string a0_4]) (t := 48) ?hr ?_; (case hd => rfl); (case hg => rfl); (case hr => first | (go_simp; done) | (go_simp; rfl)); intro aa hg w16 hbox hb; have ab := Aside0.mk (hbox); have ac := Aside0.mk ((g1 hg bw : w.heap.size ≤ aa)); have ad := Aside0.mk ((g1 hg bw : w.heap.size ≤ aa)); replace HB := Aside0.mk (below_step bw hb); clear hb hbox hg; obtain ⟨hcz17_0, hcz17_1, hcz17_2, hcz17_3, hcz17_4, hfz17_0, hfz17_1, hfz17_2, hfz17_3, hfz17_4⟩ := bx5 ab.out))
  go_ret
  exact ⟨er, bw⟩
 rw [if_pos c4] at H
 have c4b0 : decide (0 ≤ a0_2) = true := decide_eq_true c4
 clear c4
 by_cases c5 : a0_2 ≤ 9007199254740991; rotate_left
 ·rw [if_neg c5] at H
  have c5b0 : decide (a0_2 ≤ 9007199254740991) = false := decide_eq_false c5
  clear c5
  obtain rfl := Option.some.inj H
  go_enter Tryd.func71, Tryd.ntmps71
  go_wp2_with (first | ((with_reducible refine gate_dst (N := 1) rfl ?_); (try (refine gate_guard (by rfl) ?_; dsimp only)); refine box_event ?hg (N := 1) ?hd (cs := #[.int .i64 a0_0, .string a0_1, .int .i64 a0_2, .string a0_3, .string a0_4]) (t := 48) ?hr ?_; (case hd => rfl); (case hg => rfl); (case hr => first | (go_simp; done) | (go_simp; rfl)); intro aa hg w14 hbox hb; have ab := Aside0.mk (hbox); have ac := Aside0.mk ((g1 hg bw : w.heap.size ≤ aa)); have ad := Aside0.mk ((g1 hg bw : w.heap.size ≤ aa)); replace HB := Aside0.mk (below_step bw hb); clear hb hbox hg; obtain ⟨hcz15_0, hcz15_1, hcz15_2, hcz15_3, hcz15_4, hfz15_0, hfz15_1, hfz15_2, hfz15_3, hfz15_4⟩ := bx5 ab.out))
  go_ret
  exact ⟨er, bw⟩
 rw [if_pos c5] at H
 have c5b0 : decide (a0_2 ≤ 9007199254740991) = true := decide_eq_true c5
 clear c5
 by_cases c6 : (a0_1.size : Int) ≤ 20; rotate_left
 ·rw [if_neg c6] at H
  have c6b0 : decide ((a0_1.size : Int) ≤ 20) = false := decide_eq_false c6
  have c6b1 : decide (a0_1.size ≤ 20) = false := decide_eq_false (by omega)
  clear c6
  obtain rfl := Option.some.inj H
  go_enter Tryd.func71, Tryd.ntmps71
  go_wp2_with (first | ((with_reducible refine gate_dst (N := 1) rfl ?_); (try (refine gate_guard (by rfl) ?_; dsimp only)); refine box_event ?hg (N := 1) ?hd (cs := #[.int .i64 a0_0, .string a0_1, .int .i64 a0_2, .string a0_3, .string a0_4]) (t := 48) ?hr ?_; (case hd => rfl); (case hg => rfl); (case hr => first | (go_simp; done) | (go_simp; rfl)); intro aa hg w12 hbox hb; have ab := Aside0.mk (hbox); have ac := Aside0.mk ((g1 hg bw : w.heap.size ≤ aa)); have ad := Aside0.mk ((g1 hg bw : w.heap.size ≤ aa)); replace HB := Aside0.mk (below_step bw hb); clear hb hbox hg; obtain ⟨hcz13_0, hcz13_1, hcz13_2, hcz13_3, hcz13_4, hfz13_0, hfz13_1, hfz13_2, hfz13_3, hfz13_4⟩ := bx5 ab.out))
  go_ret
  exact ⟨er, bw⟩
 rw [if_pos c6] at H
 have c6b0 : decide ((a0_1.size : Int) ≤ 20) = true := decide_eq_true c6
 have c6b1 : decide (a0_1.size ≤ 20) = true := decide_eq_true (by omega)
 clear c6
 by_cases c7 : (a0_3.size : Int) ≤ 100; rotate_left
 ·rw [if_neg c7] at H
  have c7b0 : decide ((a0_3.size : Int) ≤ 100) = false := decide_eq_false c7
  have c7b1 : decide (a0_3.size ≤ 100) = false := decide_eq_false (by omega)
  clear c7
  obtain rfl := Option.some.inj H
  go_enter Tryd.func71, Tryd.ntmps71
  go_wp2_with (first | ((with_reducible refine gate_dst (N := 1) rfl ?_); (try (refine gate_guard (by rfl) ?_; dsimp only)); refine box_event ?hg (N := 1) ?hd (cs := #[.int .i64 a0_0, .string a0_1, .int .i64 a0_2, .string a0_3, .string a0_4]) (t := 48) ?hr ?_; (case hd => rfl); (case hg => rfl); (case hr => first | (go_simp; done) | (go_simp; rfl)); intro aa hg w10 hbox hb; have ab := Aside0.mk (hbox); have ac := Aside0.mk ((g1 hg bw : w.heap.size ≤ aa)); have ad := Aside0.mk ((g1 hg bw : w.heap.size ≤ aa)); replace HB := Aside0.mk (below_step bw hb); clear hb hbox hg; obtain ⟨hcz11_0, hcz11_1, hcz11_2, hcz11_3, hcz11_4, hfz11_0, hfz11_1, hfz11_2, hfz11_3, hfz11_4⟩ := bx5 ab.out))
  go_ret
  exact ⟨er, bw⟩
 rw [if_pos c7] at H
 have c7b0 : decide ((a0_3.size : Int) ≤ 100) = true := decide_eq_true c7
 have c7b1 : decide (a0_3.size ≤ 100) = true := decide_eq_true (by omega)
 clear c7
 obtain rfl := Option.some.inj H
 go_enter Tryd.func71, Tryd.ntmps71
 go_wp2_with (first | ((with_reducible refine gate_dst (N := 1) rfl ?_); (try (refine gate_guard (by rfl) ?_; dsimp only)); refine box_event ?hg (N := 1) ?hd (cs := #[.int .i64 a0_0, .string a0_1, .int .i64 a0_2, .string a0_3, .string a0_4]) (t := 48) ?hr ?_; (case hd => rfl); (case hg => rfl); (case hr => first | (go_simp; done) | (go_simp; rfl)); intro aa hg w8 hbox hb; have ab := Aside0.mk (hbox); have ac := Aside0.mk ((g1 hg bw : w.heap.size ≤ aa)); have ad := Aside0.mk ((g1 hg bw : w.heap.size ≤ aa)); replace HB := Aside0.mk (below_step bw hb); clear hb hbox hg; obtain ⟨hcz9_0, hcz9_1, hcz9_2, hcz9_3, hcz9_4, hfz9_0, hfz9_1, hfz9_2, hfz9_3, hfz9_4⟩ := bx5 ab.out))
 go_ret
 exact ⟨er, bw⟩

end Go.Proofs.YtpgiagdpepkooaaDoor.P
