-- Printed by this session's program wip/xp.py (a turned copy of the kit's printer): functions, their contracts.
import Derived.Test.YtpgiagdpepkooaaDoorPx0
import Derived.Test.YtpgiagdpepkooaaDoorPx15
import Derived.Test.YtpgiagdpepkooaaDoorPx16
namespace Go.Proofs.YtpgiagdpepkooaaDoor.P
open Go.RowKit Go.Proofs.YtpgiagdpepkooaaDoorW.PrintWords Go.Proofs.YtpgiagdpepkooaaDoorW.PrintLast Go.Proofs.YtpgiagdpepkooaaDoorW.PrintMore
attribute [local go_sem] max2_int min2_int max_two min_two max_three min_three max_four min_four   -- for this text's walks alone
set_option linter.unusedVariables false
set_option linter.unusedSimpArgs false

/-! ### carillonref01_value: function 77 -/
def carillonref01_value.l0 : Nat → ByteArray → Int → Int → Option (Int)
 | 0, _, _, _ => none
 | k + 1, x0, x3, x4 => if x4 < (x0.size : Int) then (if 0 ≤ x4 then (carillonref01_value.l0 k x0 (IntKind.u64.wrap ((IntKind.u64.wrap (256 * x3)) + (IntKind.u64.wrap (bt x0 x4)))) (wrap64 (x4 + 1))) else (none)) else (some x3)
def carillonref01_value.f (k : Nat) (a0 : ByteArray) : Option (Int) := carillonref01_value.l0 k a0 0 0
set_option maxHeartbeats 8000000 in
set_option maxRecDepth 100000 in
theorem carillonref01_value.calls (k : Nat) (a0 : ByteArray) (r : Int) (w : World) (h : carillonref01_value.f k a0 = some r) :
  Calls Tryd.prog 77 #[.string a0] w fun e w' => e = .returned (.int .u64 r) ∧ Drawn0 w w' := by
 have H : (carillonref01_value.l0 k a0 0 0) = some r := h
 clear h
 have H' := Aside0.mk H
 clear H
 go_enter Tryd.func77, Tryd.ntmps77
 go_wp2
 go_loopg [3, 4] k (fun kq v3 v4 w' => ∃ (x3_1 : Int) (x4_1 : Int), v3 = .int .u64 x3_1 ∧ v4 = .int .i64 x4_1 ∧ Aside0 (carillonref01_value.l0 kq a0 x3_1 x4_1 = some r) ∧ Aside0 (kq ≤ k) ∧ Drawn0 w w')
 case atStart => exact ⟨(0), (0), (by first | rfl | (simp; done) | (simp [*]; done)), (by first | rfl | (simp; done) | (simp [*]; done)), H', ⟨Nat.le_refl _⟩, by repeat (first | exact Drawn0.refl _ | apply Drawn0.step)⟩
 case round =>
  clear H'
  obtain ⟨x3_1, x4_1, rfl, rfl, HA, HK1, ⟨m1, rfl⟩⟩ := hrel
  cases gk with
  | zero => exact absurd HA.out (by simp [carillonref01_value.l0])
  | succ k1 =>
   have H := HA.out
   clear HA
   simp only [carillonref01_value.l0] at H
   by_cases c2 : x4_1 < (a0.size : Int); rotate_left
   ·rw [if_neg c2] at H
    have c2b0 : decide (x4_1 < (a0.size : Int)) = false := decide_eq_false c2
    clear c2
    obtain rfl := Option.some.inj H
    go_wp2
    go_ret
    exact ⟨by first | rfl | (simp; done) | (simp [*]; done), by repeat (first | exact Drawn0.refl _ | apply Drawn0.step)⟩
   rw [if_pos c2] at H
   have c2b0 : decide (x4_1 < (a0.size : Int)) = true := decide_eq_true c2
   clear c2
   obtain ⟨c3, H⟩ := its H
   have c3b0 : decide (0 ≤ x4_1) = true := decide_eq_true c3
   clear c3
   have H' := Aside0.mk H
   clear H
   have p4 : 0 ≤ (x4_1 : Int) := od
   have q4 : x4_1 < (a0.size : Int) := od
   have hx4 := bt_at a0 x4_1
   replace p4 := eq_true p4
   replace q4 := eq_true q4
   go_wp2
   go_roundg k1
   case measure => have := HK1.out; omega
   case rel => exact ⟨(IntKind.u64.wrap ((IntKind.u64.wrap (256 * x3_1)) + (IntKind.u64.wrap (bt a0 x4_1)))), (wrap64 (x4_1 + 1)), (by first | rfl | (simp; done) | (simp [*]; done)), (by first | rfl | (simp; done) | (simp [*]; done)), H', ⟨by have := HK1.out; omega⟩, by repeat (first | exact Drawn0.refl _ | apply Drawn0.step)⟩

/-! ### carillonref01_take: function 60 -/
def carillonref01_take.f (k : Nat) (a0 : Int) (a1 : ByteArray) : Option (Int × Int × ByteArray × Int × Int) := (carillonref01_width.f a0).bind fun t438 => (if t438 > 0 then (if (a1.size : Int) < t438 then (some (0, 0, (⟨#[]⟩ : ByteArray), 0, 2)) else (if 0 ≤ t438 then (if t438 ≤ (a1.size : Int) then ((carillonref01_value.f k (a1.extract 0 (t438 : Int).toNat)).bind fun t439 => (some (a0, t439, (⟨#[]⟩ : ByteArray), t438, 0))) else (none)) else (none))) else (if (a1.size : Int) < 4 then (some (0, 0, (⟨#[]⟩ : ByteArray), 0, 2)) else (if 0 ≤ 4 then (if 4 ≤ (a1.size : Int) then ((carillonref01_value.f k (a1.extract 0 4)).bind fun t440 => (if t440 > 100000 then (some (0, 0, (⟨#[]⟩ : ByteArray), 0, 3)) else (if (IntKind.u64.wrap (wrap64 ((a1.size : Int) - 4))) < t440 then (some (0, 0, (⟨#[]⟩ : ByteArray), 0, 2)) else (if 4 ≤ (wrap64 (4 + (wrap64 (t440)))) then (if (wrap64 (4 + (wrap64 (t440)))) ≤ (a1.size : Int) then (some (a0, 0, a1.extract 4 ((wrap64 (4 + (wrap64 (t440)))) : Int).toNat, wrap64 (4 + (wrap64 (t440))), 0)) else (none)) else (none))))) else (none)) else (none))))
set_option maxHeartbeats 8000000 in
set_option maxRecDepth 100000 in
theorem carillonref01_take.calls (k : Nat) (a0 : Int) (a1 : ByteArray) (r1 : Int) (r2 : Int) (r3 : ByteArray) (r4 : Int) (r5 : Int) (w : World) (h : carillonref01_take.f k a0 a1 = some (r1, r2, r3, r4, r5)) :
  Calls Tryd.prog 60 #[.int .i64 a0, .string a1] w fun e w' => e = .returned (.tuple #[.agg #[.int .i64 r1, .int .u64 r2, .string r3], .int .i64 r4, .int .i64 r5]) ∧ Below w.heap.size w w' := by
 have hu57 := Tryd.underlying57
 have HB := Aside0.mk (Below.refl w.heap.size w)
 have H := h
 unfold carillonref01_take.f at H
 clear h
 replace H := Option.bind_eq_some_iff.mp H
 obtain ⟨t438, A30, H⟩ := H
 have A3 := Aside0.mk A30
 clear A30
 by_cases c4 : t438 > 0
 ·rw [if_pos c4] at H
  have c4b0 : decide (0 < t438) = true := decide_eq_true c4
  clear c4
  by_cases c5 : (a1.size : Int) < t438
  ·rw [if_pos c5] at H
   have c5b0 : decide ((a1.size : Int) < t438) = true := decide_eq_true c5
   clear c5
   simp only [Option.some.injEq, Prod.mk.injEq] at H
   obtain ⟨rfl, rfl, rfl, rfl, rfl⟩ := H
   go_enter Tryd.func60, Tryd.ntmps60
   go_wp2_with (first | ((with_reducible refine gate_dst (N := 4) rfl ?_); refine box_event ?hg (N := 4) ?hd (cs := #[.int .i64 0, .int .u64 0, .string (⟨#[]⟩ : ByteArray)]) (t := 57) ?hr ?_; (case hd => rfl); (case hg => rfl); (case hr => first | (go_simp; done) | (go_simp; rfl)); intro ab hg w6 hbox hb; have aa := Aside0.mk (hbox); have ac := Aside0.mk ((g1 hg bw : w.heap.size ≤ ab)); have ad := Aside0.mk ((g1 hg bw : w.heap.size ≤ ab)); replace HB := Aside0.mk (below_step bw hb); clear hb hbox hg) | ((with_reducible refine gate_callee (f := 72) rfl ?_); refine goesL_ (some 10) rfl rfl Tryd.func72 (by kernel_rfl) rfl #[.int .i64 a0] rfl am ?_; (with_reducible refine (carillonref01_width.calls a0 t438 _ A3.out).mono ?_); rintro e w' ⟨rfl, ⟨nd, rfl⟩⟩; refine ⟨_, rfl, ?_⟩; (try (rw [drewN_self w6]; generalize hq_ : World.drewN w6 _ = w6; have n0_ : Aside0 (w6.heap[ab]? = some (.cells #[.int .i64 0, .int .u64 0, .string (⟨#[]⟩ : ByteArray)] 57 (0, 0))) := ⟨by rw [← hq_]; exact (bk aa.out)⟩; have n1_ : Aside0 (Below w.heap.size w w6) := ⟨by rw [← hq_]; exact bw⟩; clear aa HB hq_; have aa := n0_; have HB := n1_; clear n0_ n1_)); obtain ⟨hcz7_0, hcz7_1, hcz7_2, hfz7_0, hfz7_1, hfz7_2⟩ := bx3 aa.out))
   refine bodyPost_ret (results_ctt rfl _ _ ab 57 #[.int .i64 0, .int .u64 0, .string (⟨#[]⟩ : ByteArray)] (0, 0) _ rfl (by (with_reducible repeat (first | refine blk_drewN ?_ _ | refine blk_drew ?_ | refine blk_alloc ?_ _)); refine blk_put (cs := #[.int .i64 0, .int .u64 0, .string (⟨#[]⟩ : ByteArray)]) ?_ 2 _ rfl; (with_reducible repeat (first | refine blk_drewN ?_ _ | refine blk_drew ?_ | refine blk_alloc ?_ _)); refine blk_put (cs := #[.int .i64 0, .int .u64 0, .string (⟨#[]⟩ : ByteArray)]) ?_ 1 _ rfl; (with_reducible repeat (first | refine blk_drewN ?_ _ | refine blk_drew ?_ | refine blk_alloc ?_ _)); refine blk_put (cs := #[.int .i64 0, .int .u64 0, .string (⟨#[]⟩ : ByteArray)]) ?_ 0 _ rfl; (with_reducible repeat (first | refine blk_drewN ?_ _ | refine blk_drew ?_ | refine blk_alloc ?_ _)); exact aa.out) Tryd.underlying57 rfl (by kernel_rfl)) rfl ?_
   exact ⟨er, bw⟩
  rw [if_neg c5] at H
  have c5b0 : decide ((a1.size : Int) < t438) = false := decide_eq_false c5
  clear c5
  obtain ⟨c8, H⟩ := its H
  have c8b0 := eq_true c8
  have c8b1 : decide (0 ≤ t438) = true := decide_eq_true c8
  clear c8
  obtain ⟨c9, H⟩ := its H
  have c9b0 := eq_true c9
  have c9b1 : decide (t438 ≤ (a1.size : Int)) = true := decide_eq_true c9
  clear c9
  replace H := Option.bind_eq_some_iff.mp H
  obtain ⟨t439, A100, H⟩ := H
  have A10 := Aside0.mk A100
  clear A100
  simp only [Option.some.injEq, Prod.mk.injEq] at H
  obtain ⟨rfl, rfl, rfl, rfl, rfl⟩ := H
  go_enter Tryd.func60, Tryd.ntmps60
  go_wp2_with (first | ((with_reducible refine gate_dst (N := 4) rfl ?_); refine box_event ?hg (N := 4) ?hd (cs := #[.int .i64 0, .int .u64 0, .string (⟨#[]⟩ : ByteArray)]) (t := 57) ?hr ?_; (case hd => rfl); (case hg => rfl); (case hr => first | (go_simp; done) | (go_simp; rfl)); intro ab hg w11 hbox hb; have aa := Aside0.mk (hbox); have ac := Aside0.mk ((g1 hg bw : w.heap.size ≤ ab)); have ad := Aside0.mk ((g1 hg bw : w.heap.size ≤ ab)); replace HB := Aside0.mk (below_step bw hb); clear hb hbox hg) | ((with_reducible refine gate_callee (f := 72) rfl ?_); refine goesL_ (some 10) rfl rfl Tryd.func72 (by kernel_rfl) rfl #[.int .i64 a0] rfl am ?_; (with_reducible refine (carillonref01_width.calls a0 t438 _ A3.out).mono ?_); rintro e w' ⟨rfl, ⟨nd, rfl⟩⟩; refine ⟨_, rfl, ?_⟩; (try (rw [drewN_self w11]; generalize hq_ : World.drewN w11 _ = w11; have n0_ : Aside0 (w11.heap[ab]? = some (.cells #[.int .i64 0, .int .u64 0, .string (⟨#[]⟩ : ByteArray)] 57 (0, 0))) := ⟨by rw [← hq_]; exact (bk aa.out)⟩; have n1_ : Aside0 (Below w.heap.size w w11) := ⟨by rw [← hq_]; exact bw⟩; clear aa HB hq_; have aa := n0_; have HB := n1_; clear n0_ n1_))) | ((with_reducible refine gate_callee (f := 77) rfl ?_); refine goesL_ (some 22) rfl rfl Tryd.func77 (by kernel_rfl) rfl #[.string (a1.extract 0 (t438 : Int).toNat)] rfl am ?_; (with_reducible refine (carillonref01_value.calls k (a1.extract 0 (t438 : Int).toNat) t439 _ A10.out).mono ?_); rintro e w' ⟨rfl, ⟨nd, rfl⟩⟩; refine ⟨_, rfl, ?_⟩; (try (rw [drewN_self w11]; generalize hq_ : World.drewN w11 _ = w11; have n0_ : Aside0 (w11.heap[ab]? = some (.cells #[.int .i64 0, .int .u64 0, .string (⟨#[]⟩ : ByteArray)] 57 (0, 0))) := ⟨by rw [← hq_]; exact (bk aa.out)⟩; have n1_ : Aside0 (Below w.heap.size w w11) := ⟨by rw [← hq_]; exact bw⟩; clear aa HB hq_; have aa := n0_; have HB := n1_; clear n0_ n1_)); obtain ⟨hcz12_0, hcz12_1, hcz12_2, hfz12_0, hfz12_1, hfz12_2⟩ := bx3 aa.out))
  refine bodyPost_ret (results_ctt rfl _ _ ab 57 #[.int .i64 a0, .int .u64 t439, .string (⟨#[]⟩ : ByteArray)] (0, 0) _ rfl (by (with_reducible repeat (first | refine blk_drewN ?_ _ | refine blk_drew ?_ | refine blk_alloc ?_ _)); refine blk_put (cs := #[.int .i64 a0, .int .u64 t439, .string (⟨#[]⟩ : ByteArray)]) ?_ 2 _ rfl; (with_reducible repeat (first | refine blk_drewN ?_ _ | refine blk_drew ?_ | refine blk_alloc ?_ _)); refine blk_put (cs := #[.int .i64 a0, .int .u64 0, .string (⟨#[]⟩ : ByteArray)]) ?_ 1 _ rfl; (with_reducible repeat (first | refine blk_drewN ?_ _ | refine blk_drew ?_ | refine blk_alloc ?_ _)); refine blk_put (cs := #[.int .i64 0, .int .u64 0, .string (⟨#[]⟩ : ByteArray)]) ?_ 0 _ rfl; (with_reducible repeat (first | refine blk_drewN ?_ _ | refine blk_drew ?_ | refine blk_alloc ?_ _)); exact aa.out) Tryd.underlying57 rfl (by kernel_rfl)) rfl ?_
  exact ⟨er, bw⟩
 rw [if_neg c4] at H
 have c4b0 : decide (0 < t438) = false := decide_eq_false c4
 clear c4
 by_cases c13 : (a1.size : Int) < 4
 ·rw [if_pos c13] at H
  have c13b0 : decide ((a1.size : Int) < 4) = true := decide_eq_true c13
  have c13b1 : decide (a1.size < 4) = true := decide_eq_true (by omega)
  clear c13
  simp only [Option.some.injEq, Prod.mk.injEq] at H
  obtain ⟨rfl, rfl, rfl, rfl, rfl⟩ := H
  go_enter Tryd.func60, Tryd.ntmps60
  go_wp2_with (first | ((with_reducible refine gate_dst (N := 4) rfl ?_); refine box_event ?hg (N := 4) ?hd (cs := #[.int .i64 0, .int .u64 0, .string (⟨#[]⟩ : ByteArray)]) (t := 57) ?hr ?_; (case hd => rfl); (case hg => rfl); (case hr => first | (go_simp; done) | (go_simp; rfl)); intro ab hg w14 hbox hb; have aa := Aside0.mk (hbox); have ac := Aside0.mk ((g1 hg bw : w.heap.size ≤ ab)); have ad := Aside0.mk ((g1 hg bw : w.heap.size ≤ ab)); replace HB := Aside0.mk (below_step bw hb); clear hb hbox hg) | ((with_reducible refine gate_callee (f := 72) rfl ?_); refine goesL_ (some 10) rfl rfl Tryd.func72 (by kernel_rfl) rfl #[.int .i64 a0] rfl am ?_; (with_reducible refine (carillonref01_width.calls a0 t438 _ A3.out).mono ?_); rintro e w' ⟨rfl, ⟨nd, rfl⟩⟩; refine ⟨_, rfl, ?_⟩; (try (rw [drewN_self w14]; generalize hq_ : World.drewN w14 _ = w14; have n0_ : Aside0 (w14.heap[ab]? = some (.cells #[.int .i64 0, .int .u64 0, .string (⟨#[]⟩ : ByteArray)] 57 (0, 0))) := ⟨by rw [← hq_]; exact (bk aa.out)⟩; have n1_ : Aside0 (Below w.heap.size w w14) := ⟨by rw [← hq_]; exact bw⟩; clear aa HB hq_; have aa := n0_; have HB := n1_; clear n0_ n1_)); obtain ⟨hcz15_0, hcz15_1, hcz15_2, hfz15_0, hfz15_1, hfz15_2⟩ := bx3 aa.out))
  refine bodyPost_ret (results_ctt rfl _ _ ab 57 #[.int .i64 0, .int .u64 0, .string (⟨#[]⟩ : ByteArray)] (0, 0) _ rfl (by (with_reducible repeat (first | refine blk_drewN ?_ _ | refine blk_drew ?_ | refine blk_alloc ?_ _)); refine blk_put (cs := #[.int .i64 0, .int .u64 0, .string (⟨#[]⟩ : ByteArray)]) ?_ 2 _ rfl; (with_reducible repeat (first | refine blk_drewN ?_ _ | refine blk_drew ?_ | refine blk_alloc ?_ _)); refine blk_put (cs := #[.int .i64 0, .int .u64 0, .string (⟨#[]⟩ : ByteArray)]) ?_ 1 _ rfl; (with_reducible repeat (first | refine blk_drewN ?_ _ | refine blk_drew ?_ | refine blk_alloc ?_ _)); refine blk_put (cs := #[.int .i64 0, .int .u64 0, .string (⟨#[]⟩ : ByteArray)]) ?_ 0 _ rfl; (with_reducible repeat (first | refine blk_drewN ?_ _ | refine blk_drew ?_ | refine blk_alloc ?_ _)); exact aa.out) Tryd.underlying57 rfl (by kernel_rfl)) rfl ?_
  exact ⟨er, bw⟩
 rw [if_neg c13] at H
 have c13b0 : decide ((a1.size : Int) < 4) = false := decide_eq_false c13
 have c13b1 : decide (a1.size < 4) = false := decide_eq_false (by omega)
 clear c13
 obtain ⟨c16, H⟩ := its H
 have c16b0 := eq_true c16
 have c16b1 : decide (0 ≤ 4) = true := decide_eq_true c16
 clear c16
 obtain ⟨c17, H⟩ := its H
 have c17b0 := eq_true c17
 have c17b1 : decide (4 ≤ (a1.size : Int)) = true := decide_eq_true c17
 clear c17
 replace H := Option.bind_eq_some_iff.mp H
 obtain ⟨t440, A180, H⟩ := H
 have A18 := Aside0.mk A180
 clear A180
 by_cases c19 : t440 > 100000
 ·rw [if_pos c19] at H
  have c19b0 : decide (100000 < t440) = true := decide_eq_true c19
  clear c19
  simp only [Option.some.injEq, Prod.mk.injEq] at H
  obtain ⟨rfl, rfl, rfl, rfl, rfl⟩ := H
  go_enter Tryd.func60, Tryd.ntmps60
  go_wp2_with (first | ((with_reducible refine gate_dst (N := 4) rfl ?_); refine box_event ?hg (N := 4) ?hd (cs := #[.int .i64 0, .int .u64 0, .string (⟨#[]⟩ : ByteArray)]) (t := 57) ?hr ?_; (case hd => rfl); (case hg => rfl); (case hr => first | (go_simp; done) | (go_simp; rfl)); intro ab hg w20 hbox hb; have aa := Aside0.mk (hbox); have ac := Aside0.mk ((g1 hg bw : w.heap.size ≤ ab)); have ad := Aside0.mk ((g1 hg bw : w.heap.size ≤ ab)); replace HB := Aside0.mk (below_step bw hb); clear hb hbox hg) | ((with_reducible refine gate_callee (f := 72) rfl ?_); refine goesL_ (some 10) rfl rfl Tryd.func72 (by kernel_rfl) rfl #[.int .i64 a0] rfl am ?_; (with_reducible refine (carillonref01_width.calls a0 t438 _ A3.out).mono ?_); rintro e w' ⟨rfl, ⟨nd, rfl⟩⟩; refine ⟨_, rfl, ?_⟩; (try (rw [drewN_self w20]; generalize hq_ : World.drewN w20 _ = w20; have n0_ : Aside0 (w20.heap[ab]? = some (.cells #[.int .i64 0, .int .u64 0, .string (⟨#[]⟩ : ByteArray)] 57 (0, 0))) := ⟨by rw [← hq_]; exact (bk aa.out)⟩; have n1_ : Aside0 (Below w.heap.size w w20) := ⟨by rw [← hq_]; exact bw⟩; clear aa HB hq_; have aa := n0_; have HB := n1_; clear n0_ n1_))) | ((with_reducible refine gate_callee (f := 77) rfl ?_); refine goesL_ (some 31) rfl rfl Tryd.func77 (by kernel_rfl) rfl #[.string (a1.extract 0 4)] rfl am ?_; (with_reducible refine (carillonref01_value.calls k (a1.extract 0 4) t440 _ A18.out).mono ?_); rintro e w' ⟨rfl, ⟨nd, rfl⟩⟩; refine ⟨_, rfl, ?_⟩; (try (rw [drewN_self w20]; generalize hq_ : World.drewN w20 _ = w20; have n0_ : Aside0 (w20.heap[ab]? = some (.cells #[.int .i64 0, .int .u64 0, .string (⟨#[]⟩ : ByteArray)] 57 (0, 0))) := ⟨by rw [← hq_]; exact (bk aa.out)⟩; have n1_ : Aside0 (Below w.heap.size w w20) := ⟨by rw [← hq_]; exact bw⟩; clear aa HB hq_; have aa := n0_; have HB := n1_; clear n0_ n1_)); obtain ⟨hcz21_0, hcz21_1, hcz21_2, hfz21_0, hfz21_1, hfz21_2⟩ := bx3 aa.out))
  refine bodyPost_ret (results_ctt rfl _ _ ab 57 #[.int .i64 0, .int .u64 0, .string (⟨#[]⟩ : ByteArray)] (0, 0) _ rfl (by (with_reducible repeat (first | refine blk_drewN ?_ _ | refine blk_drew ?_ | refine blk_alloc ?_ _)); refine blk_put (cs := #[.int .i64 0, .int .u64 0, .string (⟨#[]⟩ : ByteArray)]) ?_ 2 _ rfl; (with_reducible repeat (first | refine blk_drewN ?_ _ | refine blk_drew ?_ | refine blk_alloc ?_ _)); refine blk_put (cs := #[.int .i64 0, .int .u64 0, .string (⟨#[]⟩ : ByteArray)]) ?_ 1 _ rfl; (with_reducible repeat (first | refine blk_drewN ?_ _ | refine blk_drew ?_ | refine blk_alloc ?_ _)); refine blk_put (cs := #[.int .i64 0, .int .u64 0, .string (⟨#[]⟩ : ByteArray)]) ?_ 0 _ rfl; (with_reducible repeat (first | refine blk_drewN ?_ _ | refine blk_drew ?_ | refine blk_alloc ?_ _)); exact aa.out) Tryd.underlying57 rfl (by kernel_rfl)) rfl ?_
  exact ⟨er, bw⟩
 rw [if_neg c19] at H
 have c19b0 : decide (100000 < t440) = false := decide_eq_false c19
 clear c19
 by_cases c22 : (IntKind.u64.wrap (wrap64 ((a1.size : Int) - 4))) < t440
 ·rw [if_pos c22] at H
  have c22b0 : decide ((IntKind.u64.wrap (wrap64 ((a1.size : Int) - 4))) < t440) = true := decide_eq_true c22
  clear c22
  simp only [Option.some.injEq, Prod.mk.injEq] at H
  obtain ⟨rfl, rfl, rfl, rfl, rfl⟩ := H
  go_enter Tryd.func60, Tryd.ntmps60
  go_wp2_with (first | ((with_reducible refine gate_dst (N := 4) rfl ?_); refine box_event ?hg (N := 4) ?hd (cs := #[.int .i64 0, .int .u64 0, .string (⟨#[]⟩ : ByteArray)]) (t := 57) ?hr ?_; (case hd => rfl); (case hg => rfl); (case hr => first | (go_simp; done) | (go_simp; rfl)); intro ab hg w23 hbox hb; have aa := Aside0.mk (hbox); have ac := Aside0.mk ((g1 hg bw : w.heap.size ≤ ab)); have ad := Aside0.mk ((g1 hg bw : w.heap.size ≤ ab)); replace HB := Aside0.mk (below_step bw hb); clear hb hbox hg) | ((with_reducible refine gate_callee (f := 72) rfl ?_); refine goesL_ (some 10) rfl rfl Tryd.func72 (by kernel_rfl) rfl #[.int .i64 a0] rfl am ?_; (with_reducible refine (carillonref01_width.calls a0 t438 _ A3.out).mono ?_); rintro e w' ⟨rfl, ⟨nd, rfl⟩⟩; refine ⟨_, rfl, ?_⟩; (try (rw [drewN_self w23]; generalize hq_ : World.drewN w23 _ = w23; have n0_ : Aside0 (w23.heap[ab]? = some (.cells #[.int .i64 0, .int .u64 0, .string (⟨#[]⟩ : ByteArray)] 57 (0, 0))) := ⟨by rw [← hq_]; exact (bk aa.out)⟩; have n1_ : Aside0 (Below w.heap.size w w23) := ⟨by rw [← hq_]; exact bw⟩; clear aa HB hq_; have aa := n0_; have HB := n1_; clear n0_ n1_))) | ((with_reducible refine gate_callee (f := 77) rfl ?_); refine goesL_ (some 31) rfl rfl Tryd.func77 (by kernel_rfl) rfl #[.string (a1.extract 0 4)] rfl am ?_; (with_reducible refine (carillonref01_value.calls k (a1.extract 0 4) t440 _ A18.out).mono ?_); rintro e w' ⟨rfl, ⟨nd, rfl⟩⟩; refine ⟨_, rfl, ?_⟩; (try (rw [drewN_self w23]; generalize hq_ : World.drewN w23 _ = w23; have n0_ : Aside0 (w23.heap[ab]? = some (.cells #[.int .i64 0, .int .u64 0, .string (⟨#[]⟩ : ByteArray)] 57 (0, 0))) := ⟨by rw [← hq_]; exact (bk aa.out)⟩; have n1_ : Aside0 (Below w.heap.size w w23) := ⟨by rw [← hq_]; exact bw⟩; clear aa HB hq_; have aa := n0_; have HB := n1_; clear n0_ n1_)); obtain ⟨hcz24_0, hcz24_1, hcz24_2, hfz24_0, hfz24_1, hfz24_2⟩ := bx3 aa.out))
  refine bodyPost_ret (results_ctt rfl _ _ ab 57 #[.int .i64 0, .int .u64 0, .string (⟨#[]⟩ : ByteArray)] (0, 0) _ rfl (by (with_reducible repeat (first | refine blk_drewN ?_ _ | refine blk_drew ?_ | refine blk_alloc ?_ _)); refine blk_put (cs := #[.int .i64 0, .int .u64 0, .string (⟨#[]⟩ : ByteArray)]) ?_ 2 _ rfl; (with_reducible repeat (first | refine blk_drewN ?_ _ | refine blk_drew ?_ | refine blk_alloc ?_ _)); refine blk_put (cs := #[.int .i64 0, .int .u64 0, .string (⟨#[]⟩ : ByteArray)]) ?_ 1 _ rfl; (with_reducible repeat (first | refine blk_drewN ?_ _ | refine blk_drew ?_ | refine blk_alloc ?_ _)); refine blk_put (cs := #[.int .i64 0, .int .u64 0, .string (⟨#[]⟩ : ByteArray)]) ?_ 0 _ rfl; (with_reducible repeat (first | refine blk_drewN ?_ _ | refine blk_drew ?_ | refine blk_alloc ?_ _)); exact aa.out) Tryd.underlying57 rfl (by kernel_rfl)) rfl ?_
  exact ⟨er, bw⟩
 rw [if_neg c22] at H
 have c22b0 : decide ((IntKind.u64.wrap (wrap64 ((a1.size : Int) - 4))) < t440) = false := decide_eq_false c22
 clear c22
 obtain ⟨c25, H⟩ := its H
 have c25b0 := eq_true c25
 have c25b1 : decide (4 ≤ (wrap64 (4 + (wrap64 (t440))))) = true := decide_eq_true c25
 obtain ⟨c26, H⟩ := its H
 have c26b0 := eq_true c26
 have c26b1 : decide ((wrap64 (4 + (wrap64 (t440)))) ≤ (a1.size : Int)) = true := decide_eq_true c26
 simp only [Option.some.injEq, Prod.mk.injEq] at H
 obtain ⟨rfl, rfl, rfl, rfl, rfl⟩ := H
 go_enter Tryd.func60, Tryd.ntmps60
 go_wp2_with (first | ((with_reducible refine gate_dst (N := 4) rfl ?_); refine box_event ?hg (N := 4) ?hd (cs := #[.int .i64 0, .int .u64 0, .string (⟨#[]⟩ : ByteArray)]) (t := 57) ?hr ?_; (case hd => rfl); (case hg => rfl); (case hr => first | (go_simp; done) | (go_simp; rfl)); intro ab hg w27 hbox hb; have aa := Aside0.mk (hbox); have ac := Aside0.mk ((g1 hg bw : w.heap.size ≤ ab)); have ad := Aside0.mk ((g1 hg bw : w.heap.size ≤ ab)); replace HB := Aside0.mk (below_step bw hb); clear hb hbox hg) | ((with_reducible refine gate_callee (f := 72) rfl ?_); refine goesL_ (some 10) rfl rfl Tryd.func72 (by kernel_rfl) rfl #[.int .i64 a0] rfl am ?_; (with_reducible refine (carillonref01_width.calls a0 t438 _ A3.out).mono ?_); rintro e w' ⟨rfl, ⟨nd, rfl⟩⟩; refine ⟨_, rfl, ?_⟩; (try (rw [drewN_self w27]; generalize hq_ : World.drewN w27 _ = w27; have n0_ : Aside0 (w27.heap[ab]? = some (.cells #[.int .i64 0, .int .u64 0, .string (⟨#[]⟩ : ByteArray)] 57 (0, 0))) := ⟨by rw [← hq_]; exact (bk aa.out)⟩; have n1_ : Aside0 (Below w.heap.size w w27) := ⟨by rw [← hq_]; exact bw⟩; clear aa HB hq_; have aa := n0_; have HB := n1_; clear n0_ n1_))) | ((with_reducible refine gate_callee (f := 77) rfl ?_); refine goesL_ (some 31) rfl rfl Tryd.func77 (by kernel_rfl) rfl #[.string (a1.extract 0 4)] rfl am ?_; (with_reducible refine (carillonref01_value.calls k (a1.extract 0 4) t440 _ A18.out).mono ?_); rintro e w' ⟨rfl, ⟨nd, rfl⟩⟩; refine ⟨_, rfl, ?_⟩; (try (rw [drewN_self w27]; generalize hq_ : World.drewN w27 _ = w27; have n0_ : Aside0 (w27.heap[ab]? = some (.cells #[.int .i64 0, .int .u64 0, .string (⟨#[]⟩ : ByteArray)] 57 (0, 0))) := ⟨by rw [← hq_]; exact (bk aa.out)⟩; have n1_ : Aside0 (Below w.heap.size w w27) := ⟨by rw [← hq_]; exact bw⟩; clear aa HB hq_; have aa := n0_; have HB := n1_; clear n0_ n1_)); obtain ⟨hcz28_0, hcz28_1, hcz28_2, hfz28_0, hfz28_1, hfz28_2⟩ := bx3 aa.out))
 refine bodyPost_ret (results_ctt rfl _ _ ab 57 #[.int .i64 a0, .int .u64 0, .string (a1.extract 4 ((wrap64 (4 + (wrap64 (t440)))) : Int).toNat)] (0, 0) _ rfl (by (with_reducible repeat (first | refine blk_drewN ?_ _ | refine blk_drew ?_ | refine blk_alloc ?_ _)); refine blk_put (cs := #[.int .i64 a0, .int .u64 0, .string (⟨#[]⟩ : ByteArray)]) ?_ 2 _ rfl; (with_reducible repeat (first | refine blk_drewN ?_ _ | refine blk_drew ?_ | refine blk_alloc ?_ _)); refine blk_put (cs := #[.int .i64 a0, .int .u64 0, .string (⟨#[]⟩ : ByteArray)]) ?_ 1 _ rfl; (with_reducible repeat (first | refine blk_drewN ?_ _ | refine blk_drew ?_ | refine blk_alloc ?_ _)); refine blk_put (cs := #[.int .i64 0, .int .u64 0, .string (⟨#[]⟩ : ByteArray)]) ?_ 0 _ rfl; (with_reducible repeat (first | refine blk_drewN ?_ _ | refine blk_drew ?_ | refine blk_alloc ?_ _)); exact aa.out) Tryd.underlying57 rfl (by kernel_rfl)) rfl ?_
 exact ⟨er, bw⟩

/-! ### carillonref01_Decode: function 41 -/
mutual
def carillonref01_Decode.l0 : Nat → ByteArray → List Int → List Int → List (S57) → Int → Option ((List (S57)) × Int)
 | 0, _, _, _, _, _ => none
 | k + 1, x1, x6, x7, x9, x10 => if x10 < (x6.length : Int) then (carillonref01_Decode.j1 k x1 x6 x7 x9 x10 true) else (carillonref01_Decode.j1 k x1 x6 x7 x9 x10 (decide ((x7.length : Int) > 0)))
def carillonref01_Decode.j1 : Nat → ByteArray → List Int → List Int → List (S57) → Int → Bool → Option ((List (S57)) × Int)
 | 0, _, _, _, _, _, _ => none
 | k + 1, x1, x6, x7, x9, x10, x31 => if x31 = true then (if x10 ≥ (x6.length : Int) then (if (x7.length : Int) = 0 then (none) else (if (Int.tmod (wrap64 (x10 - (x6.length : Int))) (x7.length : Int)) = 0 then (carillonref01_Decode.j2 k x1 x6 x7 x9 x10 (x1.toList == ([] : List UInt8))) else (carillonref01_Decode.j2 k x1 x6 x7 x9 x10 false))) else (carillonref01_Decode.j2 k x1 x6 x7 x9 x10 false)) else (if x1.toList = ([] : List UInt8) then (some (x9, 0)) else (some (([] : List (S57)), 10)))
def carillonref01_Decode.j2 : Nat → ByteArray → List Int → List Int → List (S57) → Int → Bool → Option ((List (S57)) × Int)
 | 0, _, _, _, _, _, _ => none
 | k + 1, x1, x6, x7, x9, x10, x51 => if x51 = true then (some (x9, 0)) else (if x10 < (x6.length : Int) then (if 0 ≤ x10 then (carillonref01_Decode.j3 k x1 x6 x7 x9 x10 (rd x6 x10)) else (none)) else (if (x7.length : Int) = 0 then (none) else (if 0 ≤ (Int.tmod (wrap64 (x10 - (x6.length : Int))) (x7.length : Int)) then (if (Int.tmod (wrap64 (x10 - (x6.length : Int))) (x7.length : Int)) < (x7.length : Int) then (carillonref01_Decode.j3 k x1 x6 x7 x9 x10 (rd x7 (Int.tmod (wrap64 (x10 - (x6.length : Int))) (x7.length : Int)))) else (none)) else (none))))
def carillonref01_Decode.j3 : Nat → ByteArray → List Int → List Int → List (S57) → Int → Int → Option ((List (S57)) × Int)
 | 0, _, _, _, _, _, _ => none
 | k + 1, x1, x6, x7, x9, x10, x11 => if (x9.length : Int) = 1000 then (some (([] : List (S57)), 3)) else ((carillonref01_take.f k x11 x1).bind fun bt450 => (if bt450.2.2.2.2 = 0 then (if x9.length < 4398046511104 then (if 0 ≤ bt450.2.2.2.1 then (if bt450.2.2.2.1 ≤ (x1.size : Int) then (carillonref01_Decode.l0 k (x1.extract (bt450.2.2.2.1 : Int).toNat x1.size) x6 x7 (x9 ++ [(⟨bt450.1, bt450.2.1, bt450.2.2.1⟩ : S57)]) (wrap64 (x10 + 1))) else (none)) else (none)) else (none)) else (some (([] : List (S57)), bt450.2.2.2.2))))
end
def carillonref01_Decode.f (k : Nat) (a0 : ByteArray) (a1 : ByteArray) : Option ((List (S57)) × Int) := (carillonref01_kinds.f k a0).bind fun bt441 => (if bt441.2.2 = true then (carillonref01_Decode.l0 k a1 bt441.1 bt441.2.1 ([] : List (S57)) 0) else (some (([] : List (S57)), 1)))
set_option maxHeartbeats 8000000 in
set_option maxRecDepth 100000 in
theorem carillonref01_Decode.calls (k : Nat) (a0 : ByteArray) (a1 : ByteArray) (r1 : List (S57)) (r2 : Int) (w : World) (h : carillonref01_Decode.f k a0 a1 = some (r1, r2)) :
  Calls Tryd.prog 41 #[.string a0, .string a1] w fun e w' => ∃ v0_ : Value, e = .returned (.tuple #[v0_, .int .i64 r2]) ∧ Kd.R k57 57 w' w.heap.size (fun _ => True) v0_ r1 ∧ Below w.heap.size w w' := by
 have hu57 := Tryd.underlying57
 have HB := Aside0.mk (Below.refl w.heap.size w)
 have H := h
 unfold carillonref01_Decode.f at H
 clear h
 replace H := Option.bind_eq_some_iff.mp H
 obtain ⟨⟨t441, t442, t443⟩, A30, H⟩ := H
 replace H : (if t443 = true then (carillonref01_Decode.l0 k a1 t441 t442 ([] : List (S57)) 0) else (some (([] : List (S57)), 1))) = some (r1, r2) := H
 have A3 := Aside0.mk A30
 clear A30
 by_cases c4 : t443 = true; rotate_left
 ·replace c4 := Bool.eq_false_iff.mpr c4
  subst c4
  have H1 : (some (([] : List (S57)), 1)) = some (r1, r2) := by rw [if_neg (show ¬ (false = true) by decide)] at H; exact H
  clear H
  have H := H1
  clear H1
  simp only [Option.some.injEq, Prod.mk.injEq] at H
  obtain ⟨rfl, rfl⟩ := H
  go_enter Tryd.func41, Tryd.ntmps41
  go_wp2_with (first | ((with_reducible refine gate_callee (f := 59) rfl ?_); refine goesL_ (some 17) rfl rfl Tryd.func59 (by kernel_rfl) rfl #[.string a0] rfl am ?_; (with_reducible refine (carillonref01_kinds.calls k a0 t441 t442 false _ A3.out).mono ?_); rintro e w48 ⟨v444, v446, rfl, ho0, ho1, hb⟩; refine ⟨_, rfl, ?_⟩; have ao := Aside0.mk (Kd.R_lower ho0 (below_size bw)); have ap := Aside0.mk (Kd.R_lower ho1 (below_size bw)); replace HB := Aside0.mk (below_step bw hb); (try clear hb); (try clear ho0); (try clear ho1)))
  go_ret2
  exact ⟨_, er, by first | exact Kd.R_nil _ _ _ _ _ | exact Kd.N_nil _ _ _ _ _ | exact Kd.V_nil _ _ _ _ _ | exact Kd.Q_nil _ _ _ _ _ | exact Kd.S_nil _ _ _ _ _, bw⟩
 subst c4
 have H1 : (carillonref01_Decode.l0 k a1 t441 t442 ([] : List (S57)) 0) = some (r1, r2) := by rw [if_pos rfl] at H; exact H
 clear H
 have H := H1
 clear H1
 have H' := Aside0.mk H
 clear H
 go_enter Tryd.func41, Tryd.ntmps41
 go_wp2_with (first | ((with_reducible refine gate_callee (f := 59) rfl ?_); refine goesL_ (some 17) rfl rfl Tryd.func59 (by kernel_rfl) rfl #[.string a0] rfl am ?_; (with_reducible refine (carillonref01_kinds.calls k a0 t441 t442 true _ A3.out).mono ?_); rintro e w5 ⟨v444, v446, rfl, ho0, ho1, hb⟩; refine ⟨_, rfl, ?_⟩; have ao := Aside0.mk (Kd.R_lower ho0 (below_size bw)); have ap := Aside0.mk (Kd.R_lower ho1 (below_size bw)); replace HB := Aside0.mk (below_step bw hb); (try clear hb); (try clear ho0); (try clear ho1)))
 go_loopg [1, 9, 10] k (fun kq v1 v9 v10 w' => ∃ (x1_1 : ByteArray) (x9_1 : List (S57)) (x10_1 : Int), v1 = .string x1_1 ∧ v10 = .int .i64 x10_1 ∧ Aside0 (carillonref01_Decode.l0 kq x1_1 t441 t442 x9_1 x10_1 = some (r1, r2)) ∧ Aside0 (kq ≤ k) ∧ Aside0 (Kd.R (Kd.int .i64) 3 w' w.heap.size (fun k_ => some k_ ≠ (v446 : Value).ownBlock) v444 t441) ∧ Aside0 (Kd.R (Kd.int .i64) 3 w' w.heap.size (fun k_ => some k_ ≠ (v444 : Value).ownBlock) v446 t442) ∧ Aside0 (Kd.R k57 57 w' w.heap.size (fun _ => True) v9 x9_1) ∧ Aside0 (Below w.heap.size w w'))
 case atStart => exact ⟨(a1), (([] : List (S57))), (0), (by first | rfl | (simp; done) | (simp [*]; done)), (by first | rfl | (simp; done) | (simp [*]; done)), H', ⟨Nat.le_refl _⟩, ⟨r_ ao.out⟩, ⟨r_ ap.out⟩, ⟨by first | exact Kd.R_nil _ _ _ _ _ | exact Kd.N_nil _ _ _ _ _ | exact Kd.V_nil _ _ _ _ _ | exact Kd.Q_nil _ _ _ _ _ | exact Kd.S_nil _ _ _ _ _⟩, ⟨bw⟩⟩
 case round =>
  clear H'
  try clear p2
  try clear c4
  try clear c5
  obtain ⟨x1_1, x9_1, x10_1, rfl, rfl, HA, HK1, ab, ad, ac, HB⟩ := hrel
  cases gk with
  | zero => exact absurd HA.out (by simp [carillonref01_Decode.l0])
  | succ k1 =>
   have H := HA.out
   clear HA
   simp only [carillonref01_Decode.l0] at H
   have HC6 := Aside0.mk H
   clear H
   go_upto_region 6 with (fail)
   go_cut [31] (fun v31 wc => ∃ (kq : Nat) (x31_5 : Bool), v31 = .bool x31_5 ∧ Aside0 (carillonref01_Decode.j1 kq x1_1 t441 t442 x9_1 x10_1 x31_5 = some (r1, r2)) ∧ Aside0 (kq ≤ k1) ∧ Aside0 (Kd.R (Kd.int .i64) 3 wc w.heap.size (fun k_ => some k_ ≠ (v446 : Value).ownBlock) v444 t441) ∧ Aside0 (Kd.R (Kd.int .i64) 3 wc w.heap.size (fun k_ => some k_ ≠ (v444 : Value).ownBlock) v446 t442) ∧ Aside0 (Kd.R k57 57 wc w.heap.size (fun _ => True) u9 x9_1) ∧ Aside0 (Below w.heap.size w wc))
   case first =>
    have H := HC6.out
    clear HC6
    by_cases c7 : x10_1 < (t441.length : Int)
    ·rw [if_pos c7] at H
     have ah : decide (x10_1 < (t441.length : Int)) = true := decide_eq_true c7
     clear c7
     (first | rw [ah] | (simp only [i64_w, i32_w]; rw [ah]) | skip)
     have H' := Aside0.mk H
     clear H
     obtain ⟨Ao8, co8, eo8⟩ := Kd.R_slice ab.out
     subst eo8
     go_wp2
     go_meet
     case rel => exact ⟨_, (true), (by first | rfl | (simp; done) | (simp [*]; done)), H', ⟨by have := HK1.out; first | omega | exact Nat.le_refl _⟩, ⟨r_ ab.out⟩, ⟨r_ ad.out⟩, ⟨r_ ac.out⟩, ⟨bw⟩⟩
    rw [if_neg c7] at H
    have ah : decide (x10_1 < (t441.length : Int)) = false := decide_eq_false c7
    clear c7
    (first | rw [ah] | (simp only [i64_w, i32_w]; rw [ah]) | skip)
    have H' := Aside0.mk H
    clear H
    obtain ⟨Ao9, co9, eo9⟩ := Kd.R_slice ab.out
    subst eo9
    obtain ⟨Ao10, co10, eo10⟩ := Kd.R_slice ad.out
    subst eo10
    go_wp2
    go_meet
    case rel => exact ⟨_, (decide ((t442.length : Int) > 0)), (by first | rfl | (simp; done) | (simp [*]; done)), H', ⟨by have := HK1.out; first | omega | exact Nat.le_refl _⟩, ⟨r_ ab.out⟩, ⟨r_ ad.out⟩, ⟨r_ ac.out⟩, ⟨bw⟩⟩
   case rest =>
    clear HC6
    try clear p2
    try clear c4
    try clear c5
    try clear c7
    try clear ah
    try clear p2
    obtain ⟨kq, x31_5, rfl, HA, HJ5, ab, ad, ac, HB⟩ := hcut
    cases kq with
    | zero => exact absurd HA.out (by simp [carillonref01_Decode.j1])
    | succ kj5 =>
     have H := HA.out
     clear HA
     simp only [carillonref01_Decode.j1] at H
     by_cases c11 : x31_5 = true; rotate_left
     ·replace c11 := Bool.eq_false_iff.mpr c11
      subst c11
      have H1 : (if x1_1.toList = ([] : List UInt8) then (some (x9_1, 0)) else (some (([] : List (S57)), 10))) = some (r1, r2) := by rw [if_neg (show ¬ (false = true) by decide)] at H; exact H
      clear H
      have H := H1
      clear H1
      by_cases c47 : x1_1.toList = ([] : List UInt8); rotate_left
      ·rw [if_neg c47] at H
       have c47b0 : (x1_1.toList == ([] : List UInt8)) = false := beq_eq_false_iff_ne.mpr c47
       have c47b1 : (x1_1.toList != ([] : List UInt8)) = true := bne_iff_ne.mpr c47
       simp only [Option.some.injEq, Prod.mk.injEq] at H
       obtain ⟨rfl, rfl⟩ := H
       go_wp2
       go_ret2
       exact ⟨_, er, by first | exact Kd.R_nil _ _ _ _ _ | exact Kd.N_nil _ _ _ _ _ | exact Kd.V_nil _ _ _ _ _ | exact Kd.Q_nil _ _ _ _ _ | exact Kd.S_nil _ _ _ _ _, bw⟩
      rw [if_pos c47] at H
      have c47b0 : (x1_1.toList == ([] : List UInt8)) = true := beq_iff_eq.mpr c47
      have c47b1 : (x1_1.toList != ([] : List UInt8)) = false := bne_eq_false_iff_eq.mpr c47
      clear c47
      simp only [Option.some.injEq, Prod.mk.injEq] at H
      obtain ⟨rfl, rfl⟩ := H
      go_wp2
      go_ret2
      exact ⟨_, er, by (with_reducible repeat (first | apply Kd.R_alloc | apply Kd.R_drewN | apply Kd.R_drew)); exact ac.out, bw⟩
     subst c11
     have H1 := H
     rw [if_pos rfl] at H1
     clear H
     have H := H1
     clear H1
     have HC12 := Aside0.mk H
     clear H
     go_upto_region 8 with (fail)
     go_cut [51] (fun v51 wc => ∃ (kq : Nat) (x51_11 : Bool), v51 = .bool x51_11 ∧ Aside0 (carillonref01_Decode.j2 kq x1_1 t441 t442 x9_1 x10_1 x51_11 = some (r1, r2)) ∧ Aside0 (kq ≤ kj5) ∧ Aside0 (Kd.R (Kd.int .i64) 3 wc w.heap.size (fun k_ => some k_ ≠ (v446 : Value).ownBlock) v444 t441) ∧ Aside0 (Kd.R (Kd.int .i64) 3 wc w.heap.size (fun k_ => some k_ ≠ (v444 : Value).ownBlock) v446 t442) ∧ Aside0 (Kd.R k57 57 wc w.heap.size (fun _ => True) u9 x9_1) ∧ Aside0 (Below w.heap.size w wc))
     case first =>
      have H := HC12.out
      clear HC12
      by_cases c13 : x10_1 ≥ (t441.length : Int); rotate_left
      ·rw [if_neg c13] at H
       have af : decide ((t441.length : Int) ≤ x10_1) = false := decide_eq_false c13
       clear c13
       (first | rw [af] | (simp only [i64_w, i32_w]; rw [af]) | skip)
       have H' := Aside0.mk H
       clear H
       obtain ⟨Ao20, co20, eo20⟩ := Kd.R_slice ab.out
       subst eo20
       go_wp2
       go_meet
       case rel => exact ⟨_, (false), (by first | rfl | (simp; done) | (simp [*]; done)), H', ⟨by have := HK1.out; have := HJ5.out; first | omega | exact Nat.le_refl _⟩, ⟨r_ ab.out⟩, ⟨r_ ad.out⟩, ⟨r_ ac.out⟩, ⟨bw⟩⟩
      rw [if_pos c13] at H
      have af : decide ((t441.length : Int) ≤ x10_1) = true := decide_eq_true c13
      clear c13
      (first | rw [af] | (simp only [i64_w, i32_w]; rw [af]) | skip)
      by_cases c14 : (t442.length : Int) = 0
      ·rw [if_pos c14] at H
       exact absurd H (by simp)
      rw [if_neg c14] at H
      have aq : ((t442.length : Int) == 0) = false := beq_eq_false_iff_ne.mpr c14
      have ar : ((t442.length : Int) != 0) = true := bne_iff_ne.mpr c14
      have au : ¬ (t442 = []) := fun h_ => c14 (by rw [h_]; rfl)
      by_cases c15 : (Int.tmod (wrap64 (x10_1 - (t441.length : Int))) (t442.length : Int)) = 0; rotate_left
      ·rw [if_neg c15] at H
       have ai : ((Int.tmod (wrap64 (x10_1 - (t441.length : Int))) (t442.length : Int)) == 0) = false := beq_eq_false_iff_ne.mpr c15
       have aj : ((Int.tmod (wrap64 (x10_1 - (t441.length : Int))) (t442.length : Int)) != 0) = true := bne_iff_ne.mpr c15
       have H' := Aside0.mk H
       clear H
       obtain ⟨Ao18, co18, eo18⟩ := Kd.R_slice ab.out
       subst eo18
       obtain ⟨Ao19, co19, eo19⟩ := Kd.R_slice ad.out
       subst eo19
       go_wp2
       go_meet
       case rel => exact ⟨_, (false), (by first | rfl | (simp; done) | (simp [*]; done)), H', ⟨by have := HK1.out; have := HJ5.out; first | omega | exact Nat.le_refl _⟩, ⟨r_ ab.out⟩, ⟨r_ ad.out⟩, ⟨r_ ac.out⟩, ⟨bw⟩⟩
      rw [if_pos c15] at H
      have ai : ((Int.tmod (wrap64 (x10_1 - (t441.length : Int))) (t442.length : Int)) == 0) = true := beq_iff_eq.mpr c15
      have aj : ((Int.tmod (wrap64 (x10_1 - (t441.length : Int))) (t442.length : Int)) != 0) = false := bne_eq_false_iff_eq.mpr c15
      clear c15
      have H' := Aside0.mk H
      clear H
      obtain ⟨Ao16, co16, eo16⟩ := Kd.R_slice ab.out
      subst eo16
      obtain ⟨Ao17, co17, eo17⟩ := Kd.R_slice ad.out
      subst eo17
      go_wp2
      go_meet
      case rel => exact ⟨_, ((x1_1.toList == ([] : List UInt8))), (by first | rfl | (simp; done) | (simp [*]; done)), H', ⟨by have := HK1.out; have := HJ5.out; first | omega | exact Nat.le_refl _⟩, ⟨r_ ab.out⟩, ⟨r_ ad.out⟩, ⟨r_ ac.out⟩, ⟨bw⟩⟩
     case rest =>
      clear HC12
      try clear c1
      try clear p2
      try clear c4
      try clear c5
      try clear p6
      try clear c7
      try clear ah
      try clear c11
      try clear c13
      try clear af
      try clear c14
      try clear aq
      try clear ar
      try clear au
      try clear c15
      try clear ai
      try clear aj
      try clear p2
      obtain ⟨kq, x51_11, rfl, HA, al, ab, ad, ac, HB⟩ := hcut
      cases kq with
      | zero => exact absurd HA.out (by simp [carillonref01_Decode.j2])
      | succ an =>
       have H := HA.out
       clear HA
       simp only [carillonref01_Decode.j2] at H
       by_cases c21 : x51_11 = true
       ·subst c21
        have H1 : (some (x9_1, 0)) = some (r1, r2) := by rw [if_pos rfl] at H; exact H
        clear H
        have H := H1
        clear H1
        simp only [Option.some.injEq, Prod.mk.injEq] at H
        obtain ⟨rfl, rfl⟩ := H
        go_wp2
        go_ret2
        exact ⟨_, er, by (with_reducible repeat (first | apply Kd.R_alloc | apply Kd.R_drewN | apply Kd.R_drew)); exact ac.out, bw⟩
       replace c21 := Bool.eq_false_iff.mpr c21
       subst c21
       have H1 : (if x10_1 < (t441.length : Int) then (if 0 ≤ x10_1 then (carillonref01_Decode.j3 an x1_1 t441 t442 x9_1 x10_1 (rd t441 x10_1)) else (none)) else (if (t442.length : Int) = 0 then (none) else (if 0 ≤ (Int.tmod (wrap64 (x10_1 - (t441.length : Int))) (t442.length : Int)) then (if (Int.tmod (wrap64 (x10_1 - (t441.length : Int))) (t442.length : Int)) < (t442.length : Int) then (carillonref01_Decode.j3 an x1_1 t441 t442 x9_1 x10_1 (rd t442 (Int.tmod (wrap64 (x10_1 - (t441.length : Int))) (t442.length : Int)))) else (none)) else (none)))) = some (r1, r2) := by rw [if_neg (show ¬ (false = true) by decide)] at H; exact H
       clear H
       have H := H1
       clear H1
       have HC22 := Aside0.mk H
       clear H
       obtain ⟨av, aw, eo23⟩ := Kd.R_slice ab.out
       subst eo23
       go_upto_if 56 with (fail)
       go_cut [11] (fun v11 wc => ∃ (kq : Nat) (x11_21 : Int), v11 = .int .i64 x11_21 ∧ Aside0 (carillonref01_Decode.j3 kq x1_1 t441 t442 x9_1 x10_1 x11_21 = some (r1, r2)) ∧ Aside0 (kq ≤ an) ∧ Aside0 (Kd.R (Kd.int .i64) 3 wc w.heap.size (fun k_ => some k_ ≠ (v446 : Value).ownBlock) (.slice av t441.length aw) t441) ∧ Aside0 (Kd.R (Kd.int .i64) 3 wc w.heap.size (fun k_ => some k_ ≠ ((.slice av t441.length aw) : Value).ownBlock) v446 t442) ∧ Aside0 (Kd.R k57 57 wc w.heap.size (fun _ => True) u9 x9_1) ∧ Aside0 (Below w.heap.size w wc))
       case first =>
        have H := HC22.out
        clear HC22
        by_cases c24 : x10_1 < (t441.length : Int)
        ·rw [if_pos c24] at H
         have ag : decide (x10_1 < (t441.length : Int)) = true := decide_eq_true c24
         clear c24
         (first | rw [ag] | (simp only [i64_w, i32_w]; rw [ag]) | skip)
         obtain ⟨c25, H⟩ := its H
         have c25b0 : decide (0 ≤ x10_1) = true := decide_eq_true c25
         clear c25
         have H' := Aside0.mk H
         clear H
         have p448 : 0 ≤ (x10_1 : Int) := od
         have q448 : x10_1 < (t441.length : Int) := od
         obtain ⟨ad448, e448, hx448_0⟩ := Kd.at_int (Kd.R_reads' ab.out).2.2 x10_1 p448 q448
         cases e448
         replace p448 := eq_true p448
         replace q448 := eq_true q448
         go_wp2
         go_meet
         case rel => exact ⟨_, (rd t441 x10_1), (by first | rfl | (simp; done) | (simp [*]; done)), H', ⟨by have := HK1.out; have := HJ5.out; have := al.out; first | omega | exact Nat.le_refl _⟩, ⟨r_ ab.out⟩, ⟨r_ ad.out⟩, ⟨r_ ac.out⟩, ⟨bw⟩⟩
        rw [if_neg c24] at H
        have ag : decide (x10_1 < (t441.length : Int)) = false := decide_eq_false c24
        clear c24
        (first | rw [ag] | (simp only [i64_w, i32_w]; rw [ag]) | skip)
        by_cases c26 : (t442.length : Int) = 0
        ·rw [if_pos c26] at H
         exact absurd H (by simp)
        rw [if_neg c26] at H
        have c26b0 : ((t442.length : Int) == 0) = false := beq_eq_false_iff_ne.mpr c26
        have c26b1 : ((t442.length : Int) != 0) = true := bne_iff_ne.mpr c26
        have c26b2 : ¬ (t442 = []) := fun h_ => c26 (by rw [h_]; rfl)
        obtain ⟨ji27, hji27⟩ : ∃ j_ : Int, (Int.tmod (wrap64 (x10_1 - (t441.length : Int))) (t442.length : Int)) = j_ := ⟨_, rfl⟩
        replace H : (if 0 ≤ (ji27) then (if (ji27) < (t442.length : Int) then (carillonref01_Decode.j3 an x1_1 t441 t442 x9_1 x10_1 (rd t442 (ji27))) else (none)) else (none)) = some (r1, r2) := by first | (rw [hji27] at H; exact H) | (simp only [hji27] at H ⊢; exact H)
        obtain ⟨c28, H⟩ := its H
        have c28b0 : decide (0 ≤ (ji27)) = true := decide_eq_true c28
        clear c28
        obtain ⟨c29, H⟩ := its H
        have c29b0 : decide ((ji27) < (t442.length : Int)) = true := decide_eq_true c29
        clear c29
        have H' := Aside0.mk H
        clear H
        obtain ⟨Ao30, co30, eo30⟩ := Kd.R_slice ad.out
        subst eo30
        have p449 : 0 ≤ ((ji27) : Int) := od
        have q449 : (ji27) < (t442.length : Int) := od
        obtain ⟨ad449, e449, hx449_0⟩ := Kd.at_int (Kd.R_reads' ad.out).2.2 (ji27) p449 q449
        cases e449
        replace p449 := eq_true p449
        replace q449 := eq_true q449
        go_wp2
        go_meet
        case rel => (try rw [hji27]); exact ⟨_, (rd t442 (ji27)), (by first | rfl | (simp; done) | (simp only [← hji27] <;> (first | rfl | simp)) | (simp [*]; done)), H', ⟨by have := HK1.out; have := HJ5.out; have := al.out; first | omega | exact Nat.le_refl _⟩, ⟨r_ ab.out⟩, ⟨r_ ad.out⟩, ⟨r_ ac.out⟩, ⟨bw⟩⟩
       case rest =>
        clear HC22
        try clear c1
        try clear c2
        try clear p2
        try clear c4
        try clear p4
        try clear q4
        try clear hx4
        try clear c5
        try clear p6
        try clear c7
        try clear ah
        try clear c11
        try clear c13
        try clear af
        try clear c14
        try clear aq
        try clear ar
        try clear au
        try clear c15
        try clear ai
        try clear aj
        try clear c21
        try clear c24
        try clear ag
        try clear c25
        try clear c25b0
        try clear c26
        try clear c26b0
        try clear c26b1
        try clear c26b2
        try clear c28
        try clear c28b0
        try clear c29
        try clear c29b0
        try clear hx448_0
        try clear hx449_0
        try clear p2
        try clear p448
        try clear p449
        try clear p6
        try clear q448
        try clear q449
        obtain ⟨kq, x11_21, rfl, HA, ax, ab, ad, ac, HB⟩ := hcut
        cases kq with
        | zero => exact absurd HA.out (by simp [carillonref01_Decode.j3])
        | succ ak =>
         have H := HA.out
         clear HA
         simp only [carillonref01_Decode.j3] at H
         by_cases c31 : (x9_1.length : Int) = 1000
         ·rw [if_pos c31] at H
          have c31b0 : ((x9_1.length : Int) == 1000) = true := beq_iff_eq.mpr c31
          have c31b1 : ((x9_1.length : Int) != 1000) = false := bne_eq_false_iff_eq.mpr c31
          clear c31
          simp only [Option.some.injEq, Prod.mk.injEq] at H
          obtain ⟨rfl, rfl⟩ := H
          obtain ⟨Ao32, co32, eo32⟩ := Kd.R_slice ac.out
          subst eo32
          go_wp2
          go_ret2
          exact ⟨_, er, by first | exact Kd.R_nil _ _ _ _ _ | exact Kd.N_nil _ _ _ _ _ | exact Kd.V_nil _ _ _ _ _ | exact Kd.Q_nil _ _ _ _ _ | exact Kd.S_nil _ _ _ _ _, bw⟩
         rw [if_neg c31] at H
         have c31b0 : ((x9_1.length : Int) == 1000) = false := beq_eq_false_iff_ne.mpr c31
         have c31b1 : ((x9_1.length : Int) != 1000) = true := bne_iff_ne.mpr c31
         replace H := Option.bind_eq_some_iff.mp H
         obtain ⟨⟨t450, t451, t452, t453, t454⟩, A330, H⟩ := H
         replace H : (if t454 = 0 then (if x9_1.length < 4398046511104 then (if 0 ≤ t453 then (if t453 ≤ (x1_1.size : Int) then (carillonref01_Decode.l0 ak (x1_1.extract (t453 : Int).toNat x1_1.size) t441 t442 (x9_1 ++ [(⟨t450, t451, t452⟩ : S57)]) (wrap64 (x10_1 + 1))) else (none)) else (none)) else (none)) else (some (([] : List (S57)), t454))) = some (r1, r2) := H
         have A33 := Aside0.mk A330
         clear A330
         by_cases c34 : t454 = 0; rotate_left
         ·rw [if_neg c34] at H
          have c34b0 : (t454 == 0) = false := beq_eq_false_iff_ne.mpr c34
          have c34b1 : (t454 != 0) = true := bne_iff_ne.mpr c34
          simp only [Option.some.injEq, Prod.mk.injEq] at H
          obtain ⟨rfl, rfl⟩ := H
          obtain ⟨Ao43, co43, eo43⟩ := Kd.R_slice ac.out
          subst eo43
          go_wp2_with (first | ((with_reducible refine gate_callee (f := 60) rfl ?_); refine goesL_ (some 77) rfl rfl Tryd.func60 (by kernel_rfl) rfl #[.int .i64 x11_21, .string x1_1] rfl am ?_; (with_reducible refine (carillonref01_take.calls ak x11_21 x1_1 t450 t451 t452 t453 t454 _ A33.out).mono ?_); rintro e w44 ⟨rfl, hb⟩; refine ⟨_, rfl, ?_⟩; replace ab := Aside0.mk (Kd.R_below (r_ ab.out) hb); replace ad := Aside0.mk (Kd.R_below (r_ ad.out) hb); replace ac := Aside0.mk (Kd.R_below (r_ ac.out) hb); replace HB := Aside0.mk (below_step bw hb); (try clear hb)) | ((with_reducible refine gate_dst (N := 12) rfl ?_); (try (refine gate_guard (by rfl) ?_; dsimp only)); refine box_event ?hg (N := 12) ?hd (cs := #[.int .i64 0, .int .u64 0, .string (⟨#[]⟩ : ByteArray)]) (t := 57) ?hr ?_; (case hd => rfl); (case hg => rfl); (case hr => first | (go_simp; done) | (go_simp; rfl)); intro aa hg w45 hbox hb; replace ab := Aside0.mk (Kd.R_below (r_ ab.out) hb); replace ad := Aside0.mk (Kd.R_below (r_ ad.out) hb); replace ac := Aside0.mk (Kd.R_below (Kd.R_elderB (r_ ac.out) aa (Nat.le_of_eq hg.symm)) hb); have ae := Aside0.mk (hbox); have GW455 := Aside0.mk ((g1 hg bw : w.heap.size ≤ aa)); have GE455 := Aside0.mk ((g1 hg bw : w.heap.size ≤ aa)); replace HB := Aside0.mk (below_step bw hb); clear hb hbox hg; obtain ⟨hcz46_0, hcz46_1, hcz46_2, hfz46_0, hfz46_1, hfz46_2⟩ := bx3 ae.out))
          go_ret2
          exact ⟨_, er, by first | exact Kd.R_nil _ _ _ _ _ | exact Kd.N_nil _ _ _ _ _ | exact Kd.V_nil _ _ _ _ _ | exact Kd.Q_nil _ _ _ _ _ | exact Kd.S_nil _ _ _ _ _, bw⟩
         rw [if_pos c34] at H
         have c34b0 : (t454 == 0) = true := beq_iff_eq.mpr c34
         have c34b1 : (t454 != 0) = false := bne_eq_false_iff_eq.mpr c34
         clear c34
         obtain ⟨c35, H⟩ := its H
         have LMc35 := Aside0.mk c35
         clear c35
         obtain ⟨y456, hy456⟩ : ∃ y_ : List (S57), y_ = (x9_1 ++ [(⟨t450, t451, t452⟩ : S57)]) := ⟨_, rfl⟩
         replace H : (if 0 ≤ t453 then (if t453 ≤ (x1_1.size : Int) then (carillonref01_Decode.l0 ak (x1_1.extract (t453 : Int).toNat x1_1.size) t441 t442 y456 (wrap64 (x10_1 + 1))) else (none)) else (none)) = some (r1, r2) := by first | (rw [hy456]; with_reducible exact H) | (have H2_ := (Option.bind_some _ _).symm.trans H; rw [hy456]; with_reducible exact H2_) | (have H2_ := (Option.bind_some _ _).symm.trans H; with_reducible exact H2_) | with_reducible exact H | (rw [hy456]; exact H) | exact H
         have Ny456 := Aside0.mk hy456
         clear hy456
         obtain ⟨c36, H⟩ := its H
         have c36b0 := eq_true c36
         have c36b1 : decide (0 ≤ t453) = true := decide_eq_true c36
         clear c36
         obtain ⟨c37, H⟩ := its H
         have c37b0 := eq_true c37
         have c37b1 : decide (t453 ≤ (x1_1.size : Int)) = true := decide_eq_true c37
         clear c37
         have H' := Aside0.mk H
         clear H
         obtain ⟨Ao38, co38, eo38⟩ := Kd.R_slice ac.out
         subst eo38
         go_wp2_with (first | ((with_reducible refine gate_callee (f := 60) rfl ?_); refine goesL_ (some 77) rfl rfl Tryd.func60 (by kernel_rfl) rfl #[.int .i64 x11_21, .string x1_1] rfl am ?_; (with_reducible refine (carillonref01_take.calls ak x11_21 x1_1 t450 t451 t452 t453 t454 _ A33.out).mono ?_); rintro e w39 ⟨rfl, hb⟩; refine ⟨_, rfl, ?_⟩; replace ab := Aside0.mk (Kd.R_below (r_ ab.out) hb); replace ad := Aside0.mk (Kd.R_below (r_ ad.out) hb); replace ac := Aside0.mk (Kd.R_below (r_ ac.out) hb); replace HB := Aside0.mk (below_step bw hb); (try clear hb)) | ((with_reducible refine gate_dst (N := 12) rfl ?_); (try (refine gate_guard (by rfl) ?_; dsimp only)); refine box_event ?hg (N := 12) ?hd (cs := #[.int .i64 0, .int .u64 0, .string (⟨#[]⟩ : ByteArray)]) (t := 57) ?hr ?_; (case hd => rfl); (case hg => rfl); (case hr => first | (go_simp; done) | (go_simp; rfl)); intro aa hg w40 hbox hb; replace ab := Aside0.mk (Kd.R_below (r_ ab.out) hb); replace ad := Aside0.mk (Kd.R_below (r_ ad.out) hb); replace ac := Aside0.mk (Kd.R_below (Kd.R_elderB (r_ ac.out) aa (Nat.le_of_eq hg.symm)) hb); have ae := Aside0.mk (hbox); have GW455 := Aside0.mk ((g1 hg bw : w.heap.size ≤ aa)); have GE455 := Aside0.mk ((g1 hg bw : w.heap.size ≤ aa)); replace HB := Aside0.mk (below_step bw hb); clear hb hbox hg; obtain ⟨hcz41_0, hcz41_1, hcz41_2, hfz41_0, hfz41_1, hfz41_2⟩ := bx3 ae.out) | ((with_reducible refine gate_builtin (b := .append) (xs := #[.tmp 84, .tmp 86]) rfl ?_); (try (refine gate_guard (by rfl) ?_; dsimp only)); at_builtin; refine Kd.R_append k57 (w0 := w) w.heap.size rfl (.tmp 84) (.tmp 86) 60 57 (.agg #[(.int .i64 0), (.int .u64 0), (.string ⟨#[]⟩)]) 32 rfl Tryd.underlying60 info57 rfl (by decide) (by omega) (.slice Ao38 x9_1.length co38) x9_1 (⟨t450, t451, t452⟩ : S57) [.int .i64 t450, .int .u64 t451, .string t452] (fun k_ => k_ ≠ aa) (fun _ => False) rfl (by first | (go_simp; done) | (go_simp; rfl)) ?aP (fun _ hk => hk.elim) ?aF ?aO ?aB ?aS ?aL ?_; (case aP => exact k57_mkM _ _ _ (⟨t450, t451, t452⟩ : S57)); (case aB => exact bw); (case aF => exact (fun k_ hk => Kd.freshB (g := aa) (o := .cells #[.int .i64 t450, .int .u64 t451, .string t452] 57 (0, 0)) (by (with_reducible repeat (first | refine blk_drewN ?_ _ | refine blk_drew ?_ | refine blk_alloc ?_ _)); refine blk_put (cs := #[.int .i64 t450, .int .u64 t451, .string (⟨#[]⟩ : ByteArray)]) ?_ 2 _ rfl; (with_reducible repeat (first | refine blk_drewN ?_ _ | refine blk_drew ?_ | refine blk_alloc ?_ _)); refine blk_put (cs := #[.int .i64 t450, .int .u64 0, .string (⟨#[]⟩ : ByteArray)]) ?_ 1 _ rfl; (with_reducible repeat (first | refine blk_drewN ?_ _ | refine blk_drew ?_ | refine blk_alloc ?_ _)); refine blk_put (cs := #[.int .i64 0, .int .u64 0, .string (⟨#[]⟩ : ByteArray)]) ?_ 0 _ rfl; (with_reducible repeat (first | refine blk_drewN ?_ _ | refine blk_drew ?_ | refine blk_alloc ?_ _)); exact ae.out) k_ hk)); (case aO => exact (by (with_reducible repeat (first | apply Kd.R_alloc | apply Kd.R_drewN | apply Kd.R_drew)); exact Kd.R_mono (Kd.R_far (p := ⟨aa, 2, none⟩) (Kd.R_far (p := ⟨aa, 1, none⟩) (Kd.R_far (p := ⟨aa, 0, none⟩) (Kd.R_mono ac.out (fun k_ hk => (⟨hk, hk.2⟩ : _ ∧ k_ ≠ aa))) (fun _ hk => hk.2) (.int .i64 t450)) (fun _ hk => hk.2) (.int .u64 t451)) (fun _ hk => hk.2) (.string t452)) (fun _ hk => hk.1.2))); (case aS => exact (below_size bw)); (case aL => have := LMc35.out; omega); intro v457 w42 ho hb hg hat; rw [← Ny456.out] at ho; replace ab := Aside0.mk (Kd.R_over' (by (with_reducible repeat (first | apply Kd.R_alloc | apply Kd.R_drewN | apply Kd.R_drew)); exact (Kd.R_mono (Kd.R_far (p := ⟨aa, 2, none⟩) (Kd.R_far (p := ⟨aa, 1, none⟩) (Kd.R_far (p := ⟨aa, 0, none⟩) (Kd.R_types ab.out ae.out (by decide)) (fun _ hk => hk.2) (.int .i64 t450)) (fun _ hk => hk.2) (.int .u64 t451)) (fun _ hk => hk.2) (.string t452)) (fun _ h_ => h_.1))) (Kd.R_typed (by (with_reducible repeat (first | apply Kd.R_alloc | apply Kd.R_drewN | apply Kd.R_drew)); exact (Kd.R_mono (Kd.R_far (p := ⟨aa, 2, none⟩) (Kd.R_far (p := ⟨aa, 1, none⟩) (Kd.R_far (p := ⟨aa, 0, none⟩) (Kd.R_mono ac.out (fun k_ hk => (⟨hk, hk.2⟩ : _ ∧ k_ ≠ aa))) (fun _ hk => hk.2) (.int .i64 t450)) (fun _ hk => hk.2) (.int .u64 t451)) (fun _ hk => hk.2) (.string t452)) (fun _ h_ => h_.1)))) (by decide) hg); replace ad := Aside0.mk (Kd.R_over' (by (with_reducible repeat (first | apply Kd.R_alloc | apply Kd.R_drewN | apply Kd.R_drew)); exact (Kd.R_mono (Kd.R_far (p := ⟨aa, 2, none⟩) (Kd.R_far (p := ⟨aa, 1, none⟩) (Kd.R_far (p := ⟨aa, 0, none⟩) (Kd.R_types ad.out ae.out (by decide)) (fun _ hk => hk.2) (.int .i64 t450)) (fun _ hk => hk.2) (.int .u64 t451)) (fun _ hk => hk.2) (.string t452)) (fun _ h_ => h_.1))) (Kd.R_typed (by (with_reducible repeat (first | apply Kd.R_alloc | apply Kd.R_drewN | apply Kd.R_drew)); exact (Kd.R_mono (Kd.R_far (p := ⟨aa, 2, none⟩) (Kd.R_far (p := ⟨aa, 1, none⟩) (Kd.R_far (p := ⟨aa, 0, none⟩) (Kd.R_mono ac.out (fun k_ hk => (⟨hk, hk.2⟩ : _ ∧ k_ ≠ aa))) (fun _ hk => hk.2) (.int .i64 t450)) (fun _ hk => hk.2) (.int .u64 t451)) (fun _ hk => hk.2) (.string t452)) (fun _ h_ => h_.1)))) (by decide) hg); replace ae := Aside0.mk (blk_grown (g := aa) (o := .cells #[.int .i64 t450, .int .u64 t451, .string t452] 57 (0, 0)) (by (with_reducible repeat (first | refine blk_drewN ?_ _ | refine blk_drew ?_ | refine blk_alloc ?_ _)); refine blk_put (cs := #[.int .i64 t450, .int .u64 t451, .string (⟨#[]⟩ : ByteArray)]) ?_ 2 _ rfl; (with_reducible repeat (first | refine blk_drewN ?_ _ | refine blk_drew ?_ | refine blk_alloc ?_ _)); refine blk_put (cs := #[.int .i64 t450, .int .u64 0, .string (⟨#[]⟩ : ByteArray)]) ?_ 1 _ rfl; (with_reducible repeat (first | refine blk_drewN ?_ _ | refine blk_drew ?_ | refine blk_alloc ?_ _)); refine blk_put (cs := #[.int .i64 0, .int .u64 0, .string (⟨#[]⟩ : ByteArray)]) ?_ 0 _ rfl; (with_reducible repeat (first | refine blk_drewN ?_ _ | refine blk_drew ?_ | refine blk_alloc ?_ _)); exact ae.out) hg (Kd.R_away ac.out (fun _ hk => hk.2))); replace HB := Aside0.mk (hb); have HO458 := Aside0.mk (ho); clear ac; clear ho hb hg hat))
         go_roundg ak
         case measure => have := HK1.out; have := HJ5.out; have := al.out; have := ax.out; omega
         case rel => exact ⟨(x1_1.extract (t453 : Int).toNat x1_1.size), (y456), (wrap64 (x10_1 + 1)), (by first | rfl | (simp; done) | (simp [*]; done)), (by first | rfl | (simp; done) | (simp [*]; done)), H', ⟨by have := HK1.out; have := HJ5.out; have := al.out; have := ax.out; omega⟩, ⟨r_ ab.out⟩, ⟨r_ ad.out⟩, ⟨by (with_reducible repeat (first | apply Kd.R_alloc | apply Kd.R_drewN | apply Kd.R_drew)); exact Kd.R_mono HO458.out (fun _ hk => trivial)⟩, ⟨bw⟩⟩

end Go.Proofs.YtpgiagdpepkooaaDoor.P
