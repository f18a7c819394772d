-- Printed by this session's program wip/xp.py (a turned copy of the kit's printer): functions, their contracts.
import Derived.Test.YtpgiagdpepkooaaDoorPx0
import Derived.Test.YtpgiagdpepkooaaDoorPx37
namespace Go.Proofs.YtpgiagdpepkooaaDoor.P
open Go.RowKit Go.Proofs.YtpgiagdpepkooaaDoorW.PrintWords Go.Proofs.YtpgiagdpepkooaaDoorW.PrintLast Go.Proofs.YtpgiagdpepkooaaDoorW.PrintMore
attribute [local go_sem] max2_int min2_int max_two min_two max_three min_three max_four min_four   -- for this text's walks alone
set_option linter.unusedVariables false
set_option linter.unusedSimpArgs false

/-! ### carillonref14_RightReply: function 52 -/
def carillonref14_RightReply.l0 : Nat → Int → Int → Int → List (S48) → Option (Bool)
 | 0, _, _, _, _ => none
 | k + 1, x3, x572000, x572001, x572002 => if x3 < (x572002.length : Int) then (if 0 ≤ x3 then ((carillonref06_Right.f ((rd_T48 x572002 x3).f0) ((rd_T48 x572002 x3).f1) ((rd_T48 x572002 x3).f2) ((rd_T48 x572002 x3).f3) ((rd_T48 x572002 x3).f4)).bind fun t573 => (if t573 = true then (carillonref14_RightReply.l0 k (wrap64 (x3 + 1)) x572000 x572001 x572002) else (some false))) else (none)) else (some true)
def carillonref14_RightReply.f (k : Nat) (a0_0 : Int) (a0_1 : Int) (l0_2 : List (S48)) : Option (Bool) := if a0_0 < 0 then (some false) else (if a0_0 > 255 then (some false) else (if a0_1 < (-1) then (some false) else (if a0_1 > 9007199254740991 then (some false) else (if (l0_2.length : Int) > 50 then (some false) else (carillonref14_RightReply.l0 k 0 a0_0 a0_1 l0_2)))))
set_option maxHeartbeats 8000000 in
set_option maxRecDepth 100000 in
theorem carillonref14_RightReply.calls (k : Nat) (a0_0 : Int) (a0_1 : Int) (A0_2 : Option Addr) (c0_2 : Nat) (l0_2 : List (S48)) (r : Bool) (w : World) (hr0_2 : Kd.C k48 w A0_2 l0_2.length l0_2) (hc0_2 : l0_2.length ≤ c0_2) (h : carillonref14_RightReply.f k a0_0 a0_1 l0_2 = some r) :
  Calls Tryd.prog 52 #[.agg #[.int .i64 a0_0, .int .i64 a0_1, .slice A0_2 l0_2.length c0_2]] w fun e w' => e = .returned (.bool r) ∧ Below w.heap.size w w' := by
 have hu39 := Tryd.underlying39
 have hu48 := Tryd.underlying48
 have HR0_2 := Aside0.mk hr0_2
 have HC0_2 := Aside0.mk hc0_2
 clear hr0_2 hc0_2
 have HB := Aside0.mk (Below.refl w.heap.size w)
 have H := h
 unfold carillonref14_RightReply.f at H
 clear h
 by_cases c2 : a0_0 < 0
 ·rw [if_pos c2] at H
  have an : decide (a0_0 < 0) = true := decide_eq_true c2
  clear c2
  obtain rfl := Option.some.inj H
  go_enter Tryd.func52, Tryd.ntmps52
  go_wp2_with (first | ((with_reducible refine gate_dst (N := 1) rfl ?_); (try (refine gate_guard (by rfl) ?_; dsimp only)); refine box_event ?hg (N := 1) ?hd (cs := #[.int .i64 a0_0, .int .i64 a0_1, .slice A0_2 l0_2.length c0_2]) (t := 39) ?hr ?_; (case hd => rfl); (case hg => rfl); (case hr => first | (go_simp; done) | (go_simp; rfl)); intro ab hg w3 hbox hb; have aa := Aside0.mk (hbox); have ah := Aside0.mk ((g1 hg bw : w.heap.size ≤ ab)); have ai := Aside0.mk ((g1 hg bw : w.heap.size ≤ ab)); replace HB := Aside0.mk (below_step bw hb); clear hb hbox hg; obtain ⟨hcz4_0, hcz4_1, hcz4_2, hfz4_0, hfz4_1, hfz4_2⟩ := bx3 aa.out))
  go_ret
  exact ⟨er, bw⟩
 rw [if_neg c2] at H
 have an : decide (a0_0 < 0) = false := decide_eq_false c2
 clear c2
 by_cases c5 : a0_0 > 255
 ·rw [if_pos c5] at H
  have ao : decide (255 < a0_0) = true := decide_eq_true c5
  clear c5
  obtain rfl := Option.some.inj H
  go_enter Tryd.func52, Tryd.ntmps52
  go_wp2_with (first | ((with_reducible refine gate_dst (N := 1) rfl ?_); (try (refine gate_guard (by rfl) ?_; dsimp only)); refine box_event ?hg (N := 1) ?hd (cs := #[.int .i64 a0_0, .int .i64 a0_1, .slice A0_2 l0_2.length c0_2]) (t := 39) ?hr ?_; (case hd => rfl); (case hg => rfl); (case hr => first | (go_simp; done) | (go_simp; rfl)); intro ab hg w6 hbox hb; have aa := Aside0.mk (hbox); have ah := Aside0.mk ((g1 hg bw : w.heap.size ≤ ab)); have ai := Aside0.mk ((g1 hg bw : w.heap.size ≤ ab)); replace HB := Aside0.mk (below_step bw hb); clear hb hbox hg; obtain ⟨hcz7_0, hcz7_1, hcz7_2, hfz7_0, hfz7_1, hfz7_2⟩ := bx3 aa.out))
  go_ret
  exact ⟨er, bw⟩
 rw [if_neg c5] at H
 have ao : decide (255 < a0_0) = false := decide_eq_false c5
 clear c5
 by_cases c8 : a0_1 < (-1)
 ·rw [if_pos c8] at H
  have ap : decide (a0_1 < (-1)) = true := decide_eq_true c8
  clear c8
  obtain rfl := Option.some.inj H
  go_enter Tryd.func52, Tryd.ntmps52
  go_wp2_with (first | ((with_reducible refine gate_dst (N := 1) rfl ?_); (try (refine gate_guard (by rfl) ?_; dsimp only)); refine box_event ?hg (N := 1) ?hd (cs := #[.int .i64 a0_0, .int .i64 a0_1, .slice A0_2 l0_2.length c0_2]) (t := 39) ?hr ?_; (case hd => rfl); (case hg => rfl); (case hr => first | (go_simp; done) | (go_simp; rfl)); intro ab hg w9 hbox hb; have aa := Aside0.mk (hbox); have ah := Aside0.mk ((g1 hg bw : w.heap.size ≤ ab)); have ai := Aside0.mk ((g1 hg bw : w.heap.size ≤ ab)); replace HB := Aside0.mk (below_step bw hb); clear hb hbox hg; obtain ⟨hcz10_0, hcz10_1, hcz10_2, hfz10_0, hfz10_1, hfz10_2⟩ := bx3 aa.out))
  go_ret
  exact ⟨er, bw⟩
 rw [if_neg c8] at H
 have ap : decide (a0_1 < (-1)) = false := decide_eq_false c8
 clear c8
 by_cases c11 : a0_1 > 9007199254740991
 ·rw [if_pos c11] at H
  have aj : decide (9007199254740991 < a0_1) = true := decide_eq_true c11
  clear c11
  obtain rfl := Option.some.inj H
  go_enter Tryd.func52, Tryd.ntmps52
  go_wp2_with (first | ((with_reducible refine gate_dst (N := 1) rfl ?_); (try (refine gate_guard (by rfl) ?_; dsimp only)); refine box_event ?hg (N := 1) ?hd (cs := #[.int .i64 a0_0, .int .i64 a0_1, .slice A0_2 l0_2.length c0_2]) (t := 39) ?hr ?_; (case hd => rfl); (case hg => rfl); (case hr => first | (go_simp; done) | (go_simp; rfl)); intro ab hg w12 hbox hb; have aa := Aside0.mk (hbox); have ah := Aside0.mk ((g1 hg bw : w.heap.size ≤ ab)); have ai := Aside0.mk ((g1 hg bw : w.heap.size ≤ ab)); replace HB := Aside0.mk (below_step bw hb); clear hb hbox hg; obtain ⟨hcz13_0, hcz13_1, hcz13_2, hfz13_0, hfz13_1, hfz13_2⟩ := bx3 aa.out))
  go_ret
  exact ⟨er, bw⟩
 rw [if_neg c11] at H
 have aj : decide (9007199254740991 < a0_1) = false := decide_eq_false c11
 clear c11
 by_cases c14 : (l0_2.length : Int) > 50
 ·rw [if_pos c14] at H
  have ak : decide (50 < (l0_2.length : Int)) = true := decide_eq_true c14
  have al : decide (50 < l0_2.length) = true := decide_eq_true (by omega)
  clear c14
  obtain rfl := Option.some.inj H
  go_enter Tryd.func52, Tryd.ntmps52
  go_wp2_with (first | ((with_reducible refine gate_dst (N := 1) rfl ?_); (try (refine gate_guard (by rfl) ?_; dsimp only)); refine box_event ?hg (N := 1) ?hd (cs := #[.int .i64 a0_0, .int .i64 a0_1, .slice A0_2 l0_2.length c0_2]) (t := 39) ?hr ?_; (case hd => rfl); (case hg => rfl); (case hr => first | (go_simp; done) | (go_simp; rfl)); intro ab hg w15 hbox hb; have aa := Aside0.mk (hbox); have ah := Aside0.mk ((g1 hg bw : w.heap.size ≤ ab)); have ai := Aside0.mk ((g1 hg bw : w.heap.size ≤ ab)); replace HB := Aside0.mk (below_step bw hb); clear hb hbox hg; obtain ⟨hcz16_0, hcz16_1, hcz16_2, hfz16_0, hfz16_1, hfz16_2⟩ := bx3 aa.out))
  go_ret
  exact ⟨er, bw⟩
 rw [if_neg c14] at H
 have ak : decide (50 < (l0_2.length : Int)) = false := decide_eq_false c14
 have al : decide (50 < l0_2.length) = false := decide_eq_false (by omega)
 clear c14
 have H' := Aside0.mk H
 clear H
 go_enter Tryd.func52, Tryd.ntmps52
 go_wp2_with (first | ((with_reducible refine gate_dst (N := 1) rfl ?_); (try (refine gate_guard (by rfl) ?_; dsimp only)); refine box_event ?hg (N := 1) ?hd (cs := #[.int .i64 a0_0, .int .i64 a0_1, .slice A0_2 l0_2.length c0_2]) (t := 39) ?hr ?_; (case hd => rfl); (case hg => rfl); (case hr => first | (go_simp; done) | (go_simp; rfl)); intro ab hg w17 hbox hb; have aa := Aside0.mk (hbox); have ah := Aside0.mk ((g1 hg bw : w.heap.size ≤ ab)); have ai := Aside0.mk ((g1 hg bw : w.heap.size ≤ ab)); replace HB := Aside0.mk (below_step bw hb); clear hb hbox hg; obtain ⟨hcz18_0, hcz18_1, hcz18_2, hfz18_0, hfz18_1, hfz18_2⟩ := bx3 aa.out))
 go_loopg [3] k (fun kq v3 w' => ∃ (x3_1 : Int), v3 = .int .i64 x3_1 ∧ Aside0 (carillonref14_RightReply.l0 kq x3_1 a0_0 a0_1 l0_2 = some r) ∧ Aside0 (kq ≤ k) ∧ Aside0 (w'.heap[ab]? = some (.cells #[.int .i64 a0_0, .int .i64 a0_1, (.slice A0_2 l0_2.length c0_2)] 39 (0, 0))) ∧ Aside0 (Below w.heap.size w w'))
 case atStart => exact ⟨(0), (by first | rfl | (simp; done) | (simp [*]; done)), H', ⟨Nat.le_refl _⟩, ⟨by (with_reducible repeat (first | refine blk_drewN ?_ _ | refine blk_drew ?_ | refine blk_alloc ?_ _)); exact aa.out⟩, ⟨bw⟩⟩
 case round =>
  clear H'
  try clear c1
  try clear c2
  try clear an
  try clear p2
  try clear c5
  try clear ao
  try clear c8
  try clear ap
  try clear c11
  try clear aj
  try clear c14
  try clear ak
  try clear al
  try clear hcz10_0 hcz10_1 hcz10_2 hcz13_0 hcz13_1 hcz13_2 hcz16_0 hcz16_1 hcz16_2 hcz18_0 hcz18_1 hcz18_2 hcz4_0 hcz4_1 hcz4_2 hcz7_0 hcz7_1 hcz7_2
  try clear hfz10_0 hfz10_1 hfz10_2 hfz13_0 hfz13_1 hfz13_2 hfz16_0 hfz16_1 hfz16_2 hfz18_0 hfz18_1 hfz18_2 hfz4_0 hfz4_1 hfz4_2 hfz7_0 hfz7_1 hfz7_2
  obtain ⟨x3_1, rfl, HA, HK1, aa, HB⟩ := hrel
  cases gk with
  | zero => exact absurd HA.out (by simp [carillonref14_RightReply.l0])
  | succ k1 =>
   have H := HA.out
   clear HA
   simp only [carillonref14_RightReply.l0] at H
   by_cases c19 : x3_1 < (l0_2.length : Int); rotate_left
   ·rw [if_neg c19] at H
    have c19b0 : decide (x3_1 < (l0_2.length : Int)) = false := decide_eq_false c19
    clear c19
    obtain rfl := Option.some.inj H
    obtain ⟨hcz27_0, hcz27_1, hcz27_2, hfz27_0, hfz27_1, hfz27_2⟩ := bx3 aa.out
    go_wp2
    go_ret
    exact ⟨er, bw⟩
   rw [if_pos c19] at H
   have c19b0 : decide (x3_1 < (l0_2.length : Int)) = true := decide_eq_true c19
   clear c19
   obtain ⟨c20, H⟩ := its H
   have c20b0 : decide (0 ≤ x3_1) = true := decide_eq_true c20
   clear c20
   replace H := Option.bind_eq_some_iff.mp H
   obtain ⟨t573, A210, H⟩ := H
   have A21 := Aside0.mk A210
   clear A210
   by_cases c22 : t573 = true; rotate_left
   ·replace c22 := Bool.eq_false_iff.mpr c22
    subst c22
    have H1 : (some false) = some r := by rw [if_neg (show ¬ (false = true) by decide)] at H; exact H
    clear H
    have H := H1
    clear H1
    obtain rfl := Option.some.inj H
    obtain ⟨hcz25_0, hcz25_1, hcz25_2, hfz25_0, hfz25_1, hfz25_2⟩ := bx3 aa.out
    have p572 : 0 ≤ (x3_1 : Int) := od
    have q572 : x3_1 < (l0_2.length : Int) := od
    obtain ⟨ad572, e572, ac, ad, ae, af, ag⟩ := at_T48 HR0_2.out x3_1 p572 q572
    cases e572
    replace ac := (HB.out.cell (World.block_lt_of_cell? w _ ac)).trans ac
    replace ad := (HB.out.cell (World.block_lt_of_cell? w _ ad)).trans ad
    replace ae := (HB.out.cell (World.block_lt_of_cell? w _ ae)).trans ae
    replace af := (HB.out.cell (World.block_lt_of_cell? w _ af)).trans af
    replace ag := (HB.out.cell (World.block_lt_of_cell? w _ ag)).trans ag
    replace p572 := eq_true p572
    replace q572 := eq_true q572
    go_wp2_with (first | ((with_reducible refine gate_callee (f := 71) rfl ?_); refine goesL_ (some 41) rfl rfl Tryd.func71 (by kernel_rfl) rfl #[.agg #[.int .i64 ((rd_T48 l0_2 x3_1).f0), .string ((rd_T48 l0_2 x3_1).f1), .int .i64 ((rd_T48 l0_2 x3_1).f2), .string ((rd_T48 l0_2 x3_1).f3), .string ((rd_T48 l0_2 x3_1).f4)]] rfl am ?_; (with_reducible refine (carillonref06_Right.calls ((rd_T48 l0_2 x3_1).f0) ((rd_T48 l0_2 x3_1).f1) ((rd_T48 l0_2 x3_1).f2) ((rd_T48 l0_2 x3_1).f3) ((rd_T48 l0_2 x3_1).f4) false _ A21.out).mono ?_); rintro e w26 ⟨rfl, hb⟩; refine ⟨_, rfl, ?_⟩; replace aa := Aside0.mk (nb aa.out hb); replace HB := Aside0.mk (below_step bw hb); (try clear hb)))
    go_ret
    exact ⟨er, bw⟩
   subst c22
   have H1 : (carillonref14_RightReply.l0 k1 (wrap64 (x3_1 + 1)) a0_0 a0_1 l0_2) = some r := by rw [if_pos rfl] at H; exact H
   clear H
   have H := H1
   clear H1
   have H' := Aside0.mk H
   clear H
   obtain ⟨hcz23_0, hcz23_1, hcz23_2, hfz23_0, hfz23_1, hfz23_2⟩ := bx3 aa.out
   have p572 : 0 ≤ (x3_1 : Int) := od
   have q572 : x3_1 < (l0_2.length : Int) := od
   obtain ⟨ad572, e572, ac, ad, ae, af, ag⟩ := at_T48 HR0_2.out x3_1 p572 q572
   cases e572
   replace ac := (HB.out.cell (World.block_lt_of_cell? w _ ac)).trans ac
   replace ad := (HB.out.cell (World.block_lt_of_cell? w _ ad)).trans ad
   replace ae := (HB.out.cell (World.block_lt_of_cell? w _ ae)).trans ae
   replace af := (HB.out.cell (World.block_lt_of_cell? w _ af)).trans af
   replace ag := (HB.out.cell (World.block_lt_of_cell? w _ ag)).trans ag
   replace p572 := eq_true p572
   replace q572 := eq_true q572
   go_wp2_with (first | ((with_reducible refine gate_callee (f := 71) rfl ?_); refine goesL_ (some 41) rfl rfl Tryd.func71 (by kernel_rfl) rfl #[.agg #[.int .i64 ((rd_T48 l0_2 x3_1).f0), .string ((rd_T48 l0_2 x3_1).f1), .int .i64 ((rd_T48 l0_2 x3_1).f2), .string ((rd_T48 l0_2 x3_1).f3), .string ((rd_T48 l0_2 x3_1).f4)]] rfl am ?_; (with_reducible refine (carillonref06_Right.calls ((rd_T48 l0_2 x3_1).f0) ((rd_T48 l0_2 x3_1).f1) ((rd_T48 l0_2 x3_1).f2) ((rd_T48 l0_2 x3_1).f3) ((rd_T48 l0_2 x3_1).f4) true _ A21.out).mono ?_); rintro e w24 ⟨rfl, hb⟩; refine ⟨_, rfl, ?_⟩; replace aa := Aside0.mk (nb aa.out hb); replace HB := Aside0.mk (below_step bw hb); (try clear hb)))
   go_roundg k1
   case measure => have := HK1.out; omega
   case rel => exact ⟨(wrap64 (x3_1 + 1)), (by first | rfl | (simp; done) | (simp [*]; done)), H', ⟨by have := HK1.out; omega⟩, ⟨by (with_reducible repeat (first | refine blk_drewN ?_ _ | refine blk_drew ?_ | refine blk_alloc ?_ _)); exact aa.out⟩, ⟨bw⟩⟩

end Go.Proofs.YtpgiagdpepkooaaDoor.P
