-- Printed by this session's program wip/xp.py (a turned copy of the kit's printer): functions, their contracts.
import Derived.Test.YtnmcknfkmelnbaaDoorPx0
import Derived.Test.YtnmcknfkmelnbaaDoorPx2
import Derived.Test.YtnmcknfkmelnbaaDoorPx3
import Derived.Test.YtnmcknfkmelnbaaDoorPx4
namespace Go.Proofs.YtnmcknfkmelnbaaDoor.P
open Go.RowKit Go.Proofs.YtnmcknfkmelnbaaDoorW.PrintWords Go.Proofs.YtnmcknfkmelnbaaDoorW.PrintLast Go.Proofs.YtnmcknfkmelnbaaDoorW.PrintMore
attribute [local go_sem] max2_int min2_int max_two min_two max_three min_three max_four min_four   -- for this text's walks alone
set_option linter.unusedVariables false
set_option linter.unusedSimpArgs false

attribute [local go_sem high] eqA89
/-! ### acceptor_none: function 41 -/
def acceptor_none.f (a0_0 : Int) (a0_1 : Int) : Option (Bool) := (acceptor_pair.f a0_0 a0_1).bind fun bt113 => (some (bt113.1 == 0 && (bt113.2 == 0)))
set_option maxHeartbeats 8000000 in
set_option maxRecDepth 100000 in
theorem acceptor_none.calls (a0_0 : Int) (a0_1 : Int) (r : Bool) (w : World) (h : acceptor_none.f a0_0 a0_1 = some r) :
  Calls Tryd.prog 41 #[.agg #[.int .i64 a0_0, .int .i64 a0_1]] w fun e w' => e = .returned (.bool r) ∧ Below w.heap.size w w' := by
 have hu23 := Tryd.underlying23
 have hu89 := Tryd.underlying89
 have HB := Aside0.mk (Below.refl w.heap.size w)
 have H : ((acceptor_pair.f a0_0 a0_1).bind fun bt113 => (some (bt113.1 == 0 && (bt113.2 == 0)))) = some r := h
 clear h
 replace H := Option.bind_eq_some_iff.mp H
 obtain ⟨⟨t113, t114⟩, A20, H⟩ := H
 replace H : (some (t113 == 0 && (t114 == 0))) = some r := H
 have A2 := Aside0.mk A20
 clear A20
 obtain rfl := Option.some.inj H
 go_enter Tryd.func41, Tryd.ntmps41
 go_wp2_with (first | ((with_reducible refine gate_dst (N := 1) rfl ?_); refine box_event ?hg (N := 1) ?hd (cs := #[.int .i64 a0_0, .int .i64 a0_1]) (t := 23) ?hr ?_; (case hd => rfl); (case hg => rfl); (case hr => first | (go_simp; done) | (go_simp; rfl)); intro ab hg w3 hbox hb; have n0_ := Aside0.mk (below_step bw hb); have n1_ := Aside0.mk (hbox); have n2_ := Aside0.mk ((g1 hg bw : w.heap.size ≤ ab)); have n3_ := Aside0.mk ((g1 hg bw : w.heap.size ≤ ab)); clear HB; have HB := n0_; have aa := n1_; have GW112 := n2_; have GE112 := n3_; clear n0_ n1_ n2_ n3_; clear hb hbox hg; obtain ⟨hcz4_0, hcz4_1, hfz4_0, hfz4_1⟩ := bx2 aa.out) | ((with_reducible refine gate_callee (f := 39) rfl ?_); refine goesL_ (some 4) rfl rfl Tryd.func39 (by kernel_rfl) rfl #[.agg #[.int .i64 a0_0, .int .i64 a0_1]] rfl am ?_; (with_reducible refine (acceptor_pair.calls a0_0 a0_1 t113 t114 _ A2.out).mono ?_); rintro e w5 ⟨rfl, hb⟩; refine ⟨_, rfl, ?_⟩; have n0_ := Aside0.mk (nb aa.out hb); have n1_ := Aside0.mk (below_step bw hb); clear aa; clear HB; have aa := n0_; have HB := n1_; clear n0_ n1_; (try clear hb)))
 go_ret
 exact ⟨er, bw⟩

/-! ### acceptor_right: function 37 -/
def acceptor_right.f (a0_0 : Int) (a0_1 : Int) (a0_2 : Int) (a0_3 : Int) (a0_4 : ByteArray) : Option (Bool) := (acceptor_Right.f a0_0 a0_1).bind fun t116 => (if t116 = true then ((acceptor_Less.f a0_0 a0_1 a0_2 a0_3).bind fun t117 => (if t117 = true then (some false) else (if (a0_4.size : Int) > 100000 then (some false) else ((acceptor_none.f a0_2 a0_3).bind fun t118 => (if t118 = true then (some (a0_4.toList == ([] : List UInt8))) else ((acceptor_Right.f a0_2 a0_3).bind fun t119 => (some t119))))))) else ((acceptor_none.f a0_0 a0_1).bind fun t120 => (if t120 = true then ((acceptor_Less.f a0_0 a0_1 a0_2 a0_3).bind fun t121 => (if t121 = true then (some false) else (if (a0_4.size : Int) > 100000 then (some false) else ((acceptor_none.f a0_2 a0_3).bind fun t122 => (if t122 = true then (some (a0_4.toList == ([] : List UInt8))) else ((acceptor_Right.f a0_2 a0_3).bind fun t123 => (some t123))))))) else (some false))))
set_option maxHeartbeats 8000000 in
set_option maxRecDepth 100000 in
theorem acceptor_right.calls (a0_0 : Int) (a0_1 : Int) (a0_2 : Int) (a0_3 : Int) (a0_4 : ByteArray) (r : Bool) (w : World) (h : acceptor_right.f a0_0 a0_1 a0_2 a0_3 a0_4 = some r) :
  Calls Tryd.prog 37 #[.agg #[.int .i64 a0_0, .int .i64 a0_1, .int .i64 a0_2, .int .i64 a0_3, .string a0_4]] w fun e w' => e = .returned (.bool r) ∧ Below w.heap.size w w' := by
 have hu34 := Tryd.underlying34
 have hu23 := Tryd.underlying23
 have HB := Aside0.mk (Below.refl w.heap.size w)
 have H : ((acceptor_Right.f a0_0 a0_1).bind fun t116 => (if t116 = true then ((acceptor_Less.f a0_0 a0_1 a0_2 a0_3).bind fun t117 => (if t117 = true then (some false) else (if (a0_4.size : Int) > 100000 then (some false) else ((acceptor_none.f a0_2 a0_3).bind fun t118 => (if t118 = true then (some (a0_4.toList == ([] : List UInt8))) else ((acceptor_Right.f a0_2 a0_3).bind fun t119 => (some t119))))))) else ((acceptor_none.f a0_0 a0_1).bind fun t120 => (if t120 = true then ((acceptor_Less.f a0_0 a0_1 a0_2 a0_3).bind fun t121 => (if t121 = true then (some false) else (if (a0_4.size : Int) > 100000 then (some false) else ((acceptor_none.f a0_2 a0_3).bind fun t122 => (if t122 = true then (some (a0_4.toList == ([] : List UInt8))) else ((acceptor_Right.f a0_2 a0_3).bind fun t123 => (some t123))))))) else (some false))))) = some r := h
 clear h
 replace H := Option.bind_eq_some_iff.mp H
 obtain ⟨t116, A20, H⟩ := H
 replace H : (if t116 = true then ((acceptor_Less.f a0_0 a0_1 a0_2 a0_3).bind fun t117 => (if t117 = true then (some false) else (if (a0_4.size : Int) > 100000 then (some false) else ((acceptor_none.f a0_2 a0_3).bind fun t118 => (if t118 = true then (some (a0_4.toList == ([] : List UInt8))) else ((acceptor_Right.f a0_2 a0_3).bind fun t119 => (some t119))))))) else ((acceptor_none.f a0_0 a0_1).bind fun t120 => (if t120 = true then ((acceptor_Less.f a0_0 a0_1 a0_2 a0_3).bind fun t121 => (if t121 = true then (some false) else (if (a0_4.size : Int) > 100000 then (some false) else ((acceptor_none.f a0_2 a0_3).bind fun t122 => (if t122 = true then (some (a0_4.toList == ([] : List UInt8))) else ((acceptor_Right.f a0_2 a0_3).bind fun t123 => (some t123))))))) else (some false)))) = some r := H
 have A2 := Aside0.mk A20
 clear A20
 by_cases c3 : t116 = true
 ·subst c3
  have H1 : ((acceptor_Less.f a0_0 a0_1 a0_2 a0_3).bind fun t117 => (if t117 = true then (some false) else (if (a0_4.size : Int) > 100000 then (some false) else ((acceptor_none.f a0_2 a0_3).bind fun t118 => (if t118 = true then (some (a0_4.toList == ([] : List UInt8))) else ((acceptor_Right.f a0_2 a0_3).bind fun t119 => (some t119))))))) = some r := by rw [if_pos rfl] at H; exact H
  clear H
  have H := H1
  clear H1
  replace H := Option.bind_eq_some_iff.mp H
  obtain ⟨t117, A40, H⟩ := H
  replace H : (if t117 = true then (some false) else (if (a0_4.size : Int) > 100000 then (some false) else ((acceptor_none.f a0_2 a0_3).bind fun t118 => (if t118 = true then (some (a0_4.toList == ([] : List UInt8))) else ((acceptor_Right.f a0_2 a0_3).bind fun t119 => (some t119)))))) = some r := H
  have A4 := Aside0.mk A40
  clear A40
  by_cases c5 : t117 = true
  ·subst c5
   have H1 : (some false) = some r := by rw [if_pos rfl] at H; exact H
   clear H
   have H := H1
   clear H1
   obtain rfl := Option.some.inj H
   go_enter Tryd.func37, Tryd.ntmps37
   go_wp2_with (first | ((with_reducible refine gate_dst (N := 1) rfl ?_); (try (refine gate_guard (by rfl) ?_; dsimp only)); refine box_event ?hg (N := 1) ?hd (cs := #[.int .i64 a0_0, .int .i64 a0_1, .int .i64 a0_2, .int .i64 a0_3, .string a0_4]) (t := 34) ?hr ?_; (case hd => rfl); (case hg => rfl); (case hr => first | (go_simp; done) | (go_simp; rfl)); intro ab hg w6 hbox hb; have n0_ := Aside0.mk (below_step bw hb); have n1_ := Aside0.mk (hbox); have n2_ := Aside0.mk ((g1 hg bw : w.heap.size ≤ ab)); have n3_ := Aside0.mk ((g1 hg bw : w.heap.size ≤ ab)); clear HB; have HB := n0_; have aa := n1_; have ac := n2_; have ad := n3_; clear n0_ n1_ n2_ n3_; clear hb hbox hg; obtain ⟨hcz7_0, hcz7_1, hcz7_2, hcz7_3, hcz7_4, hfz7_0, hfz7_1, hfz7_2, hfz7_3, hfz7_4⟩ := bx5 aa.out) | ((with_reducible refine gate_callee (f := 24) rfl ?_); refine goesL_ (some 5) rfl rfl Tryd.func24 (by kernel_rfl) rfl #[.agg #[.int .i64 a0_0, .int .i64 a0_1]] rfl am ?_; (with_reducible refine (acceptor_Right.calls a0_0 a0_1 true _ A2.out).mono ?_); rintro e w8 ⟨rfl, hb⟩; refine ⟨_, rfl, ?_⟩; have n0_ := Aside0.mk (nb aa.out hb); have n1_ := Aside0.mk (below_step bw hb); clear aa; clear HB; have aa := n0_; have HB := n1_; clear n0_ n1_; (try clear hb); obtain ⟨hcz9_0, hcz9_1, hcz9_2, hcz9_3, hcz9_4, hfz9_0, hfz9_1, hfz9_2, hfz9_3, hfz9_4⟩ := bx5 aa.out) | (go_at_call 29; (with_reducible refine (acceptor_Less.calls a0_0 a0_1 a0_2 a0_3 true _ A4.out).mono ?_); rintro e w10 ⟨rfl, hb⟩; have n0_ := Aside0.mk (nb aa.out hb); have n1_ := Aside0.mk (below_step bw hb); clear aa; clear HB; have aa := n0_; have HB := n1_; clear n0_ n1_; (try clear hb)))
   go_ret
   exact ⟨er, bw⟩
  replace c5 := Bool.eq_false_iff.mpr c5
  subst c5
  have H1 : (if (a0_4.size : Int) > 100000 then (some false) else ((acceptor_none.f a0_2 a0_3).bind fun t118 => (if t118 = true then (some (a0_4.toList == ([] : List UInt8))) else ((acceptor_Right.f a0_2 a0_3).bind fun t119 => (some t119))))) = some r := by rw [if_neg (show ¬ (false = true) by decide)] at H; exact H
  clear H
  have H := H1
  clear H1
  by_cases c11 : (a0_4.size : Int) > 100000
  ·rw [if_pos c11] at H
   have c11b0 : decide (100000 < (a0_4.size : Int)) = true := decide_eq_true c11
   have c11b1 : decide (100000 < a0_4.size) = true := decide_eq_true (by omega)
   clear c11
   obtain rfl := Option.some.inj H
   go_enter Tryd.func37, Tryd.ntmps37
   go_wp2_with (first | ((with_reducible refine gate_dst (N := 1) rfl ?_); (try (refine gate_guard (by rfl) ?_; dsimp only)); refine box_event ?hg (N := 1) ?hd (cs := #[.int .i64 a0_0, .int .i64 a0_1, .int .i64 a0_2, .int .i64 a0_3, .string a0_4]) (t := 34) ?hr ?_; (case hd => rfl); (case hg => rfl); (case hr => first | (go_simp; done) | (go_simp; rfl)); intro ab hg w12 hbox hb; have n0_ := Aside0.mk (below_step bw hb); have n1_ := Aside0.mk (hbox); have n2_ := Aside0.mk ((g1 hg bw : w.heap.size ≤ ab)); have n3_ := Aside0.mk ((g1 hg bw : w.heap.size ≤ ab)); clear HB; have HB := n0_; have aa := n1_; have ac := n2_; have ad := n3_; clear n0_ n1_ n2_ n3_; clear hb hbox hg; obtain ⟨hcz13_0, hcz13_1, hcz13_2, hcz13_3, hcz13_4, hfz13_0, hfz13_1, hfz13_2, hfz13_3, hfz13_4⟩ := bx5 aa.out) | ((with_reducible refine gate_callee (f := 24) rfl ?_); refine goesL_ (some 5) rfl rfl Tryd.func24 (by kernel_rfl) rfl #[.agg #[.int .i64 a0_0, .int .i64 a0_1]] rfl am ?_; (with_reducible refine (acceptor_Right.calls a0_0 a0_1 true _ A2.out).mono ?_); rintro e w14 ⟨rfl, hb⟩; refine ⟨_, rfl, ?_⟩; have n0_ := Aside0.mk (nb aa.out hb); have n1_ := Aside0.mk (below_step bw hb); clear aa; clear HB; have aa := n0_; have HB := n1_; clear n0_ n1_; (try clear hb); obtain ⟨hcz15_0, hcz15_1, hcz15_2, hcz15_3, hcz15_4, hfz15_0, hfz15_1, hfz15_2, hfz15_3, hfz15_4⟩ := bx5 aa.out) | (go_at_call 29; (with_reducible refine (acceptor_Less.calls a0_0 a0_1 a0_2 a0_3 false _ A4.out).mono ?_); rintro e w16 ⟨rfl, hb⟩; have n0_ := Aside0.mk (nb aa.out hb); have n1_ := Aside0.mk (below_step bw hb); clear aa; clear HB; have aa := n0_; have HB := n1_; clear n0_ n1_; (try clear hb); obtain ⟨hcz17_0, hcz17_1, hcz17_2, hcz17_3, hcz17_4, hfz17_0, hfz17_1, hfz17_2, hfz17_3, hfz17_4⟩ := bx5 aa.out))
   go_ret
   exact ⟨er, bw⟩
  rw [if_neg c11] at H
  have c11b0 : decide (100000 < (a0_4.size : Int)) = false := decide_eq_false c11
  have c11b1 : decide (100000 < a0_4.size) = false := decide_eq_false (by omega)
  clear c11
  replace H := Option.bind_eq_some_iff.mp H
  obtain ⟨t118, A180, H⟩ := H
  replace H : (if t118 = true then (some (a0_4.toList == ([] : List UInt8))) else ((acceptor_Right.f a0_2 a0_3).bind fun t119 => (some t119))) = some r := H
  have A18 := Aside0.mk A180
  clear A180
  by_cases c19 : t118 = true
  ·subst c19
   have H1 : (some (a0_4.toList == ([] : List UInt8))) = some r := by rw [if_pos rfl] at H; exact H
   clear H
   have H := H1
   clear H1
   obtain rfl := Option.some.inj H
   go_enter Tryd.func37, Tryd.ntmps37
   go_wp2_with (first | ((with_reducible refine gate_dst (N := 1) rfl ?_); (try (refine gate_guard (by rfl) ?_; dsimp only)); refine box_event ?hg (N := 1) ?hd (cs := #[.int .i64 a0_0, .int .i64 a0_1, .int .i64 a0_2, .int .i64 a0_3, .string a0_4]) (t := 34) ?hr ?_; (case hd => rfl); (case hg => rfl); (case hr => first | (go_simp; done) | (go_simp; rfl)); intro ab hg w20 hbox hb; have n0_ := Aside0.mk (below_step bw hb); have n1_ := Aside0.mk (hbox); have n2_ := Aside0.mk ((g1 hg bw : w.heap.size ≤ ab)); have n3_ := Aside0.mk ((g1 hg bw : w.heap.size ≤ ab)); clear HB; have HB := n0_; have aa := n1_; have ac := n2_; have ad := n3_; clear n0_ n1_ n2_ n3_; clear hb hbox hg; obtain ⟨hcz21_0, hcz21_1, hcz21_2, hcz21_3, hcz21_4, hfz21_0, hfz21_1, hfz21_2, hfz21_3, hfz21_4⟩ := bx5 aa.out) | ((with_reducible refine gate_callee (f := 24) rfl ?_); refine goesL_ (some 5) rfl rfl Tryd.func24 (by kernel_rfl) rfl #[.agg #[.int .i64 a0_0, .int .i64 a0_1]] rfl am ?_; (with_reducible refine (acceptor_Right.calls a0_0 a0_1 true _ A2.out).mono ?_); rintro e w22 ⟨rfl, hb⟩; refine ⟨_, rfl, ?_⟩; have n0_ := Aside0.mk (nb aa.out hb); have n1_ := Aside0.mk (below_step bw hb); clear aa; clear HB; have aa := n0_; have HB := n1_; clear n0_ n1_; (try clear hb); obtain ⟨hcz23_0, hcz23_1, hcz23_2, hcz23_3, hcz23_4, hfz23_0, hfz23_1, hfz23_2, hfz23_3, hfz23_4⟩ := bx5 aa.out) | (go_at_call 29; (with_reducible refine (acceptor_Less.calls a0_0 a0_1 a0_2 a0_3 false _ A4.out).mono ?_); rintro e w24 ⟨rfl, hb⟩; have n0_ := Aside0.mk (nb aa.out hb); have n1_ := Aside0.mk (below_step bw hb); clear aa; clear HB; have aa := n0_; have HB := n1_; clear n0_ n1_; (try clear hb); obtain ⟨hcz25_0, hcz25_1, hcz25_2, hcz25_3, hcz25_4, hfz25_0, hfz25_1, hfz25_2, hfz25_3, hfz25_4⟩ := bx5 aa.out) | ((with_reducible refine gate_callee (f := 41) rfl ?_); refine goesL_ (some 28) rfl rfl Tryd.func41 (by kernel_rfl) rfl #[.agg #[.int .i64 a0_2, .int .i64 a0_3]] rfl am ?_; (with_reducible refine (acceptor_none.calls a0_2 a0_3 true _ A18.out).mono ?_); rintro e w26 ⟨rfl, hb⟩; refine ⟨_, rfl, ?_⟩; have n0_ := Aside0.mk (nb aa.out hb); have n1_ := Aside0.mk (below_step bw hb); clear aa; clear HB; have aa := n0_; have HB := n1_; clear n0_ n1_; (try clear hb); obtain ⟨hcz27_0, hcz27_1, hcz27_2, hcz27_3, hcz27_4, hfz27_0, hfz27_1, hfz27_2, hfz27_3, hfz27_4⟩ := bx5 aa.out))
   go_ret
   exact ⟨er, bw⟩
  replace c19 := Bool.eq_false_iff.mpr c19
  subst c19
  have H1 : ((acceptor_Right.f a0_2 a0_3).bind fun t119 => (some t119)) = some r := by rw [if_neg (show ¬ (false = true) by decide)] at H; exact H
  clear H
  have H := H1
  clear H1
  replace H := Option.bind_eq_some_iff.mp H
  obtain ⟨t119, A280, H⟩ := H
  replace H : (some t119) = some r := H
  have A28 := Aside0.mk A280
  clear A280
  obtain rfl := Option.some.inj H
  go_enter Tryd.func37, Tryd.ntmps37
  go_wp2_with (first | ((with_reducible refine gate_dst (N := 1) rfl ?_); (try (refine gate_guard (by rfl) ?_; dsimp only)); refine box_event ?hg (N := 1) ?hd (cs := #[.int .i64 a0_0, .int .i64 a0_1, .int .i64 a0_2, .int .i64 a0_3, .string a0_4]) (t := 34) ?hr ?_; (case hd => rfl); (case hg => rfl); (case hr => first | (go_simp; done) | (go_simp; rfl)); intro ab hg w29 hbox hb; have n0_ := Aside0.mk (below_step bw hb); have n1_ := Aside0.mk (hbox); have n2_ := Aside0.mk ((g1 hg bw : w.heap.size ≤ ab)); have n3_ := Aside0.mk ((g1 hg bw : w.heap.size ≤ ab)); clear HB; have HB := n0_; have aa := n1_; have ac := n2_; have ad := n3_; clear n0_ n1_ n2_ n3_; clear hb hbox hg; obtain ⟨hcz30_0, hcz30_1, hcz30_2, hcz30_3, hcz30_4, hfz30_0, hfz30_1, hfz30_2, hfz30_3, hfz30_4⟩ := bx5 aa.out) | ((with_reducible refine gate_callee (f := 24) rfl ?_); refine goesL_ (some 5) rfl rfl Tryd.func24 (by kernel_rfl) rfl #[.agg #[.int .i64 a0_0, .int .i64 a0_1]] rfl am ?_; (with_reducible refine (acceptor_Right.calls a0_0 a0_1 true _ A2.out).mono ?_); rintro e w31 ⟨rfl, hb⟩; refine ⟨_, rfl, ?_⟩; have n0_ := Aside0.mk (nb aa.out hb); have n1_ := Aside0.mk (below_step bw hb); clear aa; clear HB; have aa := n0_; have HB := n1_; clear n0_ n1_; (try clear hb); obtain ⟨hcz32_0, hcz32_1, hcz32_2, hcz32_3, hcz32_4, hfz32_0, hfz32_1, hfz32_2, hfz32_3, hfz32_4⟩ := bx5 aa.out) | (go_at_call 29; (with_reducible refine (acceptor_Less.calls a0_0 a0_1 a0_2 a0_3 false _ A4.out).mono ?_); rintro e w33 ⟨rfl, hb⟩; have n0_ := Aside0.mk (nb aa.out hb); have n1_ := Aside0.mk (below_step bw hb); clear aa; clear HB; have aa := n0_; have HB := n1_; clear n0_ n1_; (try clear hb); obtain ⟨hcz34_0, hcz34_1, hcz34_2, hcz34_3, hcz34_4, hfz34_0, hfz34_1, hfz34_2, hfz34_3, hfz34_4⟩ := bx5 aa.out) | ((with_reducible refine gate_callee (f := 41) rfl ?_); refine goesL_ (some 28) rfl rfl Tryd.func41 (by kernel_rfl) rfl #[.agg #[.int .i64 a0_2, .int .i64 a0_3]] rfl am ?_; (with_reducible refine (acceptor_none.calls a0_2 a0_3 false _ A18.out).mono ?_); rintro e w35 ⟨rfl, hb⟩; refine ⟨_, rfl, ?_⟩; have n0_ := Aside0.mk (nb aa.out hb); have n1_ := Aside0.mk (below_step bw hb); clear aa; clear HB; have aa := n0_; have HB := n1_; clear n0_ n1_; (try clear hb); obtain ⟨hcz36_0, hcz36_1, hcz36_2, hcz36_3, hcz36_4, hfz36_0, hfz36_1, hfz36_2, hfz36_3, hfz36_4⟩ := bx5 aa.out) | ((with_reducible refine gate_callee (f := 24) rfl ?_); refine goesL_ (some 34) rfl rfl Tryd.func24 (by kernel_rfl) rfl #[.agg #[.int .i64 a0_2, .int .i64 a0_3]] rfl am ?_; (with_reducible refine (acceptor_Right.calls a0_2 a0_3 t119 _ A28.out).mono ?_); rintro e w37 ⟨rfl, hb⟩; refine ⟨_, rfl, ?_⟩; have n0_ := Aside0.mk (nb aa.out hb); have n1_ := Aside0.mk (below_step bw hb); clear aa; clear HB; have aa := n0_; have HB := n1_; clear n0_ n1_; (try clear hb)))
  go_ret
  exact ⟨er, bw⟩
 replace c3 := Bool.eq_false_iff.mpr c3
 subst c3
 have H1 : ((acceptor_none.f a0_0 a0_1).bind fun t120 => (if t120 = true then ((acceptor_Less.f a0_0 a0_1 a0_2 a0_3).bind fun t121 => (if t121 = true then (some false) else (if (a0_4.size : Int) > 100000 then (some false) else ((acceptor_none.f a0_2 a0_3).bind fun t122 => (if t122 = true then (some (a0_4.toList == ([] : List UInt8))) else ((acceptor_Right.f a0_2 a0_3).bind fun t123 => (some t123))))))) else (some false))) = some r := by rw [if_neg (show ¬ (false = true) by decide)] at H; exact H
 clear H
 have H := H1
 clear H1
 replace H := Option.bind_eq_some_iff.mp H
 obtain ⟨t120, A380, H⟩ := H
 replace H : (if t120 = true then ((acceptor_Less.f a0_0 a0_1 a0_2 a0_3).bind fun t121 => (if t121 = true then (some false) else (if (a0_4.size : Int) > 100000 then (some false) else ((acceptor_none.f a0_2 a0_3).bind fun t122 => (if t122 = true then (some (a0_4.toList == ([] : List UInt8))) else ((acceptor_Right.f a0_2 a0_3).bind fun t123 => (some t123))))))) else (some false)) = some r := H
 have A38 := Aside0.mk A380
 clear A380
 by_cases c39 : t120 = true; rotate_left
 ·replace c39 := Bool.eq_false_iff.mpr c39
  subst c39
  have H1 : (some false) = some r := by rw [if_neg (show ¬ (false = true) by decide)] at H; exact H
  clear H
  have H := H1
  clear H1
  obtain rfl := Option.some.inj H
  go_enter Tryd.func37, Tryd.ntmps37
  go_wp2_with (first | ((with_reducible refine gate_dst (N := 1) rfl ?_); (try (refine gate_guard (by rfl) ?_; dsimp only)); refine box_event ?hg (N := 1) ?hd (cs := #[.int .i64 a0_0, .int .i64 a0_1, .int .i64 a0_2, .int .i64 a0_3, .string a0_4]) (t := 34) ?hr ?_; (case hd => rfl); (case hg => rfl); (case hr => first | (go_simp; done) | (go_simp; rfl)); intro ab hg w82 hbox hb; have n0_ := Aside0.mk (below_step bw hb); have n1_ := Aside0.mk (hbox); have n2_ := Aside0.mk ((g1 hg bw : w.heap.size ≤ ab)); have n3_ := Aside0.mk ((g1 hg bw : w.heap.size ≤ ab)); clear HB; have HB := n0_; have aa := n1_; have ac := n2_; have ad := n3_; clear n0_ n1_ n2_ n3_; clear hb hbox hg; obtain ⟨hcz83_0, hcz83_1, hcz83_2, hcz83_3, hcz83_4, hfz83_0, hfz83_1, hfz83_2, hfz83_3, hfz83_4⟩ := bx5 aa.out) | ((with_reducible refine gate_callee (f := 24) rfl ?_); refine goesL_ (some 5) rfl rfl Tryd.func24 (by kernel_rfl) rfl #[.agg #[.int .i64 a0_0, .int .i64 a0_1]] rfl am ?_; (with_reducible refine (acceptor_Right.calls a0_0 a0_1 false _ A2.out).mono ?_); rintro e w84 ⟨rfl, hb⟩; refine ⟨_, rfl, ?_⟩; have n0_ := Aside0.mk (nb aa.out hb); have n1_ := Aside0.mk (below_step bw hb); clear aa; clear HB; have aa := n0_; have HB := n1_; clear n0_ n1_; (try clear hb); obtain ⟨hcz85_0, hcz85_1, hcz85_2, hcz85_3, hcz85_4, hfz85_0, hfz85_1, hfz85_2, hfz85_3, hfz85_4⟩ := bx5 aa.out) | (go_at_call 41; (with_reducible refine (acceptor_none.calls a0_0 a0_1 false _ A38.out).mono ?_); rintro e w86 ⟨rfl, hb⟩; have n0_ := Aside0.mk (nb aa.out hb); have n1_ := Aside0.mk (below_step bw hb); clear aa; clear HB; have aa := n0_; have HB := n1_; clear n0_ n1_; (try clear hb)))
  go_ret
  exact ⟨er, bw⟩
 subst c39
 have H1 : ((acceptor_Less.f a0_0 a0_1 a0_2 a0_3).bind fun t121 => (if t121 = true then (some false) else (if (a0_4.size : Int) > 100000 then (some false) else ((acceptor_none.f a0_2 a0_3).bind fun t122 => (if t122 = true then (some (a0_4.toList == ([] : List UInt8))) else ((acceptor_Right.f a0_2 a0_3).bind fun t123 => (some t123))))))) = some r := by rw [if_pos rfl] at H; exact H
 clear H
 have H := H1
 clear H1
 replace H := Option.bind_eq_some_iff.mp H
 obtain ⟨t121, A400, H⟩ := H
 replace H : (if t121 = true then (some false) else (if (a0_4.size : Int) > 100000 then (some false) else ((acceptor_none.f a0_2 a0_3).bind fun t122 => (if t122 = true then (some (a0_4.toList == ([] : List UInt8))) else ((acceptor_Right.f a0_2 a0_3).bind fun t123 => (some t123)))))) = some r := H
 have A40 := Aside0.mk A400
 clear A400
 by_cases c41 : t121 = true
 ·subst c41
  have H1 : (some false) = some r := by rw [if_pos rfl] at H; exact H
  clear H
  have H := H1
  clear H1
  obtain rfl := Option.some.inj H
  go_enter Tryd.func37, Tryd.ntmps37
  go_wp2_with (first | ((with_reducible refine gate_dst (N := 1) rfl ?_); (try (refine gate_guard (by rfl) ?_; dsimp only)); refine box_event ?hg (N := 1) ?hd (cs := #[.int .i64 a0_0, .int .i64 a0_1, .int .i64 a0_2, .int .i64 a0_3, .string a0_4]) (t := 34) ?hr ?_; (case hd => rfl); (case hg => rfl); (case hr => first | (go_simp; done) | (go_simp; rfl)); intro ab hg w42 hbox hb; have n0_ := Aside0.mk (below_step bw hb); have n1_ := Aside0.mk (hbox); have n2_ := Aside0.mk ((g1 hg bw : w.heap.size ≤ ab)); have n3_ := Aside0.mk ((g1 hg bw : w.heap.size ≤ ab)); clear HB; have HB := n0_; have aa := n1_; have ac := n2_; have ad := n3_; clear n0_ n1_ n2_ n3_; clear hb hbox hg; obtain ⟨hcz43_0, hcz43_1, hcz43_2, hcz43_3, hcz43_4, hfz43_0, hfz43_1, hfz43_2, hfz43_3, hfz43_4⟩ := bx5 aa.out) | ((with_reducible refine gate_callee (f := 24) rfl ?_); refine goesL_ (some 5) rfl rfl Tryd.func24 (by kernel_rfl) rfl #[.agg #[.int .i64 a0_0, .int .i64 a0_1]] rfl am ?_; (with_reducible refine (acceptor_Right.calls a0_0 a0_1 false _ A2.out).mono ?_); rintro e w44 ⟨rfl, hb⟩; refine ⟨_, rfl, ?_⟩; have n0_ := Aside0.mk (nb aa.out hb); have n1_ := Aside0.mk (below_step bw hb); clear aa; clear HB; have aa := n0_; have HB := n1_; clear n0_ n1_; (try clear hb); obtain ⟨hcz45_0, hcz45_1, hcz45_2, hcz45_3, hcz45_4, hfz45_0, hfz45_1, hfz45_2, hfz45_3, hfz45_4⟩ := bx5 aa.out) | (go_at_call 41; (with_reducible refine (acceptor_none.calls a0_0 a0_1 true _ A38.out).mono ?_); rintro e w46 ⟨rfl, hb⟩; have n0_ := Aside0.mk (nb aa.out hb); have n1_ := Aside0.mk (below_step bw hb); clear aa; clear HB; have aa := n0_; have HB := n1_; clear n0_ n1_; (try clear hb); obtain ⟨hcz47_0, hcz47_1, hcz47_2, hcz47_3, hcz47_4, hfz47_0, hfz47_1, hfz47_2, hfz47_3, hfz47_4⟩ := bx5 aa.out) | (go_at_call 29; (with_reducible refine (acceptor_Less.calls a0_0 a0_1 a0_2 a0_3 true _ A40.out).mono ?_); rintro e w48 ⟨rfl, hb⟩; have n0_ := Aside0.mk (nb aa.out hb); have n1_ := Aside0.mk (below_step bw hb); clear aa; clear HB; have aa := n0_; have HB := n1_; clear n0_ n1_; (try clear hb)))
  go_ret
  exact ⟨er, bw⟩
 replace c41 := Bool.eq_false_iff.mpr c41
 subst c41
 have H1 : (if (a0_4.size : Int) > 100000 then (some false) else ((acceptor_none.f a0_2 a0_3).bind fun t122 => (if t122 = true then (some (a0_4.toList == ([] : List UInt8))) else ((acceptor_Right.f a0_2 a0_3).bind fun t123 => (some t123))))) = some r := by rw [if_neg (show ¬ (false = true) by decide)] at H; exact H
 clear H
 have H := H1
 clear H1
 by_cases c49 : (a0_4.size : Int) > 100000
 ·rw [if_pos c49] at H
  have c49b0 : decide (100000 < (a0_4.size : Int)) = true := decide_eq_true c49
  have c49b1 : decide (100000 < a0_4.size) = true := decide_eq_true (by omega)
  clear c49
  obtain rfl := Option.some.inj H
  go_enter Tryd.func37, Tryd.ntmps37
  go_wp2_with (first | ((with_reducible refine gate_dst (N := 1) rfl ?_); (try (refine gate_guard (by rfl) ?_; dsimp only)); refine box_event ?hg (N := 1) ?hd (cs := #[.int .i64 a0_0, .int .i64 a0_1, .int .i64 a0_2, .int .i64 a0_3, .string a0_4]) (t := 34) ?hr ?_; (case hd => rfl); (case hg => rfl); (case hr => first | (go_simp; done) | (go_simp; rfl)); intro ab hg w50 hbox hb; have n0_ := Aside0.mk (below_step bw hb); have n1_ := Aside0.mk (hbox); have n2_ := Aside0.mk ((g1 hg bw : w.heap.size ≤ ab)); have n3_ := Aside0.mk ((g1 hg bw : w.heap.size ≤ ab)); clear HB; have HB := n0_; have aa := n1_; have ac := n2_; have ad := n3_; clear n0_ n1_ n2_ n3_; clear hb hbox hg; obtain ⟨hcz51_0, hcz51_1, hcz51_2, hcz51_3, hcz51_4, hfz51_0, hfz51_1, hfz51_2, hfz51_3, hfz51_4⟩ := bx5 aa.out) | ((with_reducible refine gate_callee (f := 24) rfl ?_); refine goesL_ (some 5) rfl rfl Tryd.func24 (by kernel_rfl) rfl #[.agg #[.int .i64 a0_0, .int .i64 a0_1]] rfl am ?_; (with_reducible refine (acceptor_Right.calls a0_0 a0_1 false _ A2.out).mono ?_); rintro e w52 ⟨rfl, hb⟩; refine ⟨_, rfl, ?_⟩; have n0_ := Aside0.mk (nb aa.out hb); have n1_ := Aside0.mk (below_step bw hb); clear aa; clear HB; have aa := n0_; have HB := n1_; clear n0_ n1_; (try clear hb); obtain ⟨hcz53_0, hcz53_1, hcz53_2, hcz53_3, hcz53_4, hfz53_0, hfz53_1, hfz53_2, hfz53_3, hfz53_4⟩ := bx5 aa.out) | (go_at_call 41; (with_reducible refine (acceptor_none.calls a0_0 a0_1 true _ A38.out).mono ?_); rintro e w54 ⟨rfl, hb⟩; have n0_ := Aside0.mk (nb aa.out hb); have n1_ := Aside0.mk (below_step bw hb); clear aa; clear HB; have aa := n0_; have HB := n1_; clear n0_ n1_; (try clear hb); obtain ⟨hcz55_0, hcz55_1, hcz55_2, hcz55_3, hcz55_4, hfz55_0, hfz55_1, hfz55_2, hfz55_3, hfz55_4⟩ := bx5 aa.out) | (go_at_call 29; (with_reducible refine (acceptor_Less.calls a0_0 a0_1 a0_2 a0_3 false _ A40.out).mono ?_); rintro e w56 ⟨rfl, hb⟩; have n0_ := Aside0.mk (nb aa.out hb); have n1_ := Aside0.mk (below_step bw hb); clear aa; clear HB; have aa := n0_; have HB := n1_; clear n0_ n1_; (try clear hb); obtain ⟨hcz57_0, hcz57_1, hcz57_2, hcz57_3, hcz57_4, hfz57_0, hfz57_1, hfz57_2, hfz57_3, hfz57_4⟩ := bx5 aa.out))
  go_ret
  exact ⟨er, bw⟩
 rw [if_neg c49] at H
 have c49b0 : decide (100000 < (a0_4.size : Int)) = false := decide_eq_false c49
 have c49b1 : decide (100000 < a0_4.size) = false := decide_eq_false (by omega)
 clear c49
 replace H := Option.bind_eq_some_iff.mp H
 obtain ⟨t122, A580, H⟩ := H
 replace H : (if t122 = true then (some (a0_4.toList == ([] : List UInt8))) else ((acceptor_Right.f a0_2 a0_3).bind fun t123 => (some t123))) = some r := H
 have A58 := Aside0.mk A580
 clear A580
 by_cases c59 : t122 = true
 ·subst c59
  have H1 : (some (a0_4.toList == ([] : List UInt8))) = some r := by rw [if_pos rfl] at H; exact H
  clear H
  have H := H1
  clear H1
  obtain rfl := Option.some.inj H
  go_enter Tryd.func37, Tryd.ntmps37
  go_wp2_with (first | ((with_reducible refine gate_dst (N := 1) rfl ?_); (try (refine gate_guard (by rfl) ?_; dsimp only)); refine box_event ?hg (N := 1) ?hd (cs := #[.int .i64 a0_0, .int .i64 a0_1, .int .i64 a0_2, .int .i64 a0_3, .string a0_4]) (t := 34) ?hr ?_; (case hd => rfl); (case hg => rfl); (case hr => first | (go_simp; done) | (go_simp; rfl)); intro ab hg w60 hbox hb; have n0_ := Aside0.mk (below_step bw hb); have n1_ := Aside0.mk (hbox); have n2_ := Aside0.mk ((g1 hg bw : w.heap.size ≤ ab)); have n3_ := Aside0.mk ((g1 hg bw : w.heap.size ≤ ab)); clear HB; have HB := n0_; have aa := n1_; have ac := n2_; have ad := n3_; clear n0_ n1_ n2_ n3_; clear hb hbox hg; obtain ⟨hcz61_0, hcz61_1, hcz61_2, hcz61_3, hcz61_4, hfz61_0, hfz61_1, hfz61_2, hfz61_3, hfz61_4⟩ := bx5 aa.out) | ((with_reducible refine gate_callee (f := 24) rfl ?_); refine goesL_ (some 5) rfl rfl Tryd.func24 (by kernel_rfl) rfl #[.agg #[.int .i64 a0_0, .int .i64 a0_1]] rfl am ?_; (with_reducible refine (acceptor_Right.calls a0_0 a0_1 false _ A2.out).mono ?_); rintro e w62 ⟨rfl, hb⟩; refine ⟨_, rfl, ?_⟩; have n0_ := Aside0.mk (nb aa.out hb); have n1_ := Aside0.mk (below_step bw hb); clear aa; clear HB; have aa := n0_; have HB := n1_; clear n0_ n1_; (try clear hb); obtain ⟨hcz63_0, hcz63_1, hcz63_2, hcz63_3, hcz63_4, hfz63_0, hfz63_1, hfz63_2, hfz63_3, hfz63_4⟩ := bx5 aa.out) | (go_at_call 41; (with_reducible refine (acceptor_none.calls a0_0 a0_1 true _ A38.out).mono ?_); rintro e w64 ⟨rfl, hb⟩; have n0_ := Aside0.mk (nb aa.out hb); have n1_ := Aside0.mk (below_step bw hb); clear aa; clear HB; have aa := n0_; have HB := n1_; clear n0_ n1_; (try clear hb); obtain ⟨hcz65_0, hcz65_1, hcz65_2, hcz65_3, hcz65_4, hfz65_0, hfz65_1, hfz65_2, hfz65_3, hfz65_4⟩ := bx5 aa.out) | (go_at_call 29; (with_reducible refine (acceptor_Less.calls a0_0 a0_1 a0_2 a0_3 false _ A40.out).mono ?_); rintro e w66 ⟨rfl, hb⟩; have n0_ := Aside0.mk (nb aa.out hb); have n1_ := Aside0.mk (below_step bw hb); clear aa; clear HB; have aa := n0_; have HB := n1_; clear n0_ n1_; (try clear hb); obtain ⟨hcz67_0, hcz67_1, hcz67_2, hcz67_3, hcz67_4, hfz67_0, hfz67_1, hfz67_2, hfz67_3, hfz67_4⟩ := bx5 aa.out) | ((with_reducible refine gate_callee (f := 41) rfl ?_); refine goesL_ (some 28) rfl rfl Tryd.func41 (by kernel_rfl) rfl #[.agg #[.int .i64 a0_2, .int .i64 a0_3]] rfl am ?_; (with_reducible refine (acceptor_none.calls a0_2 a0_3 true _ A58.out).mono ?_); rintro e w68 ⟨rfl, hb⟩; refine ⟨_, rfl, ?_⟩; have n0_ := Aside0.mk (nb aa.out hb); have n1_ := Aside0.mk (below_step bw hb); clear aa; clear HB; have aa := n0_; have HB := n1_; clear n0_ n1_; (try clear hb); obtain ⟨hcz69_0, hcz69_1, hcz69_2, hcz69_3, hcz69_4, hfz69_0, hfz69_1, hfz69_2, hfz69_3, hfz69_4⟩ := bx5 aa.out))
  go_ret
  exact ⟨er, bw⟩
 replace c59 := Bool.eq_false_iff.mpr c59
 subst c59
 have H1 : ((acceptor_Right.f a0_2 a0_3).bind fun t123 => (some t123)) = some r := by rw [if_neg (show ¬ (false = true) by decide)] at H; exact H
 clear H
 have H := H1
 clear H1
 replace H := Option.bind_eq_some_iff.mp H
 obtain ⟨t123, A700, H⟩ := H
 replace H : (some t123) = some r := H
 have A70 := Aside0.mk A700
 clear A700
 obtain rfl := Option.some.inj H
 go_enter Tryd.func37, Tryd.ntmps37
 go_wp2_with (first | ((with_reducible refine gate_dst (N := 1) rfl ?_); (try (refine gate_guard (by rfl) ?_; dsimp only)); refine box_event ?hg (N := 1) ?hd (cs := #[.int .i64 a0_0, .int .i64 a0_1, .int .i64 a0_2, .int .i64 a0_3, .string a0_4]) (t := 34) ?hr ?_; (case hd => rfl); (case hg => rfl); (case hr => first | (go_simp; done) | (go_simp; rfl)); intro ab hg w71 hbox hb; have n0_ := Aside0.mk (below_step bw hb); have n1_ := Aside0.mk (hbox); have n2_ := Aside0.mk ((g1 hg bw : w.heap.size ≤ ab)); have n3_ := Aside0.mk ((g1 hg bw : w.heap.size ≤ ab)); clear HB; have HB := n0_; have aa := n1_; have ac := n2_; have ad := n3_; clear n0_ n1_ n2_ n3_; clear hb hbox hg; obtain ⟨hcz72_0, hcz72_1, hcz72_2, hcz72_3, hcz72_4, hfz72_0, hfz72_1, hfz72_2, hfz72_3, hfz72_4⟩ := bx5 aa.out) | ((with_reducible refine gate_callee (f := 24) rfl ?_); refine goesL_ (some 5) rfl rfl Tryd.func24 (by kernel_rfl) rfl #[.agg #[.int .i64 a0_0, .int .i64 a0_1]] rfl am ?_; (with_reducible refine (acceptor_Right.calls a0_0 a0_1 false _ A2.out).mono ?_); rintro e w73 ⟨rfl, hb⟩; refine ⟨_, rfl, ?_⟩; have n0_ := Aside0.mk (nb aa.out hb); have n1_ := Aside0.mk (below_step bw hb); clear aa; clear HB; have aa := n0_; have HB := n1_; clear n0_ n1_; (try clear hb); obtain ⟨hcz74_0, hcz74_1, hcz74_2, hcz74_3, hcz74_4, hfz74_0, hfz74_1, hfz74_2, hfz74_3, hfz74_4⟩ := bx5 aa.out) | (go_at_call 41; (with_reducible refine (acceptor_none.calls a0_0 a0_1 true _ A38.out).mono ?_); rintro e w75 ⟨rfl, hb⟩; have n0_ := Aside0.mk (nb aa.out hb); have n1_ := Aside0.mk (below_step bw hb); clear aa; clear HB; have aa := n0_; have HB := n1_; clear n0_ n1_; (try clear hb); obtain ⟨hcz76_0, hcz76_1, hcz76_2, hcz76_3, hcz76_4, hfz76_0, hfz76_1, hfz76_2, hfz76_3, hfz76_4⟩ := bx5 aa.out) | (go_at_call 29; (with_reducible refine (acceptor_Less.calls a0_0 a0_1 a0_2 a0_3 false _ A40.out).mono ?_); rintro e w77 ⟨rfl, hb⟩; have n0_ := Aside0.mk (nb aa.out hb); have n1_ := Aside0.mk (below_step bw hb); clear aa; clear HB; have aa := n0_; have HB := n1_; clear n0_ n1_; (try clear hb); obtain ⟨hcz78_0, hcz78_1, hcz78_2, hcz78_3, hcz78_4, hfz78_0, hfz78_1, hfz78_2, hfz78_3, hfz78_4⟩ := bx5 aa.out) | ((with_reducible refine gate_callee (f := 41) rfl ?_); refine goesL_ (some 28) rfl rfl Tryd.func41 (by kernel_rfl) rfl #[.agg #[.int .i64 a0_2, .int .i64 a0_3]] rfl am ?_; (with_reducible refine (acceptor_none.calls a0_2 a0_3 false _ A58.out).mono ?_); rintro e w79 ⟨rfl, hb⟩; refine ⟨_, rfl, ?_⟩; have n0_ := Aside0.mk (nb aa.out hb); have n1_ := Aside0.mk (below_step bw hb); clear aa; clear HB; have aa := n0_; have HB := n1_; clear n0_ n1_; (try clear hb); obtain ⟨hcz80_0, hcz80_1, hcz80_2, hcz80_3, hcz80_4, hfz80_0, hfz80_1, hfz80_2, hfz80_3, hfz80_4⟩ := bx5 aa.out) | ((with_reducible refine gate_callee (f := 24) rfl ?_); refine goesL_ (some 34) rfl rfl Tryd.func24 (by kernel_rfl) rfl #[.agg #[.int .i64 a0_2, .int .i64 a0_3]] rfl am ?_; (with_reducible refine (acceptor_Right.calls a0_2 a0_3 t123 _ A70.out).mono ?_); rintro e w81 ⟨rfl, hb⟩; refine ⟨_, rfl, ?_⟩; have n0_ := Aside0.mk (nb aa.out hb); have n1_ := Aside0.mk (below_step bw hb); clear aa; clear HB; have aa := n0_; have HB := n1_; clear n0_ n1_; (try clear hb)))
 go_ret
 exact ⟨er, bw⟩

/-! ### codec_put: function 42 -/
def codec_put.l0 : Nat → List Int → Int → Int → Option (List Int)
 | 0, _, _, _ => none
 | k + 1, x0, x1, x7 => if x7 ≥ 0 then (if 0 ≤ x7 then (if x0.length < 140737488355328 then (codec_put.l0 k (x0 ++ [(shr .u64 x1 x7) % 256]) x1 (wrap64 (x7 - 8))) else (none)) else (none)) else (some x0)
def codec_put.f (k : Nat) (l0 : List Int) (a1 : Int) (a2 : Int) : Option (List Int) := codec_put.l0 k l0 a1 (wrap64 (8 * (wrap64 (a2 - 1))))
theorem codec_put.mono_l : ∀ k, (∀ y0 y1 y2, LeO (codec_put.l0 k y0 y1 y2) (codec_put.l0 (k + 1) y0 y1 y2))
 | 0 => fun _ _ _ r h => by simp [codec_put.l0] at h
 | k + 1 => by
  have ih0 := codec_put.mono_l k
  ·intro y0 y1 y2
   unfold codec_put.l0
   repeat' first
   | (with_reducible exact ih0 _ _ _)
   | (with_reducible exact LeO.refl _)
   | (with_reducible exact LeO.none _)
   | (with_reducible refine LeO.ite ?_ ?_)
   | (with_reducible refine LeO.bind ?_ (fun _ => ?_))
   | exact ih0 _ _ _
   | exact LeO.none _
   | refine LeO.ite ?_ ?_
   | refine LeO.bind ?_ (fun _ => ?_)
theorem codec_put.mono : ∀ a0 a1 a2 k, LeO (codec_put.f k a0 a1 a2) (codec_put.f (k + 1) a0 a1 a2) := by
 intro a0 a1 a2 k
 have ih0 := codec_put.mono_l k
 unfold codec_put.f
 repeat' first
   | (with_reducible exact ih0 _ _ _)
   | (with_reducible exact LeO.refl _)
   | (with_reducible exact LeO.none _)
   | (with_reducible refine LeO.ite ?_ ?_)
   | (with_reducible refine LeO.bind ?_ (fun _ => ?_))
   | exact ih0 _ _ _
   | exact LeO.none _
   | refine LeO.ite ?_ ?_
   | refine LeO.bind ?_ (fun _ => ?_)
set_option maxHeartbeats 8000000 in
set_option maxRecDepth 100000 in
theorem codec_put.calls (k : Nat) (P0_ : Nat → Prop) (u9000_ : Value) (l0 : List Int) (a1 : Int) (a2 : Int) (r : List Int) (w0 w : World) (hB : Below w0.heap.size w0 w) (ho0 : Kd.R (Kd.int .u8) 5 w w0.heap.size P0_ u9000_ l0) (h : codec_put.f k l0 a1 a2 = some r) :
  Calls Tryd.prog 42 #[u9000_, .int .u64 a1, .int .i64 a2] w fun e w' => ∃ v0_ : Value, e = .returned (v0_) ∧ Kd.R (Kd.int .u8) 5 w' w0.heap.size (fun k_ => (P0_ k_ ∨ w.heap.size ≤ k_)) v0_ r ∧ Below w0.heap.size w0 w' ∧ Kept w w' (fun k_ => P0_ k_) := by
 have HO0 := Aside0.mk (show Kd.R (Kd.int .u8) 5 w w0.heap.size (fun k_ => (P0_ k_ ∨ w.heap.size ≤ k_)) u9000_ l0 from Kd.R_mono ho0 (fun k_ hk => (.inl hk)))
 have HK := Aside0.mk (Kept.refl w (fun k_ => P0_ k_))
 have HW0 := Aside0.mk hB.size
 have HB := Aside0.mk hB
 clear hB
 have H : (codec_put.l0 k l0 a1 (wrap64 (8 * (wrap64 (a2 - 1))))) = some r := h
 clear h
 have H' := Aside0.mk H
 clear H
 go_enter Tryd.func42, Tryd.ntmps42
 go_wp2
 go_loopg [0, 7] k (fun kq v0 v7 w' => ∃ (x0_1 : List Int) (x7_1 : Int), v7 = .int .i64 x7_1 ∧ Aside0 (codec_put.l0 kq x0_1 a1 x7_1 = some r) ∧ Aside0 (kq ≤ k) ∧ Aside0 (Kd.R (Kd.int .u8) 5 w' w0.heap.size (fun k_ => (P0_ k_ ∨ w.heap.size ≤ k_)) v0 x0_1) ∧ Aside0 (Kept w w' (fun k_ => P0_ k_)) ∧ Aside0 (Below w0.heap.size w0 w'))
 case atStart => exact ⟨(l0), (wrap64 (8 * (wrap64 (a2 - 1)))), (by first | rfl | (simp; done) | (simp [*]; done)), H', ⟨Nat.le_refl _⟩, ⟨by (with_reducible repeat (first | apply Kd.R_alloc | apply Kd.R_drewN | apply Kd.R_drew)); exact HO0.out⟩, ⟨by repeat (first | (with_reducible first | exact HK.out | apply Kept.alloc | apply Kept.drewN | apply Kept.drew) | exact HK.out)⟩, ⟨bw⟩⟩
 case round =>
  clear H'
  try clear p2
  obtain ⟨x0_1, x7_1, rfl, HA, HK1, aa, HK, HB⟩ := hrel
  cases gk with
  | zero => exact absurd HA.out (by simp [codec_put.l0])
  | succ k1 =>
   have H := HA.out
   clear HA
   simp only [codec_put.l0] at H
   by_cases c4 : x7_1 ≥ 0; rotate_left
   ·rw [if_neg c4] at H
    have c4b0 : decide (0 ≤ x7_1) = false := decide_eq_false c4
    clear c4
    obtain rfl := Option.some.inj H
    go_wp2
    go_ret
    exact ⟨_, er, by (with_reducible repeat (first | apply Kd.R_alloc | apply Kd.R_drewN | apply Kd.R_drew)); exact aa.out, bw, by repeat (first | (with_reducible first | exact HK.out | apply Kept.alloc | apply Kept.drewN | apply Kept.drew) | exact HK.out)⟩
   rw [if_pos c4] at H
   have c4b0 : decide (0 ≤ x7_1) = true := decide_eq_true c4
   clear c4
   by_cases c5 : 0 ≤ x7_1; rotate_left
   ·rw [if_neg c5] at H
    exact absurd H (by simp)
   rw [if_pos c5] at H
   have c5b0 := eq_true c5
   have c5b1 : decide (0 ≤ x7_1) = true := decide_eq_true c5
   clear c5
   obtain ⟨ji6, hji6⟩ : ∃ j_ : Int, (shr .u64 a1 x7_1) = j_ := ⟨_, rfl⟩
   replace H : (if x0_1.length < 140737488355328 then (codec_put.l0 k1 (x0_1 ++ [(ji6) % 256]) a1 (wrap64 (x7_1 - 8))) else (none)) = some r := by first | (rw [hji6] at H; exact H) | (simp only [hji6] at H ⊢; exact H)
   have hji6_ : (a1 / 2 ^ min x7_1.toNat 64) = ji6 := hji6
   have hji6z : x7_1 ≤ 64 → (a1 / 2 ^ x7_1.toNat) = ji6 := shr_small hji6
   by_cases c7 : x0_1.length < 140737488355328; rotate_left
   ·rw [if_neg c7] at H
    exact absurd H (by simp)
   rw [if_pos c7] at H
   have LMc7 := Aside0.mk c7
   clear c7
   obtain ⟨y124, hy124⟩ : ∃ y_ : List Int, y_ = (x0_1 ++ [(ji6) % 256]) := ⟨_, rfl⟩
   replace H : (codec_put.l0 k1 y124 a1 (wrap64 (x7_1 - 8))) = some r := by first | (rw [hy124]; with_reducible exact H) | (have H2_ := (Option.bind_some _ _).symm.trans H; rw [hy124]; with_reducible exact H2_) | (have H2_ := (Option.bind_some _ _).symm.trans H; with_reducible exact H2_) | with_reducible exact H | (rw [hy124]; exact H) | exact H
   have Ny124 := Aside0.mk hy124
   clear hy124
   have H' := Aside0.mk H
   clear H
   go_wp2_with (first | ((with_reducible refine gate_builtin (b := .append) (xs := #[.tmp 15, .tmp 20]) rfl ?_); at_builtin; refine Kd.R_append (Kd.int .u8) (w0 := w0) w0.heap.size rfl (.tmp 15) (.tmp 20) 79 5 (.int .u8 0) 1 rfl Tryd.underlying79 info5 rfl (by decide) (by omega) u0 x0_1 ((ji6) % 256) [.int .u8 ((ji6) % 256)] (fun k_ => (P0_ k_ ∨ w.heap.size ≤ k_)) (fun _ => False) rfl rfl ?aP (fun _ hk => hk.elim) ?aF ?aO ?aB ?aS ?aL ?_; (case aP => exact rfl); (case aB => exact bw); (case aF => exact (fun k_ hk => (.inr (Nat.le_trans (by first | exact HK.out.1 | exact (show Kept w _ (fun k_ => P0_ k_) from by repeat (first | (with_reducible first | exact HK.out | apply Kept.alloc | apply Kept.drewN | apply Kept.drew) | exact HK.out)).1) hk)))); (case aO => exact (by (with_reducible repeat (first | apply Kd.R_alloc | apply Kd.R_drewN | apply Kd.R_drew)); exact aa.out)); (case aS => exact (below_size bw)); (case aL => have := LMc7.out; omega); intro v125 w8 ho hb hg hat; rw [← Ny124.out] at ho; have n0_ := Aside0.mk (hb); have n1_ := Aside0.mk (Kept.of_grown (S := (fun k_ => P0_ k_)) hg (by repeat (first | (with_reducible first | exact HK.out | apply Kept.alloc | apply Kept.drewN | apply Kept.drew) | exact HK.out)) (fun k_ e_ => (aa.out.1 k_ e_))); have n2_ := Aside0.mk (ho); clear HB; clear HK; clear aa; have HB := n0_; have HK := n1_; have HO126 := n2_; clear n0_ n1_ n2_; clear ho hb hg hat))
   go_roundg k1
   case measure => have := HK1.out; omega
   case rel => (try rw [hji6]); exact ⟨(y124), (wrap64 (x7_1 - 8)), (by first | rfl | (simp; done) | (simp [*]; done)), H', ⟨by have := HK1.out; omega⟩, ⟨by (with_reducible repeat (first | apply Kd.R_alloc | apply Kd.R_drewN | apply Kd.R_drew)); exact HO126.out⟩, ⟨by repeat (first | (with_reducible first | exact HK.out | apply Kept.alloc | apply Kept.drewN | apply Kept.drew) | exact HK.out)⟩, ⟨bw⟩⟩

/-! ### codec_Encode: function 38 -/
def codec_Encode.l0 : Nat → List Int → List (S87) → Int → Int → Option (ByteArray × Int)
 | 0, _, _, _, _ => none
 | k + 1, x4, x11, x12, x13 => if x13 < x12 then (if 0 ≤ x13 then (if x13 < (x11.length : Int) then (if ((rd_T87 x11 x13).f0) < 1 then (some ((⟨#[]⟩ : ByteArray), 1)) else (if ((rd_T87 x11 x13).f0) > 4 then (some ((⟨#[]⟩ : ByteArray), 1)) else (if ((rd_T87 x11 x13).f0) = 4 then (if ((rd_T87 x11 x13).f1) = 0 then (if (((rd_T87 x11 x13).f2).size : Int) > 100000 then (some ((⟨#[]⟩ : ByteArray), 3)) else ((codec_put.f k x4 (IntKind.u64.wrap ((((rd_T87 x11 x13).f2).size : Int))) 4).bind fun t129 => (if t129.length + ((rd_T87 x11 x13).f2).size < 140737488355328 then (codec_Encode.l0 k (t129 ++ bytesOf ((rd_T87 x11 x13).f2)) x11 x12 (wrap64 (x13 + 1))) else (none)))) else (some ((⟨#[]⟩ : ByteArray), 1))) else (if 0 ≤ ((rd_T87 x11 x13).f0) then (if ((rd_T87 x11 x13).f0) < 5 then (if ((rd_T87 x11 x13).f2).toList = ([] : List UInt8) then (if (rd sizTabI ((rd_T87 x11 x13).f0)) < 8 then (if 0 ≤ (wrap64 (8 * (rd sizTabI ((rd_T87 x11 x13).f0)))) then (if (shr .u64 ((rd_T87 x11 x13).f1) (wrap64 (8 * (rd sizTabI ((rd_T87 x11 x13).f0))))) > 0 then (some ((⟨#[]⟩ : ByteArray), 1)) else ((codec_put.f k x4 ((rd_T87 x11 x13).f1) (rd sizTabI ((rd_T87 x11 x13).f0))).bind fun t136 => (codec_Encode.l0 k t136 x11 x12 (wrap64 (x13 + 1))))) else (none)) else ((codec_put.f k x4 ((rd_T87 x11 x13).f1) (rd sizTabI ((rd_T87 x11 x13).f0))).bind fun t139 => (codec_Encode.l0 k t139 x11 x12 (wrap64 (x13 + 1))))) else (some ((⟨#[]⟩ : ByteArray), 1))) else (none)) else (none))))) else (none)) else (none)) else (some (strOfNums x4, 0))
def codec_Encode.f (k : Nat) (l0 : List (S87)) : Option (ByteArray × Int) := if (l0.length : Int) > 1000 then (some ((⟨#[]⟩ : ByteArray), 3)) else (codec_Encode.l0 k ([] : List Int) l0 (l0.length : Int) 0)
theorem codec_Encode.mono_l : ∀ k, (∀ y0 y1 y2 y3, LeO (codec_Encode.l0 k y0 y1 y2 y3) (codec_Encode.l0 (k + 1) y0 y1 y2 y3))
 | 0 => fun _ _ _ _ r h => by simp [codec_Encode.l0] at h
 | k + 1 => by
  have ih0 := codec_Encode.mono_l k
  ·intro y0 y1 y2 y3
   unfold codec_Encode.l0
   repeat' first
   | (with_reducible exact ih0 _ _ _ _)
   | (with_reducible exact codec_put.mono _ _ _ _)
   | (with_reducible exact LeO.refl _)
   | (with_reducible exact LeO.none _)
   | (with_reducible refine LeO.ite ?_ ?_)
   | (with_reducible refine LeO.bind ?_ (fun _ => ?_))
   | exact ih0 _ _ _ _
   | exact codec_put.mono _ _ _ _
   | exact LeO.none _
   | refine LeO.ite ?_ ?_
   | refine LeO.bind ?_ (fun _ => ?_)
theorem codec_Encode.mono : ∀ a0 k, LeO (codec_Encode.f k a0) (codec_Encode.f (k + 1) a0) := by
 intro a0 k
 have ih0 := codec_Encode.mono_l k
 unfold codec_Encode.f
 repeat' first
   | (with_reducible exact ih0 _ _ _ _)
   | (with_reducible exact codec_put.mono _ _ _ _)
   | (with_reducible exact LeO.refl _)
   | (with_reducible exact LeO.none _)
   | (with_reducible refine LeO.ite ?_ ?_)
   | (with_reducible refine LeO.bind ?_ (fun _ => ?_))
   | exact ih0 _ _ _ _
   | exact codec_put.mono _ _ _ _
   | exact LeO.none _
   | refine LeO.ite ?_ ?_
   | refine LeO.bind ?_ (fun _ => ?_)
def codec_Encode.T14 : Bool × List (List Nat × List Nat) := (true, [([], []), ([], []), ([1], [1]), ([2], [2]), ([3], [3]), ([0, 4], [0, 4]), ([], []), ([6], [6]), ([5, 7, 5], [5, 7]), ([8, 8, 0, 1, 2, 3, 4, 5, 6, 7, 8], [0, 8])])
def codec_Encode.B14 : List Nat := [0, 0, 2, 6, 14, 31, 0, 64, 255, 511]
theorem codec_Encode.tab14 : rtab .any (opsOf Tryd.f38 14) = codec_Encode.T14 := by kernel_rfl
theorem codec_Encode.bits14 : waitsOk codec_Encode.T14.2 codec_Encode.B14 = true := by kernel_rfl
set_option maxHeartbeats 8000000 in
set_option maxRecDepth 100000 in
theorem codec_Encode.calls (k : Nat) (A0 : Option Addr) (c0 : Nat) (l0 : List (S87)) (r1 : ByteArray) (r2 : Int) (w : World) (hr0 : Kd.C k87 w A0 l0.length l0) (hc0 : l0.length ≤ c0) (HT_ : TabOk w) (h : codec_Encode.f k l0 = some (r1, r2)) :
  Calls Tryd.prog 38 #[.slice A0 l0.length c0] w fun e w' => e = .returned (.tuple #[.string r1, .int .i64 r2]) ∧ Below w.heap.size w w' := by
 have HT := Aside0.mk HT_
 have HRGsiz := Aside0.mk HT_.sizC
 clear HT_
 have hu87 := Tryd.underlying87
 have HR0 := Aside0.mk hr0
 have HC0 := Aside0.mk hc0
 clear hr0 hc0
 have HB := Aside0.mk (Below.refl w.heap.size w)
 have H : (if (l0.length : Int) > 1000 then (some ((⟨#[]⟩ : ByteArray), 3)) else (codec_Encode.l0 k ([] : List Int) l0 (l0.length : Int) 0)) = some (r1, r2) := h
 clear h
 by_cases c2 : (l0.length : Int) > 1000
 ·rw [if_pos c2] at H
  have av : decide (1000 < (l0.length : Int)) = true := decide_eq_true c2
  have aw : decide (1000 < l0.length) = true := decide_eq_true (by omega)
  clear c2
  simp only [Option.some.injEq, Prod.mk.injEq] at H
  obtain ⟨rfl, rfl⟩ := H
  go_enter Tryd.func38, Tryd.ntmps38
  go_wp2
  go_ret2
  exact ⟨er, bw⟩
 rw [if_neg c2] at H
 have av : decide (1000 < (l0.length : Int)) = false := decide_eq_false c2
 have aw : decide (1000 < l0.length) = false := decide_eq_false (by omega)
 clear c2
 have H' := Aside0.mk H
 clear H
 go_enter Tryd.func38, Tryd.ntmps38
 go_wp2
 go_loopg [4, 13] k (fun kq v4 v13 w' => ∃ (x4_1 : List Int) (x13_1 : Int), v13 = .int .i64 x13_1 ∧ Aside0 (codec_Encode.l0 kq x4_1 l0 (l0.length : Int) x13_1 = some (r1, r2)) ∧ Aside0 (kq ≤ k) ∧ Aside0 (Kd.R (Kd.int .u8) 5 w' w.heap.size (fun _ => True) v4 x4_1) ∧ Aside0 (Below w.heap.size w w'))
 case atStart => exact ⟨(([] : List Int)), (0), (by first | rfl | (simp; done) | (simp [*]; done)), H', ⟨Nat.le_refl _⟩, ⟨by first | exact Kd.R_nil _ _ _ _ _ | exact Kd.N_nil _ _ _ _ _ | exact Kd.V_nil _ _ _ _ _ | exact Kd.Q_nil _ _ _ _ _ | exact Kd.S_nil _ _ _ _ _⟩, ⟨bw⟩⟩
 case round =>
  clear H'
  try clear c2
  try clear av
  try clear aw
  try clear p2
  obtain ⟨x4_1, x13_1, rfl, HA, HK1, ag, HB⟩ := hrel
  cases gk with
  | zero => exact absurd HA.out (by simp [codec_Encode.l0])
  | succ k1 =>
   have H := HA.out
   clear HA
   simp only [codec_Encode.l0] at H
   by_cases c3 : x13_1 < (l0.length : Int); rotate_left
   ·rw [if_neg c3] at H
    have c3b0 : decide (x13_1 < (l0.length : Int)) = false := decide_eq_false c3
    clear c3
    simp only [Option.some.injEq, Prod.mk.injEq] at H
    obtain ⟨rfl, rfl⟩ := H
    have hcv54 := own_string (P := Tryd.prog) Tryd.underlying79 Tryd.underlying5 Tryd.underlying9 (Kd.own_of_R ag.out)
    go_wp2
    go_ret2
    exact ⟨er, bw⟩
   rw [if_pos c3] at H
   have c3b0 : decide (x13_1 < (l0.length : Int)) = true := decide_eq_true c3
   clear c3
   by_cases c4 : 0 ≤ x13_1; rotate_left
   ·rw [if_neg c4] at H
    exact absurd H (by simp)
   rw [if_pos c4] at H
   have c4b0 : decide (0 ≤ x13_1) = true := decide_eq_true c4
   clear c4
   by_cases c5 : x13_1 < (l0.length : Int); rotate_left
   ·rw [if_neg c5] at H
    exact absurd H (by simp)
   rw [if_pos c5] at H
   have c5b0 : decide (x13_1 < (l0.length : Int)) = true := decide_eq_true c5
   clear c5
   by_cases c6 : ((rd_T87 l0 x13_1).f0) < 1
   ·rw [if_pos c6] at H
    have c6b0 : decide (((rd_T87 l0 x13_1).f0) < 1) = true := decide_eq_true c6
    clear c6
    simp only [Option.some.injEq, Prod.mk.injEq] at H
    obtain ⟨rfl, rfl⟩ := H
    have p127 : 0 ≤ (x13_1 : Int) := od
    have q127 : x13_1 < (l0.length : Int) := od
    obtain ⟨aj, e127, ad, ae, af⟩ := at_T87 HR0.out x13_1 p127 q127
    cases e127
    replace ad := (HB.out.cell (World.block_lt_of_cell? w _ ad)).trans ad
    replace ae := (HB.out.cell (World.block_lt_of_cell? w _ ae)).trans ae
    replace af := (HB.out.cell (World.block_lt_of_cell? w _ af)).trans af
    replace p127 := eq_true p127
    replace q127 := eq_true q127
    go_wp2_with (first | ((with_reducible refine gate_dst (N := 6) rfl ?_); refine box_event ?hg (N := 6) ?hd (cs := #[.int .i64 0, .int .u64 0, .string (⟨#[]⟩ : ByteArray)]) (t := 87) ?hr ?_; (case hd => rfl); (case hg => rfl); (case hr => first | (go_simp; done) | (go_simp; rfl)); intro ab hg w7 hbox hb; have n0_ := Aside0.mk (Kd.R_below (by (with_reducible repeat (first | apply Kd.R_alloc | apply Kd.R_drewN | apply Kd.R_drew)); exact ag.out) hb); have n1_ := Aside0.mk (below_step bw hb); have n2_ := Aside0.mk (hbox); have n3_ := Aside0.mk ((g1 hg bw : w.heap.size ≤ ab)); have n4_ := Aside0.mk ((g1 hg bw : w.heap.size ≤ ab)); clear ag; clear HB; have ag := n0_; have HB := n1_; have ac := n2_; have ah := n3_; have ai := n4_; clear n0_ n1_ n2_ n3_ n4_; clear hb hbox hg; obtain ⟨hcz8_0, hcz8_1, hcz8_2, hfz8_0, hfz8_1, hfz8_2⟩ := bx3 ac.out))
    go_ret2
    exact ⟨er, bw⟩
   rw [if_neg c6] at H
   have c6b0 : decide (((rd_T87 l0 x13_1).f0) < 1) = false := decide_eq_false c6
   clear c6
   by_cases c9 : ((rd_T87 l0 x13_1).f0) > 4
   ·rw [if_pos c9] at H
    have c9b0 : decide (4 < ((rd_T87 l0 x13_1).f0)) = true := decide_eq_true c9
    clear c9
    simp only [Option.some.injEq, Prod.mk.injEq] at H
    obtain ⟨rfl, rfl⟩ := H
    have p127 : 0 ≤ (x13_1 : Int) := od
    have q127 : x13_1 < (l0.length : Int) := od
    obtain ⟨aj, e127, ad, ae, af⟩ := at_T87 HR0.out x13_1 p127 q127
    cases e127
    replace ad := (HB.out.cell (World.block_lt_of_cell? w _ ad)).trans ad
    replace ae := (HB.out.cell (World.block_lt_of_cell? w _ ae)).trans ae
    replace af := (HB.out.cell (World.block_lt_of_cell? w _ af)).trans af
    replace p127 := eq_true p127
    replace q127 := eq_true q127
    go_wp2_with (first | ((with_reducible refine gate_dst (N := 6) rfl ?_); refine box_event ?hg (N := 6) ?hd (cs := #[.int .i64 0, .int .u64 0, .string (⟨#[]⟩ : ByteArray)]) (t := 87) ?hr ?_; (case hd => rfl); (case hg => rfl); (case hr => first | (go_simp; done) | (go_simp; rfl)); intro ab hg w10 hbox hb; have n0_ := Aside0.mk (Kd.R_below (by (with_reducible repeat (first | apply Kd.R_alloc | apply Kd.R_drewN | apply Kd.R_drew)); exact ag.out) hb); have n1_ := Aside0.mk (below_step bw hb); have n2_ := Aside0.mk (hbox); have n3_ := Aside0.mk ((g1 hg bw : w.heap.size ≤ ab)); have n4_ := Aside0.mk ((g1 hg bw : w.heap.size ≤ ab)); clear ag; clear HB; have ag := n0_; have HB := n1_; have ac := n2_; have ah := n3_; have ai := n4_; clear n0_ n1_ n2_ n3_ n4_; clear hb hbox hg; obtain ⟨hcz11_0, hcz11_1, hcz11_2, hfz11_0, hfz11_1, hfz11_2⟩ := bx3 ac.out))
    go_ret2
    exact ⟨er, bw⟩
   rw [if_neg c9] at H
   have c9b0 : decide (4 < ((rd_T87 l0 x13_1).f0)) = false := decide_eq_false c9
   clear c9
   by_cases c12 : ((rd_T87 l0 x13_1).f0) = 4; rotate_left
   ·rw [if_neg c12] at H
    have c12b0 : (((rd_T87 l0 x13_1).f0) == 4) = false := beq_eq_false_iff_ne.mpr c12
    have c12b1 : (((rd_T87 l0 x13_1).f0) != 4) = true := bne_iff_ne.mpr c12
    by_cases c28 : 0 ≤ ((rd_T87 l0 x13_1).f0); rotate_left
    ·rw [if_neg c28] at H
     exact absurd H (by simp)
    rw [if_pos c28] at H
    have c28b0 : decide (0 ≤ ((rd_T87 l0 x13_1).f0)) = true := decide_eq_true c28
    clear c28
    by_cases c29 : ((rd_T87 l0 x13_1).f0) < 5; rotate_left
    ·rw [if_neg c29] at H
     exact absurd H (by simp)
    rw [if_pos c29] at H
    have c29b0 : decide (((rd_T87 l0 x13_1).f0) < 5) = true := decide_eq_true c29
    clear c29
    by_cases c30 : ((rd_T87 l0 x13_1).f2).toList = ([] : List UInt8); rotate_left
    ·rw [if_neg c30] at H
     have c30b0 : (((rd_T87 l0 x13_1).f2).toList == ([] : List UInt8)) = false := beq_eq_false_iff_ne.mpr c30
     have c30b1 : (((rd_T87 l0 x13_1).f2).toList != ([] : List UInt8)) = true := bne_iff_ne.mpr c30
     simp only [Option.some.injEq, Prod.mk.injEq] at H
     obtain ⟨rfl, rfl⟩ := H
     have p127 : 0 ≤ (x13_1 : Int) := od
     have q127 : x13_1 < (l0.length : Int) := od
     obtain ⟨aj, e127, ad, ae, af⟩ := at_T87 HR0.out x13_1 p127 q127
     cases e127
     replace ad := (HB.out.cell (World.block_lt_of_cell? w _ ad)).trans ad
     replace ae := (HB.out.cell (World.block_lt_of_cell? w _ ae)).trans ae
     replace af := (HB.out.cell (World.block_lt_of_cell? w _ af)).trans af
     replace p127 := eq_true p127
     replace q127 := eq_true q127
     go_wp2_with (first | ((with_reducible refine gate_dst (N := 6) rfl ?_); refine box_event ?hg (N := 6) ?hd (cs := #[.int .i64 0, .int .u64 0, .string (⟨#[]⟩ : ByteArray)]) (t := 87) ?hr ?_; (case hd => rfl); (case hg => rfl); (case hr => first | (go_simp; done) | (go_simp; rfl)); intro ab hg w52 hbox hb; have n0_ := Aside0.mk (Kd.R_below (by (with_reducible repeat (first | apply Kd.R_alloc | apply Kd.R_drewN | apply Kd.R_drew)); exact ag.out) hb); have n1_ := Aside0.mk (below_step bw hb); have n2_ := Aside0.mk (hbox); have n3_ := Aside0.mk ((g1 hg bw : w.heap.size ≤ ab)); have n4_ := Aside0.mk ((g1 hg bw : w.heap.size ≤ ab)); clear ag; clear HB; have ag := n0_; have HB := n1_; have ac := n2_; have ah := n3_; have ai := n4_; clear n0_ n1_ n2_ n3_ n4_; clear hb hbox hg; obtain ⟨hcz53_0, hcz53_1, hcz53_2, hfz53_0, hfz53_1, hfz53_2⟩ := bx3 ac.out; have p135 : 0 ≤ (((rd_T87 l0 x13_1).f0) : Int) := od; have q135 : ((rd_T87 l0 x13_1).f0) < (sizTabI.length : Int) := od; have ql135 : ((((rd_T87 l0 x13_1).f0) : Int) < (5 : Int)) = True := eq_true (od); obtain ⟨ak, e135, aa⟩ := Kd.at_int HRGsiz.out ((rd_T87 l0 x13_1).f0) p135 q135; obtain rfl : (⟨0, 0, none⟩ : Addr) = ak := (by injection e135); (first | simp only [add_plain] at aa | simp only [add_at] at aa | simp only [Addr.add, Nat.zero_add] at aa | skip); have hn135_0 : (⟨0, 0, none⟩ : Addr).block ≠ ab := Nat.ne_of_lt (Nat.lt_of_lt_of_le (by have := World.block_lt_of_cell? _ _ aa; first | rwa [add_block] at this | exact this) ah.out); have hn135_1 : (⟨0, 0, none⟩ : Addr).block ≠ ab := Nat.ne_of_lt (Nat.lt_of_lt_of_le (by have := World.block_lt_of_cell? _ _ aa; first | rwa [add_block] at this | exact this) ah.out); have hn135_2 : (⟨0, 0, none⟩ : Addr).block ≠ ab := Nat.ne_of_lt (Nat.lt_of_lt_of_le (by have := World.block_lt_of_cell? _ _ aa; first | rwa [add_block] at this | exact this) ah.out); replace aa := (HB.out.cell (World.block_lt_of_cell? w _ aa)).trans aa; replace aa := (cell_far (p := ⟨ab, 0, none⟩) (by first | (rw [add_block]; exact hn135_0) | (show (Addr.add _ _).block ≠ _; rw [add_block]; exact hn135_0) | exact hn135_0) (.int .i64 ((rd_T87 l0 x13_1).f0))).trans aa; replace aa := (cell_far (p := ⟨ab, 1, none⟩) (by first | (rw [add_block]; exact hn135_1) | (show (Addr.add _ _).block ≠ _; rw [add_block]; exact hn135_1) | exact hn135_1) (.int .u64 ((rd_T87 l0 x13_1).f1))).trans aa; replace aa := (cell_far (p := ⟨ab, 2, none⟩) (by first | (rw [add_block]; exact hn135_2) | (show (Addr.add _ _).block ≠ _; rw [add_block]; exact hn135_2) | exact hn135_2) (.string ((rd_T87 l0 x13_1).f2))).trans aa; clear hn135_0; clear hn135_1; clear hn135_2; replace p135 := eq_true p135; replace q135 := eq_true q135))
     go_ret2
     exact ⟨er, bw⟩
    rw [if_pos c30] at H
    have c30b0 : (((rd_T87 l0 x13_1).f2).toList == ([] : List UInt8)) = true := beq_iff_eq.mpr c30
    have c30b1 : (((rd_T87 l0 x13_1).f2).toList != ([] : List UInt8)) = false := bne_eq_false_iff_eq.mpr c30
    clear c30
    by_cases c31 : (rd sizTabI ((rd_T87 l0 x13_1).f0)) < 8; rotate_left
    ·rw [if_neg c31] at H
     have c31b0 : decide ((rd sizTabI ((rd_T87 l0 x13_1).f0)) < 8) = false := decide_eq_false c31
     clear c31
     replace H := Option.bind_eq_some_iff.mp H
     obtain ⟨t139, A450, H⟩ := H
     replace H : (codec_Encode.l0 k1 t139 l0 (l0.length : Int) (wrap64 (x13_1 + 1))) = some (r1, r2) := H
     have A45 := Aside0.mk A450
     clear A450
     have H' := Aside0.mk H
     clear H
     have p127 : 0 ≤ (x13_1 : Int) := od
     have q127 : x13_1 < (l0.length : Int) := od
     obtain ⟨aj, e127, ad, ae, af⟩ := at_T87 HR0.out x13_1 p127 q127
     cases e127
     replace ad := (HB.out.cell (World.block_lt_of_cell? w _ ad)).trans ad
     replace ae := (HB.out.cell (World.block_lt_of_cell? w _ ae)).trans ae
     replace af := (HB.out.cell (World.block_lt_of_cell? w _ af)).trans af
     replace p127 := eq_true p127
     replace q127 := eq_true q127
     go_wp2_with (first | ((with_reducible refine gate_dst (N := 6) rfl ?_); refine box_event ?hg (N := 6) ?hd (cs := #[.int .i64 0, .int .u64 0, .string (⟨#[]⟩ : ByteArray)]) (t := 87) ?hr ?_; (case hd => rfl); (case hg => rfl); (case hr => first | (go_simp; done) | (go_simp; rfl)); intro ab hg w46 hbox hb; have n0_ := Aside0.mk (Kd.R_below (by (with_reducible repeat (first | apply Kd.R_alloc | apply Kd.R_drewN | apply Kd.R_drew)); exact ag.out) hb); have n1_ := Aside0.mk (below_step bw hb); have n2_ := Aside0.mk (hbox); have n3_ := Aside0.mk ((g1 hg bw : w.heap.size ≤ ab)); have n4_ := Aside0.mk ((g1 hg bw : w.heap.size ≤ ab)); clear ag; clear HB; have ag := n0_; have HB := n1_; have ac := n2_; have ah := n3_; have ai := n4_; clear n0_ n1_ n2_ n3_ n4_; clear hb hbox hg; obtain ⟨hcz47_0, hcz47_1, hcz47_2, hfz47_0, hfz47_1, hfz47_2⟩ := bx3 ac.out) | ((with_reducible refine gate_store (t := 87) (p := 6) rfl ?_); refine store_event (t := 87) (p := 6) (v := ?vo_w48) (w1 := (((w46.setCell ⟨ab, 0, none⟩ (.int .i64 ((rd_T87 l0 x13_1).f0))).setCell ⟨ab, 1, none⟩ (.int .u64 ((rd_T87 l0 x13_1).f1))).setCell ⟨ab, 2, none⟩ (.string ((rd_T87 l0 x13_1).f2)))) ?hg ?ho ?hn ?hr ?_; (case ho => rfl); (case hg => rfl); (case hn => rfl); (case hr => first | (go_simp; done) | (go_simp; rfl)); intro w48 hw; have n0_ : Aside0 (Kd.R (Kd.int .u8) 5 w48 w.heap.size (fun _ => True) u4 x4_1) := ⟨(by rw [hw]; exact (by (with_reducible repeat (first | apply Kd.R_alloc | apply Kd.R_drewN | apply Kd.R_drew)); exact Kd.R_mono (Kd.R_far (p := ⟨ab, 2, none⟩) (Kd.R_far (p := ⟨ab, 1, none⟩) (Kd.R_far (p := ⟨ab, 0, none⟩) (Kd.R_types ag.out ac.out (by decide)) (fun _ hk => hk.2) (.int .i64 ((rd_T87 l0 x13_1).f0))) (fun _ hk => hk.2) (.int .u64 ((rd_T87 l0 x13_1).f1))) (fun _ hk => hk.2) (.string ((rd_T87 l0 x13_1).f2))) (fun _ hk => trivial)))⟩; have n1_ : Aside0 (w48.heap[ab]? = some (.cells #[.int .i64 ((rd_T87 l0 x13_1).f0), .int .u64 ((rd_T87 l0 x13_1).f1), .string ((rd_T87 l0 x13_1).f2)] 87 (0, 0))) := ⟨(by rw [hw]; exact (by (with_reducible repeat (first | refine blk_drewN ?_ _ | refine blk_drew ?_ | refine blk_alloc ?_ _)); refine blk_put (cs := #[.int .i64 ((rd_T87 l0 x13_1).f0), .int .u64 ((rd_T87 l0 x13_1).f1), .string (⟨#[]⟩ : ByteArray)]) ?_ 2 _ rfl; (with_reducible repeat (first | refine blk_drewN ?_ _ | refine blk_drew ?_ | refine blk_alloc ?_ _)); refine blk_put (cs := #[.int .i64 ((rd_T87 l0 x13_1).f0), .int .u64 0, .string (⟨#[]⟩ : ByteArray)]) ?_ 1 _ rfl; (with_reducible repeat (first | refine blk_drewN ?_ _ | refine blk_drew ?_ | refine blk_alloc ?_ _)); refine blk_put (cs := #[.int .i64 0, .int .u64 0, .string (⟨#[]⟩ : ByteArray)]) ?_ 0 _ rfl; (with_reducible repeat (first | refine blk_drewN ?_ _ | refine blk_drew ?_ | refine blk_alloc ?_ _)); exact ac.out))⟩; have n2_ : Aside0 (Below w.heap.size w w48) := ⟨(by rw [hw]; exact bw)⟩; clear hw; clear ag; clear ac; clear HB; have ag := n0_; have ac := n1_; have HB := n2_; clear n0_ n1_ n2_; obtain ⟨hcz49_0, hcz49_1, hcz49_2, hfz49_0, hfz49_1, hfz49_2⟩ := bx3 ac.out; have p135 : 0 ≤ (((rd_T87 l0 x13_1).f0) : Int) := od; have q135 : ((rd_T87 l0 x13_1).f0) < (sizTabI.length : Int) := od; have ql135 : ((((rd_T87 l0 x13_1).f0) : Int) < (5 : Int)) = True := eq_true (od); obtain ⟨ak, e135, aa⟩ := Kd.at_int HRGsiz.out ((rd_T87 l0 x13_1).f0) p135 q135; obtain rfl : (⟨0, 0, none⟩ : Addr) = ak := (by injection e135); (first | simp only [add_plain] at aa | simp only [add_at] at aa | simp only [Addr.add, Nat.zero_add] at aa | skip); replace aa := (HB.out.cell (World.block_lt_of_cell? w _ aa)).trans aa; replace p135 := eq_true p135; replace q135 := eq_true q135; obtain ⟨ar, au, eo50⟩ := Kd.R_slice ag.out; subst eo50) | ((with_reducible refine gate_callee (f := 42) rfl ?_); refine goesL_ (some 67) rfl rfl Tryd.func42 (by kernel_rfl) rfl #[.slice ar x4_1.length au, .int .u64 ((rd_T87 l0 x13_1).f1), .int .i64 (rd sizTabI ((rd_T87 l0 x13_1).f0))] rfl am ?_; (with_reducible refine (codec_put.calls k1 (fun k_ => some k_ = (.slice ar x4_1.length au : Value).ownBlock) (.slice ar x4_1.length au) x4_1 ((rd_T87 l0 x13_1).f1) (rd sizTabI ((rd_T87 l0 x13_1).f0)) t139 w _ ?side1 ?side2 A45.out).mono ?_); (case side1 => repeat (first | (with_reducible first | exact HB.out | apply below_alloc | apply pw_below_drewN | apply below_drew1 | refine below_set ?_ ai.out) | exact HB.out)); (case side2 => exact Kd.R_tight rfl ag.out); rintro e w51 ⟨v140, rfl, ho0, hb, hkp⟩; refine ⟨_, rfl, ?_⟩; have n0_ := Aside0.mk (blk_kept (bk ac.out) hkp (fun hs_ => (fun e_ => (Kd.R_ne ag.out ac.out (by decide)) e_) hs_)); have n1_ := Aside0.mk (Kd.R_mono (ok' := fun k_ => True) ho0 (fun k_ hk_ => trivial)); have n2_ := Aside0.mk (hb); clear ac; clear HB; clear ag; have ac := n0_; have HO141 := n1_; have HB := n2_; clear n0_ n1_ n2_; (try clear hb); (try clear hkp); (try clear ho0)))
     go_roundg k1
     case measure => have := HK1.out; omega
     case rel => exact ⟨(t139), (wrap64 (x13_1 + 1)), (by first | rfl | (simp; done) | (simp [*]; done)), H', ⟨by have := HK1.out; omega⟩, ⟨by (with_reducible repeat (first | apply Kd.R_alloc | apply Kd.R_drewN | apply Kd.R_drew)); exact HO141.out⟩, ⟨bw⟩⟩
    rw [if_pos c31] at H
    have c31b0 : decide ((rd sizTabI ((rd_T87 l0 x13_1).f0)) < 8) = true := decide_eq_true c31
    clear c31
    obtain ⟨ji32, hji32⟩ : ∃ j_ : Int, (wrap64 (8 * (rd sizTabI ((rd_T87 l0 x13_1).f0)))) = j_ := ⟨_, rfl⟩
    replace H : (if 0 ≤ (ji32) then (if (shr .u64 ((rd_T87 l0 x13_1).f1) (ji32)) > 0 then (some ((⟨#[]⟩ : ByteArray), 1)) else ((codec_put.f k1 x4_1 ((rd_T87 l0 x13_1).f1) (rd sizTabI ((rd_T87 l0 x13_1).f0))).bind fun t136 => (codec_Encode.l0 k1 t136 l0 (l0.length : Int) (wrap64 (x13_1 + 1))))) else (none)) = some (r1, r2) := by first | (rw [hji32] at H; exact H) | (simp only [hji32] at H ⊢; exact H)
    have hji32w : (IntKind.i64.wrap (8 * (rd sizTabI ((rd_T87 l0 x13_1).f0)))) = ji32 := (i64_w _).trans hji32
    by_cases c33 : 0 ≤ (ji32); rotate_left
    ·rw [if_neg c33] at H
     exact absurd H (by simp)
    rw [if_pos c33] at H
    have c33b0 := eq_true c33
    have c33b1 : decide (0 ≤ (ji32)) = true := decide_eq_true c33
    clear c33
    obtain ⟨ji34, hji34⟩ : ∃ j_ : Int, (shr .u64 ((rd_T87 l0 x13_1).f1) (ji32)) = j_ := ⟨_, rfl⟩
    replace H : (if (ji34) > 0 then (some ((⟨#[]⟩ : ByteArray), 1)) else ((codec_put.f k1 x4_1 ((rd_T87 l0 x13_1).f1) (rd sizTabI ((rd_T87 l0 x13_1).f0))).bind fun t136 => (codec_Encode.l0 k1 t136 l0 (l0.length : Int) (wrap64 (x13_1 + 1))))) = some (r1, r2) := by first | (rw [hji34] at H; exact H) | (simp only [hji34] at H ⊢; exact H)
    have hji34_ : (((rd_T87 l0 x13_1).f1) / 2 ^ min (ji32).toNat 64) = ji34 := hji34
    have hji34z : (ji32) ≤ 64 → (((rd_T87 l0 x13_1).f1) / 2 ^ (ji32).toNat) = ji34 := shr_small hji34
    by_cases c35 : (ji34) > 0
    ·rw [if_pos c35] at H
     have c35b0 : decide (0 < (ji34)) = true := decide_eq_true c35
     clear c35
     simp only [Option.some.injEq, Prod.mk.injEq] at H
     obtain ⟨rfl, rfl⟩ := H
     have p127 : 0 ≤ (x13_1 : Int) := od
     have q127 : x13_1 < (l0.length : Int) := od
     obtain ⟨aj, e127, ad, ae, af⟩ := at_T87 HR0.out x13_1 p127 q127
     cases e127
     replace ad := (HB.out.cell (World.block_lt_of_cell? w _ ad)).trans ad
     replace ae := (HB.out.cell (World.block_lt_of_cell? w _ ae)).trans ae
     replace af := (HB.out.cell (World.block_lt_of_cell? w _ af)).trans af
     replace p127 := eq_true p127
     replace q127 := eq_true q127
     go_wp2_with (first | ((with_reducible refine gate_dst (N := 6) rfl ?_); refine box_event ?hg (N := 6) ?hd (cs := #[.int .i64 0, .int .u64 0, .string (⟨#[]⟩ : ByteArray)]) (t := 87) ?hr ?_; (case hd => rfl); (case hg => rfl); (case hr => first | (go_simp; done) | (go_simp; rfl)); intro ab hg w36 hbox hb; have n0_ := Aside0.mk (Kd.R_below (by (with_reducible repeat (first | apply Kd.R_alloc | apply Kd.R_drewN | apply Kd.R_drew)); exact ag.out) hb); have n1_ := Aside0.mk (below_step bw hb); have n2_ := Aside0.mk (hbox); have n3_ := Aside0.mk ((g1 hg bw : w.heap.size ≤ ab)); have n4_ := Aside0.mk ((g1 hg bw : w.heap.size ≤ ab)); clear ag; clear HB; have ag := n0_; have HB := n1_; have ac := n2_; have ah := n3_; have ai := n4_; clear n0_ n1_ n2_ n3_ n4_; clear hb hbox hg; obtain ⟨hcz37_0, hcz37_1, hcz37_2, hfz37_0, hfz37_1, hfz37_2⟩ := bx3 ac.out; have p135 : 0 ≤ (((rd_T87 l0 x13_1).f0) : Int) := od; have q135 : ((rd_T87 l0 x13_1).f0) < (sizTabI.length : Int) := od; have ql135 : ((((rd_T87 l0 x13_1).f0) : Int) < (5 : Int)) = True := eq_true (od); obtain ⟨ak, e135, aa⟩ := Kd.at_int HRGsiz.out ((rd_T87 l0 x13_1).f0) p135 q135; obtain rfl : (⟨0, 0, none⟩ : Addr) = ak := (by injection e135); (first | simp only [add_plain] at aa | simp only [add_at] at aa | simp only [Addr.add, Nat.zero_add] at aa | skip); have hn135_0 : (⟨0, 0, none⟩ : Addr).block ≠ ab := Nat.ne_of_lt (Nat.lt_of_lt_of_le (by have := World.block_lt_of_cell? _ _ aa; first | rwa [add_block] at this | exact this) ah.out); have hn135_1 : (⟨0, 0, none⟩ : Addr).block ≠ ab := Nat.ne_of_lt (Nat.lt_of_lt_of_le (by have := World.block_lt_of_cell? _ _ aa; first | rwa [add_block] at this | exact this) ah.out); have hn135_2 : (⟨0, 0, none⟩ : Addr).block ≠ ab := Nat.ne_of_lt (Nat.lt_of_lt_of_le (by have := World.block_lt_of_cell? _ _ aa; first | rwa [add_block] at this | exact this) ah.out); replace aa := (HB.out.cell (World.block_lt_of_cell? w _ aa)).trans aa; replace aa := (cell_far (p := ⟨ab, 0, none⟩) (by first | (rw [add_block]; exact hn135_0) | (show (Addr.add _ _).block ≠ _; rw [add_block]; exact hn135_0) | exact hn135_0) (.int .i64 ((rd_T87 l0 x13_1).f0))).trans aa; replace aa := (cell_far (p := ⟨ab, 1, none⟩) (by first | (rw [add_block]; exact hn135_1) | (show (Addr.add _ _).block ≠ _; rw [add_block]; exact hn135_1) | exact hn135_1) (.int .u64 ((rd_T87 l0 x13_1).f1))).trans aa; replace aa := (cell_far (p := ⟨ab, 2, none⟩) (by first | (rw [add_block]; exact hn135_2) | (show (Addr.add _ _).block ≠ _; rw [add_block]; exact hn135_2) | exact hn135_2) (.string ((rd_T87 l0 x13_1).f2))).trans aa; clear hn135_0; clear hn135_1; clear hn135_2; replace p135 := eq_true p135; replace q135 := eq_true q135))
     go_ret2
     exact ⟨by first | rfl | (simp [errW_none, errW_some] <;> rfl) | (simp only [← hji32, ← hji34]; first | rfl | (simp [errW_none, errW_some] <;> rfl)) | (simp [*, errW_none, errW_some] <;> rfl), bw⟩
    rw [if_neg c35] at H
    have c35b0 : decide (0 < (ji34)) = false := decide_eq_false c35
    clear c35
    replace H := Option.bind_eq_some_iff.mp H
    obtain ⟨t136, A380, H⟩ := H
    replace H : (codec_Encode.l0 k1 t136 l0 (l0.length : Int) (wrap64 (x13_1 + 1))) = some (r1, r2) := H
    have A38 := Aside0.mk A380
    clear A380
    have H' := Aside0.mk H
    clear H
    have p127 : 0 ≤ (x13_1 : Int) := od
    have q127 : x13_1 < (l0.length : Int) := od
    obtain ⟨aj, e127, ad, ae, af⟩ := at_T87 HR0.out x13_1 p127 q127
    cases e127
    replace ad := (HB.out.cell (World.block_lt_of_cell? w _ ad)).trans ad
    replace ae := (HB.out.cell (World.block_lt_of_cell? w _ ae)).trans ae
    replace af := (HB.out.cell (World.block_lt_of_cell? w _ af)).trans af
    replace p127 := eq_true p127
    replace q127 := eq_true q127
    go_wp2_with (first | ((with_reducible refine gate_dst (N := 6) rfl ?_); refine box_event ?hg (N := 6) ?hd (cs := #[.int .i64 0, .int .u64 0, .string (⟨#[]⟩ : ByteArray)]) (t := 87) ?hr ?_; (case hd => rfl); (case hg => rfl); (case hr => first | (go_simp; done) | (go_simp; rfl)); intro ab hg w39 hbox hb; have n0_ := Aside0.mk (Kd.R_below (by (with_reducible repeat (first | apply Kd.R_alloc | apply Kd.R_drewN | apply Kd.R_drew)); exact ag.out) hb); have n1_ := Aside0.mk (below_step bw hb); have n2_ := Aside0.mk (hbox); have n3_ := Aside0.mk ((g1 hg bw : w.heap.size ≤ ab)); have n4_ := Aside0.mk ((g1 hg bw : w.heap.size ≤ ab)); clear ag; clear HB; have ag := n0_; have HB := n1_; have ac := n2_; have ah := n3_; have ai := n4_; clear n0_ n1_ n2_ n3_ n4_; clear hb hbox hg; obtain ⟨hcz40_0, hcz40_1, hcz40_2, hfz40_0, hfz40_1, hfz40_2⟩ := bx3 ac.out) | ((with_reducible refine gate_store (t := 87) (p := 6) rfl ?_); refine store_event (t := 87) (p := 6) (v := ?vo_w41) (w1 := (((w39.setCell ⟨ab, 0, none⟩ (.int .i64 ((rd_T87 l0 x13_1).f0))).setCell ⟨ab, 1, none⟩ (.int .u64 ((rd_T87 l0 x13_1).f1))).setCell ⟨ab, 2, none⟩ (.string ((rd_T87 l0 x13_1).f2)))) ?hg ?ho ?hn ?hr ?_; (case ho => rfl); (case hg => rfl); (case hn => rfl); (case hr => first | (go_simp; done) | (go_simp; rfl)); intro w41 hw; have n0_ : Aside0 (Kd.R (Kd.int .u8) 5 w41 w.heap.size (fun _ => True) u4 x4_1) := ⟨(by rw [hw]; exact (by (with_reducible repeat (first | apply Kd.R_alloc | apply Kd.R_drewN | apply Kd.R_drew)); exact Kd.R_mono (Kd.R_far (p := ⟨ab, 2, none⟩) (Kd.R_far (p := ⟨ab, 1, none⟩) (Kd.R_far (p := ⟨ab, 0, none⟩) (Kd.R_types ag.out ac.out (by decide)) (fun _ hk => hk.2) (.int .i64 ((rd_T87 l0 x13_1).f0))) (fun _ hk => hk.2) (.int .u64 ((rd_T87 l0 x13_1).f1))) (fun _ hk => hk.2) (.string ((rd_T87 l0 x13_1).f2))) (fun _ hk => trivial)))⟩; have n1_ : Aside0 (w41.heap[ab]? = some (.cells #[.int .i64 ((rd_T87 l0 x13_1).f0), .int .u64 ((rd_T87 l0 x13_1).f1), .string ((rd_T87 l0 x13_1).f2)] 87 (0, 0))) := ⟨(by rw [hw]; exact (by (with_reducible repeat (first | refine blk_drewN ?_ _ | refine blk_drew ?_ | refine blk_alloc ?_ _)); refine blk_put (cs := #[.int .i64 ((rd_T87 l0 x13_1).f0), .int .u64 ((rd_T87 l0 x13_1).f1), .string (⟨#[]⟩ : ByteArray)]) ?_ 2 _ rfl; (with_reducible repeat (first | refine blk_drewN ?_ _ | refine blk_drew ?_ | refine blk_alloc ?_ _)); refine blk_put (cs := #[.int .i64 ((rd_T87 l0 x13_1).f0), .int .u64 0, .string (⟨#[]⟩ : ByteArray)]) ?_ 1 _ rfl; (with_reducible repeat (first | refine blk_drewN ?_ _ | refine blk_drew ?_ | refine blk_alloc ?_ _)); refine blk_put (cs := #[.int .i64 0, .int .u64 0, .string (⟨#[]⟩ : ByteArray)]) ?_ 0 _ rfl; (with_reducible repeat (first | refine blk_drewN ?_ _ | refine blk_drew ?_ | refine blk_alloc ?_ _)); exact ac.out))⟩; have n2_ : Aside0 (Below w.heap.size w w41) := ⟨(by rw [hw]; exact bw)⟩; clear hw; clear ag; clear ac; clear HB; have ag := n0_; have ac := n1_; have HB := n2_; clear n0_ n1_ n2_; obtain ⟨hcz42_0, hcz42_1, hcz42_2, hfz42_0, hfz42_1, hfz42_2⟩ := bx3 ac.out; have p135 : 0 ≤ (((rd_T87 l0 x13_1).f0) : Int) := od; have q135 : ((rd_T87 l0 x13_1).f0) < (sizTabI.length : Int) := od; have ql135 : ((((rd_T87 l0 x13_1).f0) : Int) < (5 : Int)) = True := eq_true (od); obtain ⟨ak, e135, aa⟩ := Kd.at_int HRGsiz.out ((rd_T87 l0 x13_1).f0) p135 q135; obtain rfl : (⟨0, 0, none⟩ : Addr) = ak := (by injection e135); (first | simp only [add_plain] at aa | simp only [add_at] at aa | simp only [Addr.add, Nat.zero_add] at aa | skip); replace aa := (HB.out.cell (World.block_lt_of_cell? w _ aa)).trans aa; replace p135 := eq_true p135; replace q135 := eq_true q135; obtain ⟨ap, aq, eo43⟩ := Kd.R_slice ag.out; subst eo43) | ((with_reducible refine gate_callee (f := 42) rfl ?_); refine goesL_ (some 67) rfl rfl Tryd.func42 (by kernel_rfl) rfl #[.slice ap x4_1.length aq, .int .u64 ((rd_T87 l0 x13_1).f1), .int .i64 (rd sizTabI ((rd_T87 l0 x13_1).f0))] rfl am ?_; (with_reducible refine (codec_put.calls k1 (fun k_ => some k_ = (.slice ap x4_1.length aq : Value).ownBlock) (.slice ap x4_1.length aq) x4_1 ((rd_T87 l0 x13_1).f1) (rd sizTabI ((rd_T87 l0 x13_1).f0)) t136 w _ ?side1 ?side2 A38.out).mono ?_); (case side1 => repeat (first | (with_reducible first | exact HB.out | apply below_alloc | apply pw_below_drewN | apply below_drew1 | refine below_set ?_ ai.out) | exact HB.out)); (case side2 => exact Kd.R_tight rfl ag.out); rintro e w44 ⟨v137, rfl, ho0, hb, hkp⟩; refine ⟨_, rfl, ?_⟩; have n0_ := Aside0.mk (blk_kept (bk ac.out) hkp (fun hs_ => (fun e_ => (Kd.R_ne ag.out ac.out (by decide)) e_) hs_)); have n1_ := Aside0.mk (Kd.R_mono (ok' := fun k_ => True) ho0 (fun k_ hk_ => trivial)); have n2_ := Aside0.mk (hb); clear ac; clear HB; clear ag; have ac := n0_; have HO138 := n1_; have HB := n2_; clear n0_ n1_ n2_; (try clear hb); (try clear hkp); (try clear ho0)))
    go_roundg k1
    case measure => have := HK1.out; omega
    case rel => (try rw [hji32]); (try rw [hji34]); exact ⟨(t136), (wrap64 (x13_1 + 1)), (by first | rfl | (simp; done) | (simp [*]; done)), H', ⟨by have := HK1.out; omega⟩, ⟨by (with_reducible repeat (first | apply Kd.R_alloc | apply Kd.R_drewN | apply Kd.R_drew)); exact HO138.out⟩, ⟨bw⟩⟩
   rw [if_pos c12] at H
   have c12b0 : (((rd_T87 l0 x13_1).f0) == 4) = true := beq_iff_eq.mpr c12
   have c12b1 : (((rd_T87 l0 x13_1).f0) != 4) = false := bne_eq_false_iff_eq.mpr c12
   clear c12
   by_cases c13 : ((rd_T87 l0 x13_1).f1) = 0; rotate_left
   ·rw [if_neg c13] at H
    have c13b0 : (((rd_T87 l0 x13_1).f1) == 0) = false := beq_eq_false_iff_ne.mpr c13
    have c13b1 : (((rd_T87 l0 x13_1).f1) != 0) = true := bne_iff_ne.mpr c13
    simp only [Option.some.injEq, Prod.mk.injEq] at H
    obtain ⟨rfl, rfl⟩ := H
    have p127 : 0 ≤ (x13_1 : Int) := od
    have q127 : x13_1 < (l0.length : Int) := od
    obtain ⟨aj, e127, ad, ae, af⟩ := at_T87 HR0.out x13_1 p127 q127
    cases e127
    replace ad := (HB.out.cell (World.block_lt_of_cell? w _ ad)).trans ad
    replace ae := (HB.out.cell (World.block_lt_of_cell? w _ ae)).trans ae
    replace af := (HB.out.cell (World.block_lt_of_cell? w _ af)).trans af
    replace p127 := eq_true p127
    replace q127 := eq_true q127
    go_wp2_with (first | ((with_reducible refine gate_dst (N := 6) rfl ?_); refine box_event ?hg (N := 6) ?hd (cs := #[.int .i64 0, .int .u64 0, .string (⟨#[]⟩ : ByteArray)]) (t := 87) ?hr ?_; (case hd => rfl); (case hg => rfl); (case hr => first | (go_simp; done) | (go_simp; rfl)); intro ab hg w26 hbox hb; have n0_ := Aside0.mk (Kd.R_below (by (with_reducible repeat (first | apply Kd.R_alloc | apply Kd.R_drewN | apply Kd.R_drew)); exact ag.out) hb); have n1_ := Aside0.mk (below_step bw hb); have n2_ := Aside0.mk (hbox); have n3_ := Aside0.mk ((g1 hg bw : w.heap.size ≤ ab)); have n4_ := Aside0.mk ((g1 hg bw : w.heap.size ≤ ab)); clear ag; clear HB; have ag := n0_; have HB := n1_; have ac := n2_; have ah := n3_; have ai := n4_; clear n0_ n1_ n2_ n3_ n4_; clear hb hbox hg; obtain ⟨hcz27_0, hcz27_1, hcz27_2, hfz27_0, hfz27_1, hfz27_2⟩ := bx3 ac.out))
    go_ret2
    exact ⟨er, bw⟩
   rw [if_pos c13] at H
   have c13b0 : (((rd_T87 l0 x13_1).f1) == 0) = true := beq_iff_eq.mpr c13
   have c13b1 : (((rd_T87 l0 x13_1).f1) != 0) = false := bne_eq_false_iff_eq.mpr c13
   clear c13
   by_cases c14 : (((rd_T87 l0 x13_1).f2).size : Int) > 100000
   ·rw [if_pos c14] at H
    have c14b0 : decide (100000 < (((rd_T87 l0 x13_1).f2).size : Int)) = true := decide_eq_true c14
    have c14b1 : decide (100000 < ((rd_T87 l0 x13_1).f2).size) = true := decide_eq_true (by omega)
    clear c14
    simp only [Option.some.injEq, Prod.mk.injEq] at H
    obtain ⟨rfl, rfl⟩ := H
    have p127 : 0 ≤ (x13_1 : Int) := od
    have q127 : x13_1 < (l0.length : Int) := od
    obtain ⟨aj, e127, ad, ae, af⟩ := at_T87 HR0.out x13_1 p127 q127
    cases e127
    replace ad := (HB.out.cell (World.block_lt_of_cell? w _ ad)).trans ad
    replace ae := (HB.out.cell (World.block_lt_of_cell? w _ ae)).trans ae
    replace af := (HB.out.cell (World.block_lt_of_cell? w _ af)).trans af
    replace p127 := eq_true p127
    replace q127 := eq_true q127
    go_wp2_with (first | ((with_reducible refine gate_dst (N := 6) rfl ?_); refine box_event ?hg (N := 6) ?hd (cs := #[.int .i64 0, .int .u64 0, .string (⟨#[]⟩ : ByteArray)]) (t := 87) ?hr ?_; (case hd => rfl); (case hg => rfl); (case hr => first | (go_simp; done) | (go_simp; rfl)); intro ab hg w15 hbox hb; have n0_ := Aside0.mk (Kd.R_below (by (with_reducible repeat (first | apply Kd.R_alloc | apply Kd.R_drewN | apply Kd.R_drew)); exact ag.out) hb); have n1_ := Aside0.mk (below_step bw hb); have n2_ := Aside0.mk (hbox); have n3_ := Aside0.mk ((g1 hg bw : w.heap.size ≤ ab)); have n4_ := Aside0.mk ((g1 hg bw : w.heap.size ≤ ab)); clear ag; clear HB; have ag := n0_; have HB := n1_; have ac := n2_; have ah := n3_; have ai := n4_; clear n0_ n1_ n2_ n3_ n4_; clear hb hbox hg; obtain ⟨hcz16_0, hcz16_1, hcz16_2, hfz16_0, hfz16_1, hfz16_2⟩ := bx3 ac.out))
    go_ret2
    exact ⟨er, bw⟩
   rw [if_neg c14] at H
   have c14b0 : decide (100000 < (((rd_T87 l0 x13_1).f2).size : Int)) = false := decide_eq_false c14
   have c14b1 : decide (100000 < ((rd_T87 l0 x13_1).f2).size) = false := decide_eq_false (by omega)
   clear c14
   replace H := Option.bind_eq_some_iff.mp H
   obtain ⟨t129, A170, H⟩ := H
   replace H : (if t129.length + ((rd_T87 l0 x13_1).f2).size < 140737488355328 then (codec_Encode.l0 k1 (t129 ++ bytesOf ((rd_T87 l0 x13_1).f2)) l0 (l0.length : Int) (wrap64 (x13_1 + 1))) else (none)) = some (r1, r2) := H
   have A17 := Aside0.mk A170
   clear A170
   by_cases c18 : t129.length + ((rd_T87 l0 x13_1).f2).size < 140737488355328; rotate_left
   ·rw [if_neg c18] at H
    exact absurd H (by simp)
   rw [if_pos c18] at H
   have LMc18 := Aside0.mk c18
   clear c18
   obtain ⟨y132, hy132⟩ : ∃ y_ : List Int, y_ = (t129 ++ bytesOf ((rd_T87 l0 x13_1).f2)) := ⟨_, rfl⟩
   replace H : (codec_Encode.l0 k1 y132 l0 (l0.length : Int) (wrap64 (x13_1 + 1))) = some (r1, r2) := by first | (rw [hy132]; with_reducible exact H) | (have H2_ := (Option.bind_some _ _).symm.trans H; rw [hy132]; with_reducible exact H2_) | (have H2_ := (Option.bind_some _ _).symm.trans H; with_reducible exact H2_) | with_reducible exact H | (rw [hy132]; exact H) | exact H
   have Ny132 := Aside0.mk hy132
   clear hy132
   have H' := Aside0.mk H
   clear H
   have p127 : 0 ≤ (x13_1 : Int) := od
   have q127 : x13_1 < (l0.length : Int) := od
   obtain ⟨aj, e127, ad, ae, af⟩ := at_T87 HR0.out x13_1 p127 q127
   cases e127
   replace ad := (HB.out.cell (World.block_lt_of_cell? w _ ad)).trans ad
   replace ae := (HB.out.cell (World.block_lt_of_cell? w _ ae)).trans ae
   replace af := (HB.out.cell (World.block_lt_of_cell? w _ af)).trans af
   replace p127 := eq_true p127
   replace q127 := eq_true q127
   try go_wp2_with (first | ((with_reducible refine gate_dst (N := 6) rfl ?_); refine box_event ?hg (N := 6) ?hd (cs := #[.int .i64 0, .int .u64 0, .string (⟨#[]⟩ : ByteArray)]) (t := 87) ?hr ?_; (case hd => rfl); (case hg => rfl); (case hr => first | (go_simp; done) | (go_simp; rfl)); intro ab hg w19 hbox hb; have n0_ := Aside0.mk (Kd.R_below (by (with_reducible repeat (first | apply Kd.R_alloc | apply Kd.R_drewN | apply Kd.R_drew)); exact ag.out) hb); have n1_ := Aside0.mk (below_step bw hb); have n2_ := Aside0.mk (hbox); have n3_ := Aside0.mk ((g1 hg bw : w.heap.size ≤ ab)); have n4_ := Aside0.mk ((g1 hg bw : w.heap.size ≤ ab)); clear ag; clear HB; have ag := n0_; have HB := n1_; have ac := n2_; have ah := n3_; have ai := n4_; clear n0_ n1_ n2_ n3_ n4_; clear hb hbox hg; obtain ⟨hcz20_0, hcz20_1, hcz20_2, hfz20_0, hfz20_1, hfz20_2⟩ := bx3 ac.out))
   have n0_ : Aside0 (Kd.R (Kd.int .u8) 5 (((w19.setCell ⟨ab, 0, none⟩ (.int .i64 ((rd_T87 l0 x13_1).f0))).setCell ⟨ab, 1, none⟩ (.int .u64 ((rd_T87 l0 x13_1).f1))).setCell ⟨ab, 2, none⟩ (.string ((rd_T87 l0 x13_1).f2))) w.heap.size (fun _ => True) u4 x4_1) := ⟨by (with_reducible repeat (first | apply Kd.R_alloc | apply Kd.R_drewN | apply Kd.R_drew)); exact Kd.R_mono (Kd.R_far (p := ⟨ab, 2, none⟩) (Kd.R_far (p := ⟨ab, 1, none⟩) (Kd.R_far (p := ⟨ab, 0, none⟩) (Kd.R_types ag.out ac.out (by decide)) (fun _ hk => hk.2) (.int .i64 ((rd_T87 l0 x13_1).f0))) (fun _ hk => hk.2) (.int .u64 ((rd_T87 l0 x13_1).f1))) (fun _ hk => hk.2) (.string ((rd_T87 l0 x13_1).f2))) (fun _ hk => trivial)⟩
   have n1_ : Aside0 ((((w19.setCell ⟨ab, 0, none⟩ (.int .i64 ((rd_T87 l0 x13_1).f0))).setCell ⟨ab, 1, none⟩ (.int .u64 ((rd_T87 l0 x13_1).f1))).setCell ⟨ab, 2, none⟩ (.string ((rd_T87 l0 x13_1).f2))).heap[ab]? = some (.cells #[.int .i64 ((rd_T87 l0 x13_1).f0), .int .u64 ((rd_T87 l0 x13_1).f1), .string ((rd_T87 l0 x13_1).f2)] 87 (0, 0))) := ⟨by (with_reducible repeat (first | refine blk_drewN ?_ _ | refine blk_drew ?_ | refine blk_alloc ?_ _)); refine blk_put (cs := #[.int .i64 ((rd_T87 l0 x13_1).f0), .int .u64 ((rd_T87 l0 x13_1).f1), .string (⟨#[]⟩ : ByteArray)]) ?_ 2 _ rfl; (with_reducible repeat (first | refine blk_drewN ?_ _ | refine blk_drew ?_ | refine blk_alloc ?_ _)); refine blk_put (cs := #[.int .i64 ((rd_T87 l0 x13_1).f0), .int .u64 0, .string (⟨#[]⟩ : ByteArray)]) ?_ 1 _ rfl; (with_reducible repeat (first | refine blk_drewN ?_ _ | refine blk_drew ?_ | refine blk_alloc ?_ _)); refine blk_put (cs := #[.int .i64 0, .int .u64 0, .string (⟨#[]⟩ : ByteArray)]) ?_ 0 _ rfl; (with_reducible repeat (first | refine blk_drewN ?_ _ | refine blk_drew ?_ | refine blk_alloc ?_ _)); exact ac.out⟩
   have n2_ : Aside0 (Below w.heap.size w (((w19.setCell ⟨ab, 0, none⟩ (.int .i64 ((rd_T87 l0 x13_1).f0))).setCell ⟨ab, 1, none⟩ (.int .u64 ((rd_T87 l0 x13_1).f1))).setCell ⟨ab, 2, none⟩ (.string ((rd_T87 l0 x13_1).f2)))) := ⟨bw⟩
   (try clear ag)
   (try clear ac)
   (try clear HB)
   generalize (((w19.setCell ⟨ab, 0, none⟩ (.int .i64 ((rd_T87 l0 x13_1).f0))).setCell ⟨ab, 1, none⟩ (.int .u64 ((rd_T87 l0 x13_1).f1))).setCell ⟨ab, 2, none⟩ (.string ((rd_T87 l0 x13_1).f2))) = w21 at n0_ n1_ n2_ ⊢
   have ag := n0_
   have ac := n1_
   have HB := n2_
   clear n0_ n1_ n2_
   have n0_ := Aside0.mk (Kd.R_drew ag.out)
   have n1_ := Aside0.mk (blk_drew ac.out)
   have n2_ := Aside0.mk (below_drew1 HB.out)
   clear ag
   clear ac
   clear HB
   have ag := n0_
   have ac := n1_
   have HB := n2_
   clear n0_ n1_ n2_
   obtain ⟨an, ao, ax⟩ := Kd.R_slice ag.out
   (first | subst ax | (injection ax with f1_ f2_ f3_; have f4_ := f1_.symm; have f5_ := f3_.symm; clear f1_ f2_ f3_; subst f4_; subst f5_))
   refine start_ (n := 10) (S := fun w' => w'.cell? ⟨ab, 0, none⟩ = some (.int .i64 ((rd_T87 l0 x13_1).f0)) ∧ w'.cell? ⟨ab, 1, none⟩ = some (.int .u64 ((rd_T87 l0 x13_1).f1)) ∧ w'.cell? ⟨ab, 2, none⟩ = some (.string ((rd_T87 l0 x13_1).f2))) (ds := []) (bz 10 0) (by kernel_rfl) rfl rfl ⟨(blk_cell ac.out 0).trans rfl, (blk_cell ac.out 1).trans rfl, (blk_cell ac.out 2).trans rfl⟩ (fun hHeld => ?_); refine with_tabW codec_Encode.tab14 codec_Encode.bits14 (fun HT_ HW_ => ?_)
   generalize w21.drew = w22 at ag ac HB hHeld ⊢
   refine pu_ 0 (some 35) (bz 10 1) HT_.out ?_
   refine pu_ 1 (some 36) (bz 10 3) HT_.out ?_
   refine pu_ 6 (some 41) (bz 10 67) HT_.out ?_
   refine take_ (i := 2) (N := some 37) (v := ?_) (a' := ?_) (bz 10 71) rfl rfl (take_ofW HT_.out HW_.out (by kernel_rfl)) (fun _ _ _ h => h) (Or.inl ⟨by rfl, ?_⟩) hHeld ?_ ?_
   rotate_left
   ·rintro w' ⟨s0, s1, s2⟩
    go_simp
    with_reducible rfl
   rotate_left
   ·simp only [Act.put, sl1, sl2, sl3, i64_w, i32_w]
    rfl
   refine pu_ 3 (some 38) (bz 10 79) HT_.out ?_
   refine pu_ 4 (some 39) (bz 10 95) HT_.out ?_
   refine take_ (i := 7) (N := some 42) (v := ?_) (a' := ?_) (bz 10 223) rfl rfl (take_ofW HT_.out HW_.out (by kernel_rfl)) (fun _ _ _ h => h) (Or.inl ⟨by rfl, ?_⟩) hHeld ?_ ?_
   rotate_left
   ·rintro w' ⟨s0, s1, s2⟩
    go_simp
    with_reducible rfl
   rotate_left
   ·simp only [Act.put, sl1, sl2, sl3, i64_w, i32_w]
    rfl
   refine one_ (i := 5) (N := some 40) (bz 10 255) rfl rfl (one_of HT_.out (by kernel_rfl)) (by decide) (fun K hK => ?_)
   refine goes_ Tryd.func42 (by kernel_rfl) rfl #[.slice an x4_1.length ao, .int .u64 (IntKind.u64.wrap ((((rd_T87 l0 x13_1).f2).size : Int))), .int .i64 4] (by rfl) rfl rfl am ?_
   with_reducible refine (codec_put.calls k1 (fun k_ => some k_ = (.slice an x4_1.length ao : Value).ownBlock) (.slice an x4_1.length ao) x4_1 (IntKind.u64.wrap ((((rd_T87 l0 x13_1).f2).size : Int))) 4 t129 w _ ?side1 ?side2 A17.out).mono ?_
   (case side1 => repeat (first | (with_reducible first | exact HB.out | apply below_alloc | apply pw_below_drewN | apply below_drew1 | refine below_set ?_ ai.out) | exact HB.out))
   (case side2 => exact Kd.R_tight rfl ag.out)
   rintro e w24 ⟨v130, rfl, ho0, hb, hkp⟩
   refine ⟨_, rfl, ?_⟩
   have n0_ := Aside0.mk (blk_kept (bk ac.out) hkp (fun hs_ => (fun e_ => (Kd.R_ne ag.out ac.out (by decide)) e_) hs_))
   have n1_ := Aside0.mk (Kd.R_mono (ok' := fun k_ => True) ho0 (fun k_ hk_ => trivial))
   have n2_ := Aside0.mk (hb)
   clear ac
   clear HB
   clear ag
   have ac := n0_
   have al := n1_
   have HB := n2_
   clear n0_ n1_ n2_
   (try clear hb)
   (try clear hkp)
   (try clear ho0)
   refine hK.out _ _ ⟨(blk_cell ac.out 0).trans rfl, (blk_cell ac.out 1).trans rfl, (blk_cell ac.out 2).trans rfl⟩ (fun hHeld => ?_)
   clear hK K
   refine norm_ (a' := ?_) ?_ ?_
   rotate_left
   ·show Act.put _ (some 40) _ = _
    simp only [Act.put, sl1, sl2, sl3, i64_w, i32_w]
    rfl
   refine one_ (i := 8) (N := some 43) (bz 10 511) rfl rfl (one_of HT_.out (by kernel_rfl)) (by decide) (fun K hK => ?_)
   refine step_append_str (w0 := w) w.heap.size (by rfl) (.tmp 40) _ 79 9 5 rfl Tryd.underlying79 Tryd.underlying9 info5 v130 t129 ((rd_T87 l0 x13_1).f2) rfl rfl ?aO ?aB ?aS ?aL ?_
   (case aB => exact bw)
   (case aO => exact (Kd.own_of_R (by (with_reducible repeat (first | apply Kd.R_alloc | apply Kd.R_drewN | apply Kd.R_drew)); exact al.out)))
   (case aS => exact (below_size bw))
   (case aL => have := LMc18.out; omega)
   intro v133 w25 ho0 hb hg
   have ho := Kd.R_of_own (h1 := fun _ => rfl) (ok := fun _ => True) ho0 (fun _ _ => trivial)
   clear ho0
   have hat := True.intro
   rw [← Ny132.out] at ho
   change Kd.R (Kd.int .u8) 5 w25 w.heap.size (fun _ => True) v133 y132 at ho
   have n0_ := Aside0.mk (blk_grown (g := ab) (o := .cells #[.int .i64 ((rd_T87 l0 x13_1).f0), .int .u64 ((rd_T87 l0 x13_1).f1), .string ((rd_T87 l0 x13_1).f2)] 87 (0, 0)) (bk ac.out) hg (Kd.R_ne al.out ac.out (by decide)))
   have n1_ := Aside0.mk (hb)
   have n2_ := Aside0.mk (ho)
   clear ac
   clear HB
   clear al
   have ac := n0_
   have HB := n1_
   have HO134 := n2_
   clear n0_ n1_ n2_
   clear ho hb hg hat
   refine hK.out _ _ ⟨(blk_cell ac.out 0).trans rfl, (blk_cell ac.out 1).trans rfl, (blk_cell ac.out 2).trans rfl⟩ (fun hHeld => ?_)
   clear hK K
   refine norm_ (a' := ?_) ?_ ?_
   rotate_left
   ·show Act.put _ (some 43) _ = _
    simp only [Act.put, sl1, sl2, sl3, i64_w, i32_w]
    rfl
   refine pu_ 9 (some 4) (bz 10 1023) HT_.out ?_
   refine done_ (done_of HT_.out (by kernel_rfl)) ?_
   try go_wp2
   go_roundg k1
   case measure => have := HK1.out; omega
   case rel => exact ⟨(y132), (wrap64 (x13_1 + 1)), (by first | rfl | (simp; done) | (simp [*]; done)), H', ⟨by have := HK1.out; omega⟩, ⟨by (with_reducible repeat (first | apply Kd.R_alloc | apply Kd.R_drewN | apply Kd.R_drew)); exact HO134.out⟩, ⟨bw⟩⟩

end Go.Proofs.YtnmcknfkmelnbaaDoor.P
