-- Printed by this session's program wip/xp.py (a turned copy of the kit's printer): functions, their contracts.
import Derived.Test.YtocgbfcjmgpleaaDoorPx0
import Derived.Test.YtocgbfcjmgpleaaDoorPx3
import Derived.Test.YtocgbfcjmgpleaaDoorPx4
import Derived.Test.YtocgbfcjmgpleaaDoorPx6
namespace Go.Proofs.YtocgbfcjmgpleaaDoor.P
open Go.RowKit Go.Proofs.YtocgbfcjmgpleaaDoorW.PrintWords Go.Proofs.YtocgbfcjmgpleaaDoorW.PrintLast Go.Proofs.YtocgbfcjmgpleaaDoorW.PrintMore
attribute [local go_sem] max2_int min2_int max_two min_two max_three min_three max_four min_four   -- for this text's walks alone
set_option linter.unusedVariables false
set_option linter.unusedSimpArgs false

attribute [local go_sem high] eqA59
/-! ### acceptor_Take: function 12 -/
def acceptor_Take.f (a0_0 : Int) (a0_1 : Int) (a0_2 : Int) (a0_3 : Int) (a0_4 : ByteArray) (a1_0 : Int) (a1_1 : Int) (a2 : ByteArray) : Option (Int × Int × Int × Int × ByteArray × Bool) := (acceptor_Prepare.f a0_0 a0_1 a0_2 a0_3 a0_4 a1_0 a1_1).bind fun bt133 => (if bt133.2.2.2.2.2 = true then (if (a2.size : Int) > 100000 then (some (a0_0, a0_1, a0_2, a0_3, a0_4, false)) else ((acceptor_pair.f a0_2 a0_3).bind fun bt140 => ((acceptor_pair.f a1_0 a1_1).bind fun bt142 => (if (bt140.1 == bt142.1 && (bt140.2 == bt142.2)) = true then (if a0_4.toList = a2.toList then (some (bt133.1, bt133.2.1, a1_0, a1_1, a2, true)) else (some (a0_0, a0_1, a0_2, a0_3, a0_4, false))) else (some (bt133.1, bt133.2.1, a1_0, a1_1, a2, true)))))) else (some (a0_0, a0_1, a0_2, a0_3, a0_4, false)))
def acceptor_Take.T2 : Bool × List (List Nat × List Nat) := (true, [([], []), ([0], [0]), ([1], [1]), ([2], [2]), ([3, 2], [2, 3]), ([4, 2], [2, 4]), ([2, 5], [2, 5]), ([6, 2], [6]), ([7], [7]), ([8, 7], [7, 8]), ([9, 7, 7], [7, 9]), ([7], [7]), ([11, 10, 7], [7, 11]), ([10, 12, 7], [7, 10, 12]), ([13, 12, 7], [7, 13]), ([14], [14]), ([15, 14], [14, 15]), ([14], [14]), ([16, 17, 14], [14, 16, 17]), ([14, 18, 7], [7, 14, 18]), ([7, 19], [7, 19])])
def acceptor_Take.B2 : List Nat := [0, 1, 3, 7, 15, 31, 63, 127, 255, 511, 1023, 255, 4095, 8191, 16383, 32767, 65535, 32767, 262143, 524287, 1048575]
theorem acceptor_Take.tab2 : rtab .any (opsOf Tryd.f12 2) = acceptor_Take.T2 := by kernel_rfl
theorem acceptor_Take.bits2 : waitsOk acceptor_Take.T2.2 acceptor_Take.B2 = true := by kernel_rfl
set_option maxHeartbeats 8000000 in
set_option maxRecDepth 100000 in
theorem acceptor_Take.calls (a0_0 : Int) (a0_1 : Int) (a0_2 : Int) (a0_3 : Int) (a0_4 : ByteArray) (a1_0 : Int) (a1_1 : Int) (a2 : ByteArray) (r1 : Int) (r2 : Int) (r3 : Int) (r4 : Int) (r5 : ByteArray) (r6 : Bool) (w : World) (h : acceptor_Take.f a0_0 a0_1 a0_2 a0_3 a0_4 a1_0 a1_1 a2 = some (r1, r2, r3, r4, r5, r6)) :
  Calls Tryd.prog 12 #[.agg #[.int .i64 a0_0, .int .i64 a0_1, .int .i64 a0_2, .int .i64 a0_3, .string a0_4], .agg #[.int .i64 a1_0, .int .i64 a1_1], .string a2] w fun e w' => e = .returned (.tuple #[.agg #[.int .i64 r1, .int .i64 r2, .int .i64 r3, .int .i64 r4, .string r5], .bool r6]) ∧ Below w.heap.size w w' := by
 have hu25 := Tryd.underlying25
 have hu23 := Tryd.underlying23
 have HB := Aside0.mk (Below.refl w.heap.size w)
 have H : ((acceptor_Prepare.f a0_0 a0_1 a0_2 a0_3 a0_4 a1_0 a1_1).bind fun bt133 => (if bt133.2.2.2.2.2 = true then (if (a2.size : Int) > 100000 then (some (a0_0, a0_1, a0_2, a0_3, a0_4, false)) else ((acceptor_pair.f a0_2 a0_3).bind fun bt140 => ((acceptor_pair.f a1_0 a1_1).bind fun bt142 => (if (bt140.1 == bt142.1 && (bt140.2 == bt142.2)) = true then (if a0_4.toList = a2.toList then (some (bt133.1, bt133.2.1, a1_0, a1_1, a2, true)) else (some (a0_0, a0_1, a0_2, a0_3, a0_4, false))) else (some (bt133.1, bt133.2.1, a1_0, a1_1, a2, true)))))) else (some (a0_0, a0_1, a0_2, a0_3, a0_4, false)))) = some (r1, r2, r3, r4, r5, r6) := h
 clear h
 replace H := Option.bind_eq_some_iff.mp H
 obtain ⟨⟨t133, t134, t135, t136, t137, t138⟩, A40, H⟩ := H
 replace H : (if t138 = true then (if (a2.size : Int) > 100000 then (some (a0_0, a0_1, a0_2, a0_3, a0_4, false)) else ((acceptor_pair.f a0_2 a0_3).bind fun bt140 => ((acceptor_pair.f a1_0 a1_1).bind fun bt142 => (if (bt140.1 == bt142.1 && (bt140.2 == bt142.2)) = true then (if a0_4.toList = a2.toList then (some (t133, t134, a1_0, a1_1, a2, true)) else (some (a0_0, a0_1, a0_2, a0_3, a0_4, false))) else (some (t133, t134, a1_0, a1_1, a2, true)))))) else (some (a0_0, a0_1, a0_2, a0_3, a0_4, false))) = some (r1, r2, r3, r4, r5, r6) := H
 have A4 := Aside0.mk A40
 clear A40
 by_cases c5 : t138 = true
 ·subst c5
  have H1 : (if (a2.size : Int) > 100000 then (some (a0_0, a0_1, a0_2, a0_3, a0_4, false)) else ((acceptor_pair.f a0_2 a0_3).bind fun bt140 => ((acceptor_pair.f a1_0 a1_1).bind fun bt142 => (if (bt140.1 == bt142.1 && (bt140.2 == bt142.2)) = true then (if a0_4.toList = a2.toList then (some (t133, t134, a1_0, a1_1, a2, true)) else (some (a0_0, a0_1, a0_2, a0_3, a0_4, false))) else (some (t133, t134, a1_0, a1_1, a2, true)))))) = some (r1, r2, r3, r4, r5, r6) := by rw [if_pos rfl] at H; exact H
  clear H
  have H := H1
  clear H1
  by_cases c6 : (a2.size : Int) > 100000
  ·rw [if_pos c6] at H
   have c6b0 : decide (100000 < (a2.size : Int)) = true := decide_eq_true c6
   have c6b1 : decide (100000 < a2.size) = true := decide_eq_true (by omega)
   clear c6
   simp only [Option.some.injEq, Prod.mk.injEq] at H
   obtain ⟨rfl, rfl, rfl, rfl, rfl, rfl⟩ := H
   go_enter Tryd.func12, Tryd.ntmps12
   try go_wp2_with (first | ((with_reducible refine gate_dst (N := 3) rfl ?_); (try (refine gate_guard (by rfl) ?_; dsimp only)); refine box_event ?hg (N := 3) ?hd (cs := #[.int .i64 a0_0, .int .i64 a0_1, .int .i64 a0_2, .int .i64 a0_3, .string a0_4]) (t := 25) ?hr ?_; (case hd => rfl); (case hg => rfl); (case hr => first | (go_simp; done) | (go_simp; rfl)); intro gb130 hg w7 hbox hb; have n0_ := Aside0.mk (below_step bw hb); have n1_ := Aside0.mk (hbox); have n2_ := Aside0.mk ((g1 hg bw : w.heap.size ≤ gb130)); have n3_ := Aside0.mk ((g1 hg bw : w.heap.size ≤ gb130)); clear HB; have HB := n0_; have BK130 := n1_; have GW130 := n2_; have GE130 := n3_; clear n0_ n1_ n2_ n3_; clear hb hbox hg) | ((with_reducible refine gate_dst (N := 4) rfl ?_); (try (refine gate_guard (by rfl) ?_; dsimp only)); refine box_event ?hg (N := 4) ?hd (cs := #[.int .i64 a1_0, .int .i64 a1_1]) (t := 23) ?hr ?_; (case hd => rfl); (case hg => rfl); (case hr => first | (go_simp; done) | (go_simp; rfl)); intro gb131 hg w8 hbox hb; have n0_ := Aside0.mk (nb BK130.out hb); have n1_ := Aside0.mk (below_step bw hb); have n2_ := Aside0.mk (hbox); have n3_ := Aside0.mk ((g1 hg bw : w.heap.size ≤ gb131)); have n4_ := Aside0.mk ((g1 hg bw : w.heap.size ≤ gb131)); have n5_ := Aside0.mk ((n1 hg BK130.out : gb130 ≠ gb131)); have n6_ := Aside0.mk ((n2 hg BK130.out : gb131 ≠ gb130)); clear BK130; clear HB; have BK130 := n0_; have HB := n1_; have BK131 := n2_; have GW131 := n3_; have GE131 := n4_; have NB130_131 := n5_; have NB131_130 := n6_; clear n0_ n1_ n2_ n3_ n4_ n5_ n6_; clear hb hbox hg) | ((with_reducible refine gate_dst (N := 6) rfl ?_); (try (refine gate_guard (by rfl) ?_; dsimp only)); refine box_event ?hg (N := 6) ?hd (cs := #[.int .i64 0, .int .i64 0, .int .i64 0, .int .i64 0, .string (⟨#[]⟩ : ByteArray)]) (t := 25) ?hr ?_; (case hd => rfl); (case hg => rfl); (case hr => first | (go_simp; done) | (go_simp; rfl)); intro gb132 hg w9 hbox hb; have n0_ := Aside0.mk (nb BK130.out hb); have n1_ := Aside0.mk (nb BK131.out hb); have n2_ := Aside0.mk (below_step bw hb); have n3_ := Aside0.mk (hbox); have n4_ := Aside0.mk ((g1 hg bw : w.heap.size ≤ gb132)); have n5_ := Aside0.mk ((g1 hg bw : w.heap.size ≤ gb132)); have n6_ := Aside0.mk ((n1 hg BK130.out : gb130 ≠ gb132)); have n7_ := Aside0.mk ((n2 hg BK130.out : gb132 ≠ gb130)); have n8_ := Aside0.mk ((n1 hg BK131.out : gb131 ≠ gb132)); have n9_ := Aside0.mk ((n2 hg BK131.out : gb132 ≠ gb131)); clear BK130; clear BK131; clear HB; have BK130 := n0_; have BK131 := n1_; have HB := n2_; have BK132 := n3_; have GW132 := n4_; have GE132 := n5_; have NB130_132 := n6_; have NB132_130 := n7_; have NB131_132 := n8_; have NB132_131 := n9_; clear n0_ n1_ n2_ n3_ n4_ n5_ n6_ n7_ n8_ n9_; clear hb hbox hg; have hnb10 := NB130_131.out; have hnc10 := NB131_130.out; have hnb11 := NB130_132.out; have hnc11 := NB132_130.out; have hcz12_0 := bc5_0 BK130.out; have hcz12_1 := bc5_1 BK130.out; have hcz12_2 := bc5_2 BK130.out; have hcz12_3 := bc5_3 BK130.out; have hcz12_4 := bc5_4 BK130.out; have hfz12_0 := blk_frozen BK130.out 0; have hfz12_1 := blk_frozen BK130.out 1; have hfz12_2 := blk_frozen BK130.out 2; have hfz12_3 := blk_frozen BK130.out 3; have hfz12_4 := blk_frozen BK130.out 4; have hnb13 := NB131_132.out; have hnc13 := NB132_131.out; have hcz14_0 := bc2_0 BK131.out; have hcz14_1 := bc2_1 BK131.out; have hfz14_0 := blk_frozen BK131.out 0; have hfz14_1 := blk_frozen BK131.out 1) | ((with_reducible refine gate_callee (f := 11) rfl ?_); refine goesL_ (some 13) rfl rfl Tryd.func11 (by kernel_rfl) rfl #[.agg #[.int .i64 a0_0, .int .i64 a0_1, .int .i64 a0_2, .int .i64 a0_3, .string a0_4], .agg #[.int .i64 a1_0, .int .i64 a1_1]] rfl am ?_; (with_reducible refine (acceptor_Prepare.calls a0_0 a0_1 a0_2 a0_3 a0_4 a1_0 a1_1 t133 t134 t135 t136 t137 true _ A4.out).mono ?_); rintro e w15 ⟨rfl, hb⟩; refine ⟨_, rfl, ?_⟩; have n0_ := Aside0.mk (nb BK130.out hb); have n1_ := Aside0.mk (nb BK131.out hb); have n2_ := Aside0.mk (nb BK132.out hb); have n3_ := Aside0.mk (below_step bw hb); clear BK130; clear BK131; clear BK132; clear HB; have BK130 := n0_; have BK131 := n1_; have BK132 := n2_; have HB := n3_; clear n0_ n1_ n2_ n3_; (try clear hb); (try clear hb2); (try clear hk); (try clear hi)) | ((with_reducible refine gate_dst (N := 8) rfl ?_); (try (refine gate_guard (by rfl) ?_; dsimp only)); refine box_event ?hg (N := 8) ?hd (cs := #[.int .i64 0, .int .i64 0, .int .i64 0, .int .i64 0, .string (⟨#[]⟩ : ByteArray)]) (t := 25) ?hr ?_; (case hd => rfl); (case hg => rfl); (case hr => first | (go_simp; done) | (go_simp; rfl)); intro gb139 hg w16 hbox hb; have n0_ := Aside0.mk (nb BK130.out hb); have n1_ := Aside0.mk (nb BK131.out hb); have n2_ := Aside0.mk (nb BK132.out hb); have n3_ := Aside0.mk (below_step bw hb); have n4_ := Aside0.mk (hbox); have n5_ := Aside0.mk ((g1 hg bw : w.heap.size ≤ gb139)); have n6_ := Aside0.mk ((g1 hg bw : w.heap.size ≤ gb139)); have n7_ := Aside0.mk ((n1 hg BK130.out : gb130 ≠ gb139)); have n8_ := Aside0.mk ((n2 hg BK130.out : gb139 ≠ gb130)); have n9_ := Aside0.mk ((n1 hg BK131.out : gb131 ≠ gb139)); have n10_ := Aside0.mk ((n2 hg BK131.out : gb139 ≠ gb131)); have n11_ := Aside0.mk ((n1 hg BK132.out : gb132 ≠ gb139)); have n12_ := Aside0.mk ((n2 hg BK132.out : gb139 ≠ gb132)); clear BK130; clear BK131; clear BK132; clear HB; have BK130 := n0_; have BK131 := n1_; have BK132 := n2_; have HB := n3_; have BK139 := n4_; have GW139 := n5_; have GE139 := n6_; have NB130_139 := n7_; have NB139_130 := n8_; have NB131_139 := n9_; have NB139_131 := n10_; have NB132_139 := n11_; have NB139_132 := n12_; clear n0_ n1_ n2_ n3_ n4_ n5_ n6_ n7_ n8_ n9_ n10_ n11_ n12_; clear hb hbox hg; have hnb17 := NB139_130.out; have hnc17 := NB130_139.out; have hnb18 := NB139_131.out; have hnc18 := NB131_139.out; have hnb19 := NB139_132.out; have hnc19 := NB132_139.out; have hcz20_0 := bc5_0 BK139.out; have hcz20_1 := bc5_1 BK139.out; have hcz20_2 := bc5_2 BK139.out; have hcz20_3 := bc5_3 BK139.out; have hcz20_4 := bc5_4 BK139.out; have hfz20_0 := blk_frozen BK139.out 0; have hfz20_1 := blk_frozen BK139.out 1; have hfz20_2 := blk_frozen BK139.out 2; have hfz20_3 := blk_frozen BK139.out 3; have hfz20_4 := blk_frozen BK139.out 4))
   have n0_ : Aside0 ((((((w16.setCell ⟨gb139, 0, none⟩ (.int .i64 t133)).setCell ⟨gb139, 1, none⟩ (.int .i64 t134)).setCell ⟨gb139, 2, none⟩ (.int .i64 t135)).setCell ⟨gb139, 3, none⟩ (.int .i64 t136)).setCell ⟨gb139, 4, none⟩ (.string t137)).heap[gb130]? = some (.cells #[.int .i64 a0_0, .int .i64 a0_1, .int .i64 a0_2, .int .i64 a0_3, .string a0_4] 25 (0, 0))) := ⟨by (with_reducible repeat (first | refine blk_drewN ?_ _ | refine blk_drew ?_ | refine blk_alloc ?_ _ | refine blk_far ?_ NB130_139.out _)); exact BK130.out⟩
   have n1_ : Aside0 ((((((w16.setCell ⟨gb139, 0, none⟩ (.int .i64 t133)).setCell ⟨gb139, 1, none⟩ (.int .i64 t134)).setCell ⟨gb139, 2, none⟩ (.int .i64 t135)).setCell ⟨gb139, 3, none⟩ (.int .i64 t136)).setCell ⟨gb139, 4, none⟩ (.string t137)).heap[gb131]? = some (.cells #[.int .i64 a1_0, .int .i64 a1_1] 23 (0, 0))) := ⟨by (with_reducible repeat (first | refine blk_drewN ?_ _ | refine blk_drew ?_ | refine blk_alloc ?_ _ | refine blk_far ?_ NB131_139.out _)); exact BK131.out⟩
   have n2_ : Aside0 ((((((w16.setCell ⟨gb139, 0, none⟩ (.int .i64 t133)).setCell ⟨gb139, 1, none⟩ (.int .i64 t134)).setCell ⟨gb139, 2, none⟩ (.int .i64 t135)).setCell ⟨gb139, 3, none⟩ (.int .i64 t136)).setCell ⟨gb139, 4, none⟩ (.string t137)).heap[gb132]? = some (.cells #[.int .i64 0, .int .i64 0, .int .i64 0, .int .i64 0, .string (⟨#[]⟩ : ByteArray)] 25 (0, 0))) := ⟨by (with_reducible repeat (first | refine blk_drewN ?_ _ | refine blk_drew ?_ | refine blk_alloc ?_ _ | refine blk_far ?_ NB132_139.out _)); exact BK132.out⟩
   have n3_ : Aside0 ((((((w16.setCell ⟨gb139, 0, none⟩ (.int .i64 t133)).setCell ⟨gb139, 1, none⟩ (.int .i64 t134)).setCell ⟨gb139, 2, none⟩ (.int .i64 t135)).setCell ⟨gb139, 3, none⟩ (.int .i64 t136)).setCell ⟨gb139, 4, none⟩ (.string t137)).heap[gb139]? = some (.cells #[.int .i64 t133, .int .i64 t134, .int .i64 t135, .int .i64 t136, .string t137] 25 (0, 0))) := ⟨by (with_reducible repeat (first | refine blk_drewN ?_ _ | refine blk_drew ?_ | refine blk_alloc ?_ _)); refine blk_put (cs := #[.int .i64 t133, .int .i64 t134, .int .i64 t135, .int .i64 t136, .string (⟨#[]⟩ : ByteArray)]) ?_ 4 _ rfl; (with_reducible repeat (first | refine blk_drewN ?_ _ | refine blk_drew ?_ | refine blk_alloc ?_ _)); refine blk_put (cs := #[.int .i64 t133, .int .i64 t134, .int .i64 t135, .int .i64 0, .string (⟨#[]⟩ : ByteArray)]) ?_ 3 _ rfl; (with_reducible repeat (first | refine blk_drewN ?_ _ | refine blk_drew ?_ | refine blk_alloc ?_ _)); refine blk_put (cs := #[.int .i64 t133, .int .i64 t134, .int .i64 0, .int .i64 0, .string (⟨#[]⟩ : ByteArray)]) ?_ 2 _ rfl; (with_reducible repeat (first | refine blk_drewN ?_ _ | refine blk_drew ?_ | refine blk_alloc ?_ _)); refine blk_put (cs := #[.int .i64 t133, .int .i64 0, .int .i64 0, .int .i64 0, .string (⟨#[]⟩ : ByteArray)]) ?_ 1 _ rfl; (with_reducible repeat (first | refine blk_drewN ?_ _ | refine blk_drew ?_ | refine blk_alloc ?_ _)); refine blk_put (cs := #[.int .i64 0, .int .i64 0, .int .i64 0, .int .i64 0, .string (⟨#[]⟩ : ByteArray)]) ?_ 0 _ rfl; (with_reducible repeat (first | refine blk_drewN ?_ _ | refine blk_drew ?_ | refine blk_alloc ?_ _)); exact BK139.out⟩
   have n4_ : Aside0 (Below w.heap.size w (((((w16.setCell ⟨gb139, 0, none⟩ (.int .i64 t133)).setCell ⟨gb139, 1, none⟩ (.int .i64 t134)).setCell ⟨gb139, 2, none⟩ (.int .i64 t135)).setCell ⟨gb139, 3, none⟩ (.int .i64 t136)).setCell ⟨gb139, 4, none⟩ (.string t137))) := ⟨bw⟩
   (try clear BK130)
   (try clear BK131)
   (try clear BK132)
   (try clear BK139)
   (try clear HB)
   generalize (((((w16.setCell ⟨gb139, 0, none⟩ (.int .i64 t133)).setCell ⟨gb139, 1, none⟩ (.int .i64 t134)).setCell ⟨gb139, 2, none⟩ (.int .i64 t135)).setCell ⟨gb139, 3, none⟩ (.int .i64 t136)).setCell ⟨gb139, 4, none⟩ (.string t137)) = w21 at n0_ n1_ n2_ n3_ n4_ ⊢
   have BK130 := n0_
   have BK131 := n1_
   have BK132 := n2_
   have BK139 := n3_
   have HB := n4_
   clear n0_ n1_ n2_ n3_ n4_
   have n0_ := Aside0.mk (blk_drew BK130.out)
   have n1_ := Aside0.mk (blk_drew BK131.out)
   have n2_ := Aside0.mk (blk_drew BK132.out)
   have n3_ := Aside0.mk (blk_drew BK139.out)
   have n4_ := Aside0.mk (below_drew1 HB.out)
   clear BK130
   clear BK131
   clear BK132
   clear BK139
   clear HB
   have BK130 := n0_
   have BK131 := n1_
   have BK132 := n2_
   have BK139 := n3_
   have HB := n4_
   clear n0_ n1_ n2_ n3_ n4_
   refine start_ (n := 21) (S := fun w' => True) (ds := []) #[false, false, false, false, false, false, false, false, false, false, false, false, false, false, false, false, false, false, false, false, false] (by kernel_rfl) rfl rfl trivial (fun hHeld => ?_); refine with_tabW acceptor_Take.tab2 acceptor_Take.bits2 (fun HT_ HW_ => ?_)
   generalize w21.drew = w22 at BK130 BK131 BK132 BK139 HB hHeld ⊢
   refine pure_ (i := 0) (N := some 16) (v := ?_) (a' := ?_) #[true, false, false, false, false, false, false, false, false, false, false, false, false, false, false, false, false, false, false, false, false] rfl rfl (any_of HT_.out (by kernel_rfl)) (fun _ _ _ h => h) (Or.inl ⟨by rfl, ?_⟩) ?_ ?_
   rotate_left
   ·intro w'
    go_simp
    with_reducible rfl
   rotate_left
   ·simp only [Act.put, sl1, sl2, sl3, i64_w, i32_w]
    rfl
   refine pure_ (i := 1) (N := some 17) (v := ?_) (a' := ?_) #[true, true, false, false, false, false, false, false, false, false, false, false, false, false, false, false, false, false, false, false, false] rfl rfl (any_of HT_.out (by kernel_rfl)) (fun _ _ _ h => h) (Or.inl ⟨by rfl, ?_⟩) ?_ ?_
   rotate_left
   ·intro w'
    go_simp
    with_reducible rfl
   rotate_left
   ·simp only [Act.put, sl1, sl2, sl3, i64_w, i32_w]
    rfl
   refine pure_ (i := 2) (N := some 18) (v := ?_) (a' := ?_) #[true, true, true, false, false, false, false, false, false, false, false, false, false, false, false, false, false, false, false, false, false] rfl rfl (any_of HT_.out (by kernel_rfl)) (fun _ _ _ h => h) (Or.inl ⟨by rfl, ?_⟩) ?_ ?_
   rotate_left
   ·intro w'
    go_simp
    with_reducible rfl
   rotate_left
   ·simp only [Act.put, sl1, sl2, sl3, i64_w, i32_w]
    rfl
   refine pure_ (i := 3) (N := some 19) (v := ?_) (a' := ?_) #[true, true, true, true, false, false, false, false, false, false, false, false, false, false, false, false, false, false, false, false, false] rfl rfl (any_of HT_.out (by kernel_rfl)) (fun _ _ _ h => h) (Or.inl ⟨by rfl, ?_⟩) ?_ ?_
   rotate_left
   ·intro w'
    go_simp
    with_reducible rfl
   rotate_left
   ·simp only [Act.put, sl1, sl2, sl3, i64_w, i32_w]
    rfl
   refine pure_ (i := 4) (N := some 20) (v := ?_) (a' := ?_) #[true, true, true, true, true, false, false, false, false, false, false, false, false, false, false, false, false, false, false, false, false] rfl rfl (any_of HT_.out (by kernel_rfl)) (fun _ _ _ h => h) (Or.inl ⟨by rfl, ?_⟩) ?_ ?_
   rotate_left
   ·intro w'
    go_simp
    with_reducible rfl
   rotate_left
   ·simp only [Act.put, sl1, sl2, sl3, i64_w, i32_w]
    rfl
   refine pure_ (i := 5) (N := some 21) (v := ?_) (a' := ?_) #[true, true, true, true, true, true, false, false, false, false, false, false, false, false, false, false, false, false, false, false, false] rfl rfl (any_of HT_.out (by kernel_rfl)) (fun _ _ _ h => h) (Or.inl ⟨by rfl, ?_⟩) ?_ ?_
   rotate_left
   ·intro w'
    go_simp
    with_reducible rfl
   rotate_left
   ·simp only [Act.put, sl1, sl2, sl3, i64_w, i32_w]
    rfl
   refine pure_ (i := 6) (N := some 22) (v := ?_) (a' := ?_) #[true, true, true, true, true, true, true, false, false, false, false, false, false, false, false, false, false, false, false, false, false] rfl rfl (any_of HT_.out (by kernel_rfl)) (fun _ _ _ h => h) (Or.inl ⟨by rfl, ?_⟩) ?_ ?_
   rotate_left
   ·intro w'
    go_simp
    with_reducible rfl
   rotate_left
   ·simp only [Act.put, sl1, sl2, sl3, i64_w, i32_w]
    rfl
   refine pure_ (i := 7) (N := some 23) (v := ?_) (a' := ?_) #[true, true, true, true, true, true, true, true, false, false, false, false, false, false, false, false, false, false, false, false, false] rfl rfl (any_of HT_.out (by kernel_rfl)) (fun _ _ _ h => h) (Or.inl ⟨by rfl, ?_⟩) ?_ ?_
   rotate_left
   ·intro w'
    go_simp
    with_reducible rfl
   rotate_left
   ·simp only [Act.put, sl1, sl2, sl3, i64_w, i32_w]
    rfl
   refine pure_ (i := 8) (N := some 24) (v := undef) (a' := ?_) #[true, true, true, true, true, true, true, true, true, false, false, false, false, false, false, false, false, false, false, false, false] rfl rfl (any_of HT_.out (by kernel_rfl)) (fun _ _ _ h => h) (Or.inr ⟨by rfl, rfl⟩) ?_ ?_
   rotate_left
   ·simp only [Act.put, sl1, sl2, sl3, i64_w, i32_w]
    rfl
   refine pure_ (i := 9) (N := some 25) (v := undef) (a' := ?_) #[true, true, true, true, true, true, true, true, true, true, false, false, false, false, false, false, false, false, false, false, false] rfl rfl (any_of HT_.out (by kernel_rfl)) (fun _ _ _ h => h) (Or.inr ⟨by rfl, rfl⟩) ?_ ?_
   rotate_left
   ·simp only [Act.put, sl1, sl2, sl3, i64_w, i32_w]
    rfl
   refine pure_ (i := 10) (N := some 26) (v := undef) (a' := ?_) #[true, true, true, true, true, true, true, true, true, true, true, false, false, false, false, false, false, false, false, false, false] rfl rfl (any_of HT_.out (by kernel_rfl)) (fun _ _ _ h => h) (Or.inr ⟨by rfl, rfl⟩) ?_ ?_
   rotate_left
   ·simp only [Act.put, sl1, sl2, sl3, i64_w, i32_w]
    rfl
   refine pure_ (i := 11) (N := some 27) (v := undef) (a' := ?_) #[true, true, true, true, true, true, true, true, true, true, true, true, false, false, false, false, false, false, false, false, false] rfl rfl (any_of HT_.out (by kernel_rfl)) (fun _ _ _ h => h) (Or.inr ⟨by rfl, rfl⟩) ?_ ?_
   rotate_left
   ·simp only [Act.put, sl1, sl2, sl3, i64_w, i32_w]
    rfl
   refine pure_ (i := 12) (N := some 28) (v := undef) (a' := ?_) #[true, true, true, true, true, true, true, true, true, true, true, true, true, false, false, false, false, false, false, false, false] rfl rfl (any_of HT_.out (by kernel_rfl)) (fun _ _ _ h => h) (Or.inr ⟨by rfl, rfl⟩) ?_ ?_
   rotate_left
   ·simp only [Act.put, sl1, sl2, sl3, i64_w, i32_w]
    rfl
   refine pure_ (i := 13) (N := some 29) (v := undef) (a' := ?_) #[true, true, true, true, true, true, true, true, true, true, true, true, true, true, false, false, false, false, false, false, false] rfl rfl (any_of HT_.out (by kernel_rfl)) (fun _ _ _ h => h) (Or.inr ⟨by rfl, rfl⟩) ?_ ?_
   rotate_left
   ·simp only [Act.put, sl1, sl2, sl3, i64_w, i32_w]
    rfl
   refine pure_ (i := 14) (N := some 30) (v := undef) (a' := ?_) #[true, true, true, true, true, true, true, true, true, true, true, true, true, true, true, false, false, false, false, false, false] rfl rfl (any_of HT_.out (by kernel_rfl)) (fun _ _ _ h => h) (Or.inr ⟨by rfl, rfl⟩) ?_ ?_
   rotate_left
   ·simp only [Act.put, sl1, sl2, sl3, i64_w, i32_w]
    rfl
   refine pure_ (i := 15) (N := some 31) (v := undef) (a' := ?_) #[true, true, true, true, true, true, true, true, true, true, true, true, true, true, true, true, false, false, false, false, false] rfl rfl (any_of HT_.out (by kernel_rfl)) (fun _ _ _ h => h) (Or.inr ⟨by rfl, rfl⟩) ?_ ?_
   rotate_left
   ·simp only [Act.put, sl1, sl2, sl3, i64_w, i32_w]
    rfl
   refine pure_ (i := 16) (N := some 32) (v := undef) (a' := ?_) #[true, true, true, true, true, true, true, true, true, true, true, true, true, true, true, true, true, false, false, false, false] rfl rfl (any_of HT_.out (by kernel_rfl)) (fun _ _ _ h => h) (Or.inr ⟨by rfl, rfl⟩) ?_ ?_
   rotate_left
   ·simp only [Act.put, sl1, sl2, sl3, i64_w, i32_w]
    rfl
   refine pure_ (i := 17) (N := some 33) (v := undef) (a' := ?_) #[true, true, true, true, true, true, true, true, true, true, true, true, true, true, true, true, true, true, false, false, false] rfl rfl (any_of HT_.out (by kernel_rfl)) (fun _ _ _ h => h) (Or.inr ⟨by rfl, rfl⟩) ?_ ?_
   rotate_left
   ·simp only [Act.put, sl1, sl2, sl3, i64_w, i32_w]
    rfl
   refine pure_ (i := 18) (N := some 34) (v := undef) (a' := ?_) #[true, true, true, true, true, true, true, true, true, true, true, true, true, true, true, true, true, true, true, false, false] rfl rfl (any_of HT_.out (by kernel_rfl)) (fun _ _ _ h => h) (Or.inr ⟨by rfl, rfl⟩) ?_ ?_
   rotate_left
   ·simp only [Act.put, sl1, sl2, sl3, i64_w, i32_w]
    rfl
   refine pure_ (i := 19) (N := some 35) (v := undef) (a' := ?_) #[true, true, true, true, true, true, true, true, true, true, true, true, true, true, true, true, true, true, true, true, false] rfl rfl (any_of HT_.out (by kernel_rfl)) (fun _ _ _ h => h) (Or.inr ⟨by rfl, rfl⟩) ?_ ?_
   rotate_left
   ·simp only [Act.put, sl1, sl2, sl3, i64_w, i32_w]
    rfl
   refine pure_ (i := 20) (N := some 36) (v := ?_) (a' := ?_) #[true, true, true, true, true, true, true, true, true, true, true, true, true, true, true, true, true, true, true, true, true] rfl rfl (any_of HT_.out (by kernel_rfl)) (fun _ _ _ h => h) (Or.inl ⟨by rfl, ?_⟩) ?_ ?_
   rotate_left
   ·intro w'
    go_simp
    with_reducible rfl
   rotate_left
   ·simp only [Act.put, sl1, sl2, sl3, i64_w, i32_w]
    rfl
   refine done_ (done_of HT_.out (by kernel_rfl)) ?_
   have hcz23_0 := bc5_0 BK130.out
   have hcz23_1 := bc5_1 BK130.out
   have hcz23_2 := bc5_2 BK130.out
   have hcz23_3 := bc5_3 BK130.out
   have hcz23_4 := bc5_4 BK130.out
   have hfz23_0 := blk_frozen BK130.out 0
   have hfz23_1 := blk_frozen BK130.out 1
   have hfz23_2 := blk_frozen BK130.out 2
   have hfz23_3 := blk_frozen BK130.out 3
   have hfz23_4 := blk_frozen BK130.out 4
   have hcz24_0 := bc5_0 BK132.out
   have hcz24_1 := bc5_1 BK132.out
   have hcz24_2 := bc5_2 BK132.out
   have hcz24_3 := bc5_3 BK132.out
   have hcz24_4 := bc5_4 BK132.out
   have hfz24_0 := blk_frozen BK132.out 0
   have hfz24_1 := blk_frozen BK132.out 1
   have hfz24_2 := blk_frozen BK132.out 2
   have hfz24_3 := blk_frozen BK132.out 3
   have hfz24_4 := blk_frozen BK132.out 4
   try go_wp2
   refine bodyPost_ret (results_ct rfl _ _ gb132 25 #[.int .i64 a0_0, .int .i64 a0_1, .int .i64 a0_2, .int .i64 a0_3, .string a0_4] (0, 0) _ rfl (by (with_reducible repeat (first | refine blk_drewN ?_ _ | refine blk_drew ?_ | refine blk_alloc ?_ _)); refine blk_put (cs := #[.int .i64 a0_0, .int .i64 a0_1, .int .i64 a0_2, .int .i64 a0_3, .string (⟨#[]⟩ : ByteArray)]) ?_ 4 _ rfl; (with_reducible repeat (first | refine blk_drewN ?_ _ | refine blk_drew ?_ | refine blk_alloc ?_ _)); refine blk_put (cs := #[.int .i64 a0_0, .int .i64 a0_1, .int .i64 a0_2, .int .i64 0, .string (⟨#[]⟩ : ByteArray)]) ?_ 3 _ rfl; (with_reducible repeat (first | refine blk_drewN ?_ _ | refine blk_drew ?_ | refine blk_alloc ?_ _)); refine blk_put (cs := #[.int .i64 a0_0, .int .i64 a0_1, .int .i64 0, .int .i64 0, .string (⟨#[]⟩ : ByteArray)]) ?_ 2 _ rfl; (with_reducible repeat (first | refine blk_drewN ?_ _ | refine blk_drew ?_ | refine blk_alloc ?_ _)); refine blk_put (cs := #[.int .i64 a0_0, .int .i64 0, .int .i64 0, .int .i64 0, .string (⟨#[]⟩ : ByteArray)]) ?_ 1 _ rfl; (with_reducible repeat (first | refine blk_drewN ?_ _ | refine blk_drew ?_ | refine blk_alloc ?_ _)); refine blk_put (cs := #[.int .i64 0, .int .i64 0, .int .i64 0, .int .i64 0, .string (⟨#[]⟩ : ByteArray)]) ?_ 0 _ rfl; (with_reducible repeat (first | refine blk_drewN ?_ _ | refine blk_drew ?_ | refine blk_alloc ?_ _)); exact BK132.out) Tryd.underlying25 rfl (by kernel_rfl)) rfl ?_
   exact ⟨er, bw⟩
  ·rw [if_neg c6] at H
   have c6b0 : decide (100000 < (a2.size : Int)) = false := decide_eq_false c6
   have c6b1 : decide (100000 < a2.size) = false := decide_eq_false (by omega)
   clear c6
   replace H := Option.bind_eq_some_iff.mp H
   obtain ⟨⟨t140, t141⟩, A250, H⟩ := H
   replace H : ((acceptor_pair.f a1_0 a1_1).bind fun bt142 => (if (t140 == bt142.1 && (t141 == bt142.2)) = true then (if a0_4.toList = a2.toList then (some (t133, t134, a1_0, a1_1, a2, true)) else (some (a0_0, a0_1, a0_2, a0_3, a0_4, false))) else (some (t133, t134, a1_0, a1_1, a2, true)))) = some (r1, r2, r3, r4, r5, r6) := H
   have A25 := Aside0.mk A250
   clear A250
   replace H := Option.bind_eq_some_iff.mp H
   obtain ⟨⟨t142, t143⟩, A260, H⟩ := H
   replace H : (if (t140 == t142 && (t141 == t143)) = true then (if a0_4.toList = a2.toList then (some (t133, t134, a1_0, a1_1, a2, true)) else (some (a0_0, a0_1, a0_2, a0_3, a0_4, false))) else (some (t133, t134, a1_0, a1_1, a2, true))) = some (r1, r2, r3, r4, r5, r6) := H
   have A26 := Aside0.mk A260
   clear A260
   by_cases c27 : (t140 == t142 && (t141 == t143)) = true
   ·rw [if_pos c27] at H
    have c27b0 : (t140 == t142 && (t141 == t143)) = true := c27
    (try (have c27b1 : decide (t140 = t142 && (t141 == t143)) = true := by simpa using c27))
    (try (have c27b2 : (t140 == t142 && (t141 == t143)) = true := by simpa using c27))
    (try (have c27b3 : (!(t140 == t142) || (!(t141 == t143))) = false := by have e_ : (!(t140 == t142) || (!(t141 == t143))) = (!(t140 == t142 && (t141 == t143))) := (by simp only [Bool.not_or, Bool.not_and, Bool.not_not]); rw [e_]; first | (simp only [c27, Bool.not_true]; done) | (simp only [Bool.eq_false_iff.mpr c27, Bool.not_false]; done)))
    clear c27
    by_cases c28 : a0_4.toList = a2.toList
    ·rw [if_pos c28] at H
     have c28b0 : (a0_4.toList == a2.toList) = true := beq_iff_eq.mpr c28
     have c28b1 : (a0_4.toList != a2.toList) = false := bne_eq_false_iff_eq.mpr c28
     clear c28
     simp only [Option.some.injEq, Prod.mk.injEq] at H
     obtain ⟨rfl, rfl, rfl, rfl, rfl, rfl⟩ := H
     go_enter Tryd.func12, Tryd.ntmps12
     try go_wp2_with (first | ((with_reducible refine gate_dst (N := 3) rfl ?_); (try (refine gate_guard (by rfl) ?_; dsimp only)); refine box_event ?hg (N := 3) ?hd (cs := #[.int .i64 a0_0, .int .i64 a0_1, .int .i64 a0_2, .int .i64 a0_3, .string a0_4]) (t := 25) ?hr ?_; (case hd => rfl); (case hg => rfl); (case hr => first | (go_simp; done) | (go_simp; rfl)); intro gb130 hg w29 hbox hb; have n0_ := Aside0.mk (below_step bw hb); have n1_ := Aside0.mk (hbox); have n2_ := Aside0.mk ((g1 hg bw : w.heap.size ≤ gb130)); have n3_ := Aside0.mk ((g1 hg bw : w.heap.size ≤ gb130)); clear HB; have HB := n0_; have BK130 := n1_; have GW130 := n2_; have GE130 := n3_; clear n0_ n1_ n2_ n3_; clear hb hbox hg) | ((with_reducible refine gate_dst (N := 4) rfl ?_); (try (refine gate_guard (by rfl) ?_; dsimp only)); refine box_event ?hg (N := 4) ?hd (cs := #[.int .i64 a1_0, .int .i64 a1_1]) (t := 23) ?hr ?_; (case hd => rfl); (case hg => rfl); (case hr => first | (go_simp; done) | (go_simp; rfl)); intro gb131 hg w30 hbox hb; have n0_ := Aside0.mk (nb BK130.out hb); have n1_ := Aside0.mk (below_step bw hb); have n2_ := Aside0.mk (hbox); have n3_ := Aside0.mk ((g1 hg bw : w.heap.size ≤ gb131)); have n4_ := Aside0.mk ((g1 hg bw : w.heap.size ≤ gb131)); have n5_ := Aside0.mk ((n1 hg BK130.out : gb130 ≠ gb131)); have n6_ := Aside0.mk ((n2 hg BK130.out : gb131 ≠ gb130)); clear BK130; clear HB; have BK130 := n0_; have HB := n1_; have BK131 := n2_; have GW131 := n3_; have GE131 := n4_; have NB130_131 := n5_; have NB131_130 := n6_; clear n0_ n1_ n2_ n3_ n4_ n5_ n6_; clear hb hbox hg) | ((with_reducible refine gate_dst (N := 6) rfl ?_); (try (refine gate_guard (by rfl) ?_; dsimp only)); refine box_event ?hg (N := 6) ?hd (cs := #[.int .i64 0, .int .i64 0, .int .i64 0, .int .i64 0, .string (⟨#[]⟩ : ByteArray)]) (t := 25) ?hr ?_; (case hd => rfl); (case hg => rfl); (case hr => first | (go_simp; done) | (go_simp; rfl)); intro gb132 hg w31 hbox hb; have n0_ := Aside0.mk (nb BK130.out hb); have n1_ := Aside0.mk (nb BK131.out hb); have n2_ := Aside0.mk (below_step bw hb); have n3_ := Aside0.mk (hbox); have n4_ := Aside0.mk ((g1 hg bw : w.heap.size ≤ gb132)); have n5_ := Aside0.mk ((g1 hg bw : w.heap.size ≤ gb132)); have n6_ := Aside0.mk ((n1 hg BK130.out : gb130 ≠ gb132)); have n7_ := Aside0.mk ((n2 hg BK130.out : gb132 ≠ gb130)); have n8_ := Aside0.mk ((n1 hg BK131.out : gb131 ≠ gb132)); have n9_ := Aside0.mk ((n2 hg BK131.out : gb132 ≠ gb131)); clear BK130; clear BK131; clear HB; have BK130 := n0_; have BK131 := n1_; have HB := n2_; have BK132 := n3_; have GW132 := n4_; have GE132 := n5_; have NB130_132 := n6_; have NB132_130 := n7_; have NB131_132 := n8_; have NB132_131 := n9_; clear n0_ n1_ n2_ n3_ n4_ n5_ n6_ n7_ n8_ n9_; clear hb hbox hg; have hnb32 := NB130_131.out; have hnc32 := NB131_130.out; have hnb33 := NB130_132.out; have hnc33 := NB132_130.out; have hcz34_0 := bc5_0 BK130.out; have hcz34_1 := bc5_1 BK130.out; have hcz34_2 := bc5_2 BK130.out; have hcz34_3 := bc5_3 BK130.out; have hcz34_4 := bc5_4 BK130.out; have hfz34_0 := blk_frozen BK130.out 0; have hfz34_1 := blk_frozen BK130.out 1; have hfz34_2 := blk_frozen BK130.out 2; have hfz34_3 := blk_frozen BK130.out 3; have hfz34_4 := blk_frozen BK130.out 4; have hnb35 := NB131_132.out; have hnc35 := NB132_131.out; have hcz36_0 := bc2_0 BK131.out; have hcz36_1 := bc2_1 BK131.out; have hfz36_0 := blk_frozen BK131.out 0; have hfz36_1 := blk_frozen BK131.out 1) | ((with_reducible refine gate_callee (f := 11) rfl ?_); refine goesL_ (some 13) rfl rfl Tryd.func11 (by kernel_rfl) rfl #[.agg #[.int .i64 a0_0, .int .i64 a0_1, .int .i64 a0_2, .int .i64 a0_3, .string a0_4], .agg #[.int .i64 a1_0, .int .i64 a1_1]] rfl am ?_; (with_reducible refine (acceptor_Prepare.calls a0_0 a0_1 a0_2 a0_3 a0_4 a1_0 a1_1 t133 t134 t135 t136 t137 true _ A4.out).mono ?_); rintro e w37 ⟨rfl, hb⟩; refine ⟨_, rfl, ?_⟩; have n0_ := Aside0.mk (nb BK130.out hb); have n1_ := Aside0.mk (nb BK131.out hb); have n2_ := Aside0.mk (nb BK132.out hb); have n3_ := Aside0.mk (below_step bw hb); clear BK130; clear BK131; clear BK132; clear HB; have BK130 := n0_; have BK131 := n1_; have BK132 := n2_; have HB := n3_; clear n0_ n1_ n2_ n3_; (try clear hb); (try clear hb2); (try clear hk); (try clear hi)) | ((with_reducible refine gate_dst (N := 8) rfl ?_); (try (refine gate_guard (by rfl) ?_; dsimp only)); refine box_event ?hg (N := 8) ?hd (cs := #[.int .i64 0, .int .i64 0, .int .i64 0, .int .i64 0, .string (⟨#[]⟩ : ByteArray)]) (t := 25) ?hr ?_; (case hd => rfl); (case hg => rfl); (case hr => first | (go_simp; done) | (go_simp; rfl)); intro gb139 hg w38 hbox hb; have n0_ := Aside0.mk (nb BK130.out hb); have n1_ := Aside0.mk (nb BK131.out hb); have n2_ := Aside0.mk (nb BK132.out hb); have n3_ := Aside0.mk (below_step bw hb); have n4_ := Aside0.mk (hbox); have n5_ := Aside0.mk ((g1 hg bw : w.heap.size ≤ gb139)); have n6_ := Aside0.mk ((g1 hg bw : w.heap.size ≤ gb139)); have n7_ := Aside0.mk ((n1 hg BK130.out : gb130 ≠ gb139)); have n8_ := Aside0.mk ((n2 hg BK130.out : gb139 ≠ gb130)); have n9_ := Aside0.mk ((n1 hg BK131.out : gb131 ≠ gb139)); have n10_ := Aside0.mk ((n2 hg BK131.out : gb139 ≠ gb131)); have n11_ := Aside0.mk ((n1 hg BK132.out : gb132 ≠ gb139)); have n12_ := Aside0.mk ((n2 hg BK132.out : gb139 ≠ gb132)); clear BK130; clear BK131; clear BK132; clear HB; have BK130 := n0_; have BK131 := n1_; have BK132 := n2_; have HB := n3_; have BK139 := n4_; have GW139 := n5_; have GE139 := n6_; have NB130_139 := n7_; have NB139_130 := n8_; have NB131_139 := n9_; have NB139_131 := n10_; have NB132_139 := n11_; have NB139_132 := n12_; clear n0_ n1_ n2_ n3_ n4_ n5_ n6_ n7_ n8_ n9_ n10_ n11_ n12_; clear hb hbox hg; have hnb39 := NB139_130.out; have hnc39 := NB130_139.out; have hnb40 := NB139_131.out; have hnc40 := NB131_139.out; have hnb41 := NB139_132.out; have hnc41 := NB132_139.out; have hcz42_0 := bc5_0 BK139.out; have hcz42_1 := bc5_1 BK139.out; have hcz42_2 := bc5_2 BK139.out; have hcz42_3 := bc5_3 BK139.out; have hcz42_4 := bc5_4 BK139.out; have hfz42_0 := blk_frozen BK139.out 0; have hfz42_1 := blk_frozen BK139.out 1; have hfz42_2 := blk_frozen BK139.out 2; have hfz42_3 := blk_frozen BK139.out 3; have hfz42_4 := blk_frozen BK139.out 4))
     have n0_ : Aside0 ((((((w38.setCell ⟨gb139, 0, none⟩ (.int .i64 t133)).setCell ⟨gb139, 1, none⟩ (.int .i64 t134)).setCell ⟨gb139, 2, none⟩ (.int .i64 t135)).setCell ⟨gb139, 3, none⟩ (.int .i64 t136)).setCell ⟨gb139, 4, none⟩ (.string t137)).heap[gb130]? = some (.cells #[.int .i64 a0_0, .int .i64 a0_1, .int .i64 a0_2, .int .i64 a0_3, .string a0_4] 25 (0, 0))) := ⟨by (with_reducible repeat (first | refine blk_drewN ?_ _ | refine blk_drew ?_ | refine blk_alloc ?_ _ | refine blk_far ?_ NB130_139.out _)); exact BK130.out⟩
     have n1_ : Aside0 ((((((w38.setCell ⟨gb139, 0, none⟩ (.int .i64 t133)).setCell ⟨gb139, 1, none⟩ (.int .i64 t134)).setCell ⟨gb139, 2, none⟩ (.int .i64 t135)).setCell ⟨gb139, 3, none⟩ (.int .i64 t136)).setCell ⟨gb139, 4, none⟩ (.string t137)).heap[gb131]? = some (.cells #[.int .i64 a1_0, .int .i64 a1_1] 23 (0, 0))) := ⟨by (with_reducible repeat (first | refine blk_drewN ?_ _ | refine blk_drew ?_ | refine blk_alloc ?_ _ | refine blk_far ?_ NB131_139.out _)); exact BK131.out⟩
     have n2_ : Aside0 ((((((w38.setCell ⟨gb139, 0, none⟩ (.int .i64 t133)).setCell ⟨gb139, 1, none⟩ (.int .i64 t134)).setCell ⟨gb139, 2, none⟩ (.int .i64 t135)).setCell ⟨gb139, 3, none⟩ (.int .i64 t136)).setCell ⟨gb139, 4, none⟩ (.string t137)).heap[gb132]? = some (.cells #[.int .i64 0, .int .i64 0, .int .i64 0, .int .i64 0, .string (⟨#[]⟩ : ByteArray)] 25 (0, 0))) := ⟨by (with_reducible repeat (first | refine blk_drewN ?_ _ | refine blk_drew ?_ | refine blk_alloc ?_ _ | refine blk_far ?_ NB132_139.out _)); exact BK132.out⟩
     have n3_ : Aside0 ((((((w38.setCell ⟨gb139, 0, none⟩ (.int .i64 t133)).setCell ⟨gb139, 1, none⟩ (.int .i64 t134)).setCell ⟨gb139, 2, none⟩ (.int .i64 t135)).setCell ⟨gb139, 3, none⟩ (.int .i64 t136)).setCell ⟨gb139, 4, none⟩ (.string t137)).heap[gb139]? = some (.cells #[.int .i64 t133, .int .i64 t134, .int .i64 t135, .int .i64 t136, .string t137] 25 (0, 0))) := ⟨by (with_reducible repeat (first | refine blk_drewN ?_ _ | refine blk_drew ?_ | refine blk_alloc ?_ _)); refine blk_put (cs := #[.int .i64 t133, .int .i64 t134, .int .i64 t135, .int .i64 t136, .string (⟨#[]⟩ : ByteArray)]) ?_ 4 _ rfl; (with_reducible repeat (first | refine blk_drewN ?_ _ | refine blk_drew ?_ | refine blk_alloc ?_ _)); refine blk_put (cs := #[.int .i64 t133, .int .i64 t134, .int .i64 t135, .int .i64 0, .string (⟨#[]⟩ : ByteArray)]) ?_ 3 _ rfl; (with_reducible repeat (first | refine blk_drewN ?_ _ | refine blk_drew ?_ | refine blk_alloc ?_ _)); refine blk_put (cs := #[.int .i64 t133, .int .i64 t134, .int .i64 0, .int .i64 0, .string (⟨#[]⟩ : ByteArray)]) ?_ 2 _ rfl; (with_reducible repeat (first | refine blk_drewN ?_ _ | refine blk_drew ?_ | refine blk_alloc ?_ _)); refine blk_put (cs := #[.int .i64 t133, .int .i64 0, .int .i64 0, .int .i64 0, .string (⟨#[]⟩ : ByteArray)]) ?_ 1 _ rfl; (with_reducible repeat (first | refine blk_drewN ?_ _ | refine blk_drew ?_ | refine blk_alloc ?_ _)); refine blk_put (cs := #[.int .i64 0, .int .i64 0, .int .i64 0, .int .i64 0, .string (⟨#[]⟩ : ByteArray)]) ?_ 0 _ rfl; (with_reducible repeat (first | refine blk_drewN ?_ _ | refine blk_drew ?_ | refine blk_alloc ?_ _)); exact BK139.out⟩
     have n4_ : Aside0 (Below w.heap.size w (((((w38.setCell ⟨gb139, 0, none⟩ (.int .i64 t133)).setCell ⟨gb139, 1, none⟩ (.int .i64 t134)).setCell ⟨gb139, 2, none⟩ (.int .i64 t135)).setCell ⟨gb139, 3, none⟩ (.int .i64 t136)).setCell ⟨gb139, 4, none⟩ (.string t137))) := ⟨bw⟩
     (try clear BK130)
     (try clear BK131)
     (try clear BK132)
     (try clear BK139)
     (try clear HB)
     generalize (((((w38.setCell ⟨gb139, 0, none⟩ (.int .i64 t133)).setCell ⟨gb139, 1, none⟩ (.int .i64 t134)).setCell ⟨gb139, 2, none⟩ (.int .i64 t135)).setCell ⟨gb139, 3, none⟩ (.int .i64 t136)).setCell ⟨gb139, 4, none⟩ (.string t137)) = w43 at n0_ n1_ n2_ n3_ n4_ ⊢
     have BK130 := n0_
     have BK131 := n1_
     have BK132 := n2_
     have BK139 := n3_
     have HB := n4_
     clear n0_ n1_ n2_ n3_ n4_
     have n0_ := Aside0.mk (blk_drew BK130.out)
     have n1_ := Aside0.mk (blk_drew BK131.out)
     have n2_ := Aside0.mk (blk_drew BK132.out)
     have n3_ := Aside0.mk (blk_drew BK139.out)
     have n4_ := Aside0.mk (below_drew1 HB.out)
     clear BK130
     clear BK131
     clear BK132
     clear BK139
     clear HB
     have BK130 := n0_
     have BK131 := n1_
     have BK132 := n2_
     have BK139 := n3_
     have HB := n4_
     clear n0_ n1_ n2_ n3_ n4_
     refine start_ (n := 21) (S := fun w' => w'.cell? ⟨gb130, 0, none⟩ = some (.int .i64 a0_0) ∧ w'.cell? ⟨gb130, 1, none⟩ = some (.int .i64 a0_1) ∧ w'.cell? ⟨gb130, 2, none⟩ = some (.int .i64 a0_2) ∧ w'.cell? ⟨gb130, 3, none⟩ = some (.int .i64 a0_3) ∧ w'.cell? ⟨gb130, 4, none⟩ = some (.string a0_4) ∧ w'.cell? ⟨gb131, 0, none⟩ = some (.int .i64 a1_0) ∧ w'.cell? ⟨gb131, 1, none⟩ = some (.int .i64 a1_1)) (ds := []) #[false, false, false, false, false, false, false, false, false, false, false, false, false, false, false, false, false, false, false, false, false] (by kernel_rfl) rfl rfl ⟨(blk_cell BK130.out 0).trans rfl, (blk_cell BK130.out 1).trans rfl, (blk_cell BK130.out 2).trans rfl, (blk_cell BK130.out 3).trans rfl, (blk_cell BK130.out 4).trans rfl, (blk_cell BK131.out 0).trans rfl, (blk_cell BK131.out 1).trans rfl⟩ (fun hHeld => ?_); refine with_tabW acceptor_Take.tab2 acceptor_Take.bits2 (fun HT_ HW_ => ?_)
     generalize w43.drew = w44 at BK130 BK131 BK132 BK139 HB hHeld ⊢
     refine pure_ (i := 0) (N := some 16) (v := ?_) (a' := ?_) #[true, false, false, false, false, false, false, false, false, false, false, false, false, false, false, false, false, false, false, false, false] rfl rfl (any_of HT_.out (by kernel_rfl)) (fun _ _ _ h => h) (Or.inl ⟨by rfl, ?_⟩) ?_ ?_
     rotate_left
     ·intro w'
      go_simp
      with_reducible rfl
     rotate_left
     ·simp only [Act.put, sl1, sl2, sl3, i64_w, i32_w]
      rfl
     refine pure_ (i := 1) (N := some 17) (v := ?_) (a' := ?_) #[true, true, false, false, false, false, false, false, false, false, false, false, false, false, false, false, false, false, false, false, false] rfl rfl (any_of HT_.out (by kernel_rfl)) (fun _ _ _ h => h) (Or.inl ⟨by rfl, ?_⟩) ?_ ?_
     rotate_left
     ·intro w'
      go_simp
      with_reducible rfl
     rotate_left
     ·simp only [Act.put, sl1, sl2, sl3, i64_w, i32_w]
      rfl
     refine pure_ (i := 2) (N := some 18) (v := ?_) (a' := ?_) #[true, true, true, false, false, false, false, false, false, false, false, false, false, false, false, false, false, false, false, false, false] rfl rfl (any_of HT_.out (by kernel_rfl)) (fun _ _ _ h => h) (Or.inl ⟨by rfl, ?_⟩) ?_ ?_
     rotate_left
     ·intro w'
      go_simp
      with_reducible rfl
     rotate_left
     ·simp only [Act.put, sl1, sl2, sl3, i64_w, i32_w]
      rfl
     refine pure_ (i := 3) (N := some 19) (v := ?_) (a' := ?_) #[true, true, true, true, false, false, false, false, false, false, false, false, false, false, false, false, false, false, false, false, false] rfl rfl (any_of HT_.out (by kernel_rfl)) (fun _ _ _ h => h) (Or.inl ⟨by rfl, ?_⟩) ?_ ?_
     rotate_left
     ·intro w'
      go_simp
      with_reducible rfl
     rotate_left
     ·simp only [Act.put, sl1, sl2, sl3, i64_w, i32_w]
      rfl
     refine pure_ (i := 4) (N := some 20) (v := ?_) (a' := ?_) #[true, true, true, true, true, false, false, false, false, false, false, false, false, false, false, false, false, false, false, false, false] rfl rfl (any_of HT_.out (by kernel_rfl)) (fun _ _ _ h => h) (Or.inl ⟨by rfl, ?_⟩) ?_ ?_
     rotate_left
     ·intro w'
      go_simp
      with_reducible rfl
     rotate_left
     ·simp only [Act.put, sl1, sl2, sl3, i64_w, i32_w]
      rfl
     refine pure_ (i := 5) (N := some 21) (v := ?_) (a' := ?_) #[true, true, true, true, true, true, false, false, false, false, false, false, false, false, false, false, false, false, false, false, false] rfl rfl (any_of HT_.out (by kernel_rfl)) (fun _ _ _ h => h) (Or.inl ⟨by rfl, ?_⟩) ?_ ?_
     rotate_left
     ·intro w'
      go_simp
      with_reducible rfl
     rotate_left
     ·simp only [Act.put, sl1, sl2, sl3, i64_w, i32_w]
      rfl
     refine pure_ (i := 6) (N := some 22) (v := ?_) (a' := ?_) #[true, true, true, true, true, true, true, false, false, false, false, false, false, false, false, false, false, false, false, false, false] rfl rfl (any_of HT_.out (by kernel_rfl)) (fun _ _ _ h => h) (Or.inl ⟨by rfl, ?_⟩) ?_ ?_
     rotate_left
     ·intro w'
      go_simp
      with_reducible rfl
     rotate_left
     ·simp only [Act.put, sl1, sl2, sl3, i64_w, i32_w]
      rfl
     refine pure_ (i := 7) (N := some 23) (v := ?_) (a' := ?_) #[true, true, true, true, true, true, true, true, false, false, false, false, false, false, false, false, false, false, false, false, false] rfl rfl (any_of HT_.out (by kernel_rfl)) (fun _ _ _ h => h) (Or.inl ⟨by rfl, ?_⟩) ?_ ?_
     rotate_left
     ·intro w'
      go_simp
      with_reducible rfl
     rotate_left
     ·simp only [Act.put, sl1, sl2, sl3, i64_w, i32_w]
      rfl
     refine pure_ (i := 8) (N := some 24) (v := ?_) (a' := ?_) #[true, true, true, true, true, true, true, true, true, false, false, false, false, false, false, false, false, false, false, false, false] rfl rfl (any_of HT_.out (by kernel_rfl)) (fun _ _ _ h => h) (Or.inl ⟨by rfl, ?_⟩) ?_ ?_
     rotate_left
     ·intro w'
      go_simp
      with_reducible rfl
     rotate_left
     ·simp only [Act.put, sl1, sl2, sl3, i64_w, i32_w]
      rfl
     refine take_ (i := 9) (N := some 25) (v := ?_) (a' := ?_) #[true, true, true, true, true, true, true, true, true, true, false, false, false, false, false, false, false, false, false, false, false] rfl rfl (take_ofW HT_.out HW_.out (by kernel_rfl)) (fun _ _ _ h => h) (Or.inl ⟨by rfl, ?_⟩) hHeld ?_ ?_
     rotate_left
     ·rintro w' ⟨s0, s1, s2, s3, s4, s5, s6⟩
      go_simp
      with_reducible rfl
     rotate_left
     ·simp only [Act.put, sl1, sl2, sl3, i64_w, i32_w]
      rfl
     refine take_ (i := 11) (N := some 27) (v := ?_) (a' := ?_) #[true, true, true, true, true, true, true, true, true, true, false, true, false, false, false, false, false, false, false, false, false] rfl rfl (take_ofW HT_.out HW_.out (by kernel_rfl)) (fun _ _ _ h => h) (Or.inl ⟨by rfl, ?_⟩) hHeld ?_ ?_
     rotate_left
     ·rintro w' ⟨s0, s1, s2, s3, s4, s5, s6⟩
      go_simp
      with_reducible rfl
     rotate_left
     ·simp only [Act.put, sl1, sl2, sl3, i64_w, i32_w]
      rfl
     refine one_ (i := 10) (N := some 26) #[true, true, true, true, true, true, true, true, true, true, true, true, false, false, false, false, false, false, false, false, false] rfl rfl (one_of HT_.out (by kernel_rfl)) (by decide) (fun K hK => ?_)
     refine goes_ Tryd.func21 (by kernel_rfl) rfl #[.agg #[.int .i64 a0_2, .int .i64 a0_3]] (by rfl) rfl rfl am ?_
     with_reducible refine (acceptor_pair.calls a0_2 a0_3 t140 t141 _ A25.out).mono ?_
     rintro e w45 ⟨rfl, hb⟩
     refine ⟨_, rfl, ?_⟩
     have n0_ := Aside0.mk (nb BK130.out hb)
     have n1_ := Aside0.mk (nb BK131.out hb)
     have n2_ := Aside0.mk (nb BK132.out hb)
     have n3_ := Aside0.mk (nb BK139.out hb)
     have n4_ := Aside0.mk (below_step bw hb)
     clear BK130
     clear BK131
     clear BK132
     clear BK139
     clear HB
     have BK130 := n0_
     have BK131 := n1_
     have BK132 := n2_
     have BK139 := n3_
     have HB := n4_
     clear n0_ n1_ n2_ n3_ n4_
     (try clear hb)
     (try clear hb2)
     (try clear hk)
     (try clear hi)
     refine hK.out _ _ ⟨(blk_cell BK130.out 0).trans rfl, (blk_cell BK130.out 1).trans rfl, (blk_cell BK130.out 2).trans rfl, (blk_cell BK130.out 3).trans rfl, (blk_cell BK130.out 4).trans rfl, (blk_cell BK131.out 0).trans rfl, (blk_cell BK131.out 1).trans rfl⟩ (fun hHeld => ?_)
     clear hK K
     refine norm_ (a' := ?_) ?_ ?_
     rotate_left
     ·show Act.put _ (some 26) _ = _
      simp only [Act.put, sl1, sl2, sl3, i64_w, i32_w]
      rfl
     refine one_ (i := 12) (N := some 28) #[true, true, true, true, true, true, true, true, true, true, true, true, true, false, false, false, false, false, false, false, false] rfl rfl (one_of HT_.out (by kernel_rfl)) (by decide) (fun K hK => ?_)
     refine goes_ Tryd.func21 (by kernel_rfl) rfl #[.agg #[.int .i64 a1_0, .int .i64 a1_1]] (by rfl) rfl rfl am ?_
     with_reducible refine (acceptor_pair.calls a1_0 a1_1 t142 t143 _ A26.out).mono ?_
     rintro e w46 ⟨rfl, hb⟩
     refine ⟨_, rfl, ?_⟩
     have n0_ := Aside0.mk (nb BK130.out hb)
     have n1_ := Aside0.mk (nb BK131.out hb)
     have n2_ := Aside0.mk (nb BK132.out hb)
     have n3_ := Aside0.mk (nb BK139.out hb)
     have n4_ := Aside0.mk (below_step bw hb)
     clear BK130
     clear BK131
     clear BK132
     clear BK139
     clear HB
     have BK130 := n0_
     have BK131 := n1_
     have BK132 := n2_
     have BK139 := n3_
     have HB := n4_
     clear n0_ n1_ n2_ n3_ n4_
     (try clear hb)
     (try clear hb2)
     (try clear hk)
     (try clear hi)
     refine hK.out _ _ ⟨(blk_cell BK130.out 0).trans rfl, (blk_cell BK130.out 1).trans rfl, (blk_cell BK130.out 2).trans rfl, (blk_cell BK130.out 3).trans rfl, (blk_cell BK130.out 4).trans rfl, (blk_cell BK131.out 0).trans rfl, (blk_cell BK131.out 1).trans rfl⟩ (fun hHeld => ?_)
     clear hK K
     refine norm_ (a' := ?_) ?_ ?_
     rotate_left
     ·show Act.put _ (some 28) _ = _
      simp only [Act.put, sl1, sl2, sl3, i64_w, i32_w]
      rfl
     refine pure_ (i := 13) (N := some 29) (v := ?_) (a' := ?_) #[true, true, true, true, true, true, true, true, true, true, true, true, true, true, false, false, false, false, false, false, false] rfl rfl (any_of HT_.out (by kernel_rfl)) (fun _ _ _ h => h) (Or.inl ⟨by rfl, ?_⟩) ?_ ?_
     rotate_left
     ·intro w'
      go_simp
      with_reducible rfl
     rotate_left
     ·simp only [Act.put, sl1, sl2, sl3, i64_w, i32_w]
      rfl
     refine pure_ (i := 14) (N := some 30) (v := ?_) (a' := ?_) #[true, true, true, true, true, true, true, true, true, true, true, true, true, true, true, false, false, false, false, false, false] rfl rfl (any_of HT_.out (by kernel_rfl)) (fun _ _ _ h => h) (Or.inl ⟨by rfl, ?_⟩) ?_ ?_
     rotate_left
     ·intro w'
      go_simp
      with_reducible rfl
     rotate_left
     ·simp only [Act.put, sl1, sl2, sl3, i64_w, i32_w]
      rfl
     refine pure_ (i := 15) (N := some 31) (v := ?_) (a' := ?_) #[true, true, true, true, true, true, true, true, true, true, true, true, true, true, true, true, false, false, false, false, false] rfl rfl (any_of HT_.out (by kernel_rfl)) (fun _ _ _ h => h) (Or.inl ⟨by rfl, ?_⟩) ?_ ?_
     rotate_left
     ·intro w'
      go_simp
      with_reducible rfl
     rotate_left
     ·simp only [Act.put, sl1, sl2, sl3, i64_w, i32_w]
      rfl
     refine pure_ (i := 17) (N := some 33) (v := ?_) (a' := ?_) #[true, true, true, true, true, true, true, true, true, true, true, true, true, true, true, true, false, true, false, false, false] rfl rfl (any_of HT_.out (by kernel_rfl)) (fun _ _ _ h => h) (Or.inl ⟨by rfl, ?_⟩) ?_ ?_
     rotate_left
     ·intro w'
      go_simp
      with_reducible rfl
     rotate_left
     ·simp only [Act.put, sl1, sl2, sl3, i64_w, i32_w]
      rfl
     refine take_ (i := 16) (N := some 32) (v := ?_) (a' := ?_) #[true, true, true, true, true, true, true, true, true, true, true, true, true, true, true, true, true, true, false, false, false] rfl rfl (take_ofW HT_.out HW_.out (by kernel_rfl)) (fun _ _ _ h => h) (Or.inl ⟨by rfl, ?_⟩) hHeld ?_ ?_
     rotate_left
     ·rintro w' ⟨s0, s1, s2, s3, s4, s5, s6⟩
      go_simp
      with_reducible rfl
     rotate_left
     ·simp only [Act.put, sl1, sl2, sl3, i64_w, i32_w]
      rfl
     refine pure_ (i := 18) (N := some 34) (v := ?_) (a' := ?_) #[true, true, true, true, true, true, true, true, true, true, true, true, true, true, true, true, true, true, true, false, false] rfl rfl (any_of HT_.out (by kernel_rfl)) (fun _ _ _ h => h) (Or.inl ⟨by rfl, ?_⟩) ?_ ?_
     rotate_left
     ·intro w'
      go_simp
      with_reducible rfl
     rotate_left
     ·simp only [Act.put, sl1, sl2, sl3, i64_w, i32_w]
      rfl
     refine pure_ (i := 19) (N := some 35) (v := ?_) (a' := ?_) #[true, true, true, true, true, true, true, true, true, true, true, true, true, true, true, true, true, true, true, true, false] rfl rfl (any_of HT_.out (by kernel_rfl)) (fun _ _ _ h => h) (Or.inl ⟨by rfl, ?_⟩) ?_ ?_
     rotate_left
     ·intro w'
      go_simp
      with_reducible rfl
     rotate_left
     ·simp only [Act.put, sl1, sl2, sl3, i64_w, i32_w]
      rfl
     refine pure_ (i := 20) (N := some 36) (v := ?_) (a' := ?_) #[true, true, true, true, true, true, true, true, true, true, true, true, true, true, true, true, true, true, true, true, true] rfl rfl (any_of HT_.out (by kernel_rfl)) (fun _ _ _ h => h) (Or.inl ⟨by rfl, ?_⟩) ?_ ?_
     rotate_left
     ·intro w'
      go_simp
      with_reducible rfl
     rotate_left
     ·simp only [Act.put, sl1, sl2, sl3, i64_w, i32_w]
      rfl
     refine done_ (done_of HT_.out (by kernel_rfl)) ?_
     have hcz47_0 := bc2_0 BK131.out
     have hcz47_1 := bc2_1 BK131.out
     have hfz47_0 := blk_frozen BK131.out 0
     have hfz47_1 := blk_frozen BK131.out 1
     have hcz48_0 := bc5_0 BK139.out
     have hcz48_1 := bc5_1 BK139.out
     have hcz48_2 := bc5_2 BK139.out
     have hcz48_3 := bc5_3 BK139.out
     have hcz48_4 := bc5_4 BK139.out
     have hfz48_0 := blk_frozen BK139.out 0
     have hfz48_1 := blk_frozen BK139.out 1
     have hfz48_2 := blk_frozen BK139.out 2
     have hfz48_3 := blk_frozen BK139.out 3
     have hfz48_4 := blk_frozen BK139.out 4
     have hcz49_0 := bc5_0 BK132.out
     have hcz49_1 := bc5_1 BK132.out
     have hcz49_2 := bc5_2 BK132.out
     have hcz49_3 := bc5_3 BK132.out
     have hcz49_4 := bc5_4 BK132.out
     have hfz49_0 := blk_frozen BK132.out 0
     have hfz49_1 := blk_frozen BK132.out 1
     have hfz49_2 := blk_frozen BK132.out 2
     have hfz49_3 := blk_frozen BK132.out 3
     have hfz49_4 := blk_frozen BK132.out 4
     try go_wp2
     refine bodyPost_ret (results_ct rfl _ _ gb132 25 #[.int .i64 t133, .int .i64 t134, .int .i64 a1_0, .int .i64 a1_1, .string a2] (0, 0) _ rfl (by (with_reducible repeat (first | refine blk_drewN ?_ _ | refine blk_drew ?_ | refine blk_alloc ?_ _)); refine blk_put (cs := #[.int .i64 t133, .int .i64 t134, .int .i64 a1_0, .int .i64 a1_1, .string (⟨#[]⟩ : ByteArray)]) ?_ 4 _ rfl; (with_reducible repeat (first | refine blk_drewN ?_ _ | refine blk_drew ?_ | refine blk_alloc ?_ _)); refine blk_put (cs := #[.int .i64 t133, .int .i64 t134, .int .i64 a1_0, .int .i64 0, .string (⟨#[]⟩ : ByteArray)]) ?_ 3 _ rfl; (with_reducible repeat (first | refine blk_drewN ?_ _ | refine blk_drew ?_ | refine blk_alloc ?_ _)); refine blk_put (cs := #[.int .i64 t133, .int .i64 t134, .int .i64 0, .int .i64 0, .string (⟨#[]⟩ : ByteArray)]) ?_ 2 _ rfl; (with_reducible repeat (first | refine blk_drewN ?_ _ | refine blk_drew ?_ | refine blk_alloc ?_ _)); refine blk_put (cs := #[.int .i64 t133, .int .i64 0, .int .i64 0, .int .i64 0, .string (⟨#[]⟩ : ByteArray)]) ?_ 1 _ rfl; (with_reducible repeat (first | refine blk_drewN ?_ _ | refine blk_drew ?_ | refine blk_alloc ?_ _)); refine blk_put (cs := #[.int .i64 0, .int .i64 0, .int .i64 0, .int .i64 0, .string (⟨#[]⟩ : ByteArray)]) ?_ 0 _ rfl; (with_reducible repeat (first | refine blk_drewN ?_ _ | refine blk_drew ?_ | refine blk_alloc ?_ _ | refine blk_far ?_ NB132_139.out _)); exact BK132.out) Tryd.underlying25 rfl (by kernel_rfl)) rfl ?_
     exact ⟨er, bw⟩
    ·rw [if_neg c28] at H
     have c28b0 : (a0_4.toList == a2.toList) = false := beq_eq_false_iff_ne.mpr c28
     have c28b1 : (a0_4.toList != a2.toList) = true := bne_iff_ne.mpr c28
     simp only [Option.some.injEq, Prod.mk.injEq] at H
     obtain ⟨rfl, rfl, rfl, rfl, rfl, rfl⟩ := H
     go_enter Tryd.func12, Tryd.ntmps12
     try go_wp2_with (first | ((with_reducible refine gate_dst (N := 3) rfl ?_); (try (refine gate_guard (by rfl) ?_; dsimp only)); refine box_event ?hg (N := 3) ?hd (cs := #[.int .i64 a0_0, .int .i64 a0_1, .int .i64 a0_2, .int .i64 a0_3, .string a0_4]) (t := 25) ?hr ?_; (case hd => rfl); (case hg => rfl); (case hr => first | (go_simp; done) | (go_simp; rfl)); intro gb130 hg w50 hbox hb; have n0_ := Aside0.mk (below_step bw hb); have n1_ := Aside0.mk (hbox); have n2_ := Aside0.mk ((g1 hg bw : w.heap.size ≤ gb130)); have n3_ := Aside0.mk ((g1 hg bw : w.heap.size ≤ gb130)); clear HB; have HB := n0_; have BK130 := n1_; have GW130 := n2_; have GE130 := n3_; clear n0_ n1_ n2_ n3_; clear hb hbox hg) | ((with_reducible refine gate_dst (N := 4) rfl ?_); (try (refine gate_guard (by rfl) ?_; dsimp only)); refine box_event ?hg (N := 4) ?hd (cs := #[.int .i64 a1_0, .int .i64 a1_1]) (t := 23) ?hr ?_; (case hd => rfl); (case hg => rfl); (case hr => first | (go_simp; done) | (go_simp; rfl)); intro gb131 hg w51 hbox hb; have n0_ := Aside0.mk (nb BK130.out hb); have n1_ := Aside0.mk (below_step bw hb); have n2_ := Aside0.mk (hbox); have n3_ := Aside0.mk ((g1 hg bw : w.heap.size ≤ gb131)); have n4_ := Aside0.mk ((g1 hg bw : w.heap.size ≤ gb131)); have n5_ := Aside0.mk ((n1 hg BK130.out : gb130 ≠ gb131)); have n6_ := Aside0.mk ((n2 hg BK130.out : gb131 ≠ gb130)); clear BK130; clear HB; have BK130 := n0_; have HB := n1_; have BK131 := n2_; have GW131 := n3_; have GE131 := n4_; have NB130_131 := n5_; have NB131_130 := n6_; clear n0_ n1_ n2_ n3_ n4_ n5_ n6_; clear hb hbox hg) | ((with_reducible refine gate_dst (N := 6) rfl ?_); (try (refine gate_guard (by rfl) ?_; dsimp only)); refine box_event ?hg (N := 6) ?hd (cs := #[.int .i64 0, .int .i64 0, .int .i64 0, .int .i64 0, .string (⟨#[]⟩ : ByteArray)]) (t := 25) ?hr ?_; (case hd => rfl); (case hg => rfl); (case hr => first | (go_simp; done) | (go_simp; rfl)); intro gb132 hg w52 hbox hb; have n0_ := Aside0.mk (nb BK130.out hb); have n1_ := Aside0.mk (nb BK131.out hb); have n2_ := Aside0.mk (below_step bw hb); have n3_ := Aside0.mk (hbox); have n4_ := Aside0.mk ((g1 hg bw : w.heap.size ≤ gb132)); have n5_ := Aside0.mk ((g1 hg bw : w.heap.size ≤ gb132)); have n6_ := Aside0.mk ((n1 hg BK130.out : gb130 ≠ gb132)); have n7_ := Aside0.mk ((n2 hg BK130.out : gb132 ≠ gb130)); have n8_ := Aside0.mk ((n1 hg BK131.out : gb131 ≠ gb132)); have n9_ := Aside0.mk ((n2 hg BK131.out : gb132 ≠ gb131)); clear BK130; clear BK131; clear HB; have BK130 := n0_; have BK131 := n1_; have HB := n2_; have BK132 := n3_; have GW132 := n4_; have GE132 := n5_; have NB130_132 := n6_; have NB132_130 := n7_; have NB131_132 := n8_; have NB132_131 := n9_; clear n0_ n1_ n2_ n3_ n4_ n5_ n6_ n7_ n8_ n9_; clear hb hbox hg; have hnb53 := NB130_131.out; have hnc53 := NB131_130.out; have hnb54 := NB130_132.out; have hnc54 := NB132_130.out; have hcz55_0 := bc5_0 BK130.out; have hcz55_1 := bc5_1 BK130.out; have hcz55_2 := bc5_2 BK130.out; have hcz55_3 := bc5_3 BK130.out; have hcz55_4 := bc5_4 BK130.out; have hfz55_0 := blk_frozen BK130.out 0; have hfz55_1 := blk_frozen BK130.out 1; have hfz55_2 := blk_frozen BK130.out 2; have hfz55_3 := blk_frozen BK130.out 3; have hfz55_4 := blk_frozen BK130.out 4; have hnb56 := NB131_132.out; have hnc56 := NB132_131.out; have hcz57_0 := bc2_0 BK131.out; have hcz57_1 := bc2_1 BK131.out; have hfz57_0 := blk_frozen BK131.out 0; have hfz57_1 := blk_frozen BK131.out 1) | ((with_reducible refine gate_callee (f := 11) rfl ?_); refine goesL_ (some 13) rfl rfl Tryd.func11 (by kernel_rfl) rfl #[.agg #[.int .i64 a0_0, .int .i64 a0_1, .int .i64 a0_2, .int .i64 a0_3, .string a0_4], .agg #[.int .i64 a1_0, .int .i64 a1_1]] rfl am ?_; (with_reducible refine (acceptor_Prepare.calls a0_0 a0_1 a0_2 a0_3 a0_4 a1_0 a1_1 t133 t134 t135 t136 t137 true _ A4.out).mono ?_); rintro e w58 ⟨rfl, hb⟩; refine ⟨_, rfl, ?_⟩; have n0_ := Aside0.mk (nb BK130.out hb); have n1_ := Aside0.mk (nb BK131.out hb); have n2_ := Aside0.mk (nb BK132.out hb); have n3_ := Aside0.mk (below_step bw hb); clear BK130; clear BK131; clear BK132; clear HB; have BK130 := n0_; have BK131 := n1_; have BK132 := n2_; have HB := n3_; clear n0_ n1_ n2_ n3_; (try clear hb); (try clear hb2); (try clear hk); (try clear hi)) | ((with_reducible refine gate_dst (N := 8) rfl ?_); (try (refine gate_guard (by rfl) ?_; dsimp only)); refine box_event ?hg (N := 8) ?hd (cs := #[.int .i64 0, .int .i64 0, .int .i64 0, .int .i64 0, .string (⟨#[]⟩ : ByteArray)]) (t := 25) ?hr ?_; (case hd => rfl); (case hg => rfl); (case hr => first | (go_simp; done) | (go_simp; rfl)); intro gb139 hg w59 hbox hb; have n0_ := Aside0.mk (nb BK130.out hb); have n1_ := Aside0.mk (nb BK131.out hb); have n2_ := Aside0.mk (nb BK132.out hb); have n3_ := Aside0.mk (below_step bw hb); have n4_ := Aside0.mk (hbox); have n5_ := Aside0.mk ((g1 hg bw : w.heap.size ≤ gb139)); have n6_ := Aside0.mk ((g1 hg bw : w.heap.size ≤ gb139)); have n7_ := Aside0.mk ((n1 hg BK130.out : gb130 ≠ gb139)); have n8_ := Aside0.mk ((n2 hg BK130.out : gb139 ≠ gb130)); have n9_ := Aside0.mk ((n1 hg BK131.out : gb131 ≠ gb139)); have n10_ := Aside0.mk ((n2 hg BK131.out : gb139 ≠ gb131)); have n11_ := Aside0.mk ((n1 hg BK132.out : gb132 ≠ gb139)); have n12_ := Aside0.mk ((n2 hg BK132.out : gb139 ≠ gb132)); clear BK130; clear BK131; clear BK132; clear HB; have BK130 := n0_; have BK131 := n1_; have BK132 := n2_; have HB := n3_; have BK139 := n4_; have GW139 := n5_; have GE139 := n6_; have NB130_139 := n7_; have NB139_130 := n8_; have NB131_139 := n9_; have NB139_131 := n10_; have NB132_139 := n11_; have NB139_132 := n12_; clear n0_ n1_ n2_ n3_ n4_ n5_ n6_ n7_ n8_ n9_ n10_ n11_ n12_; clear hb hbox hg; have hnb60 := NB139_130.out; have hnc60 := NB130_139.out; have hnb61 := NB139_131.out; have hnc61 := NB131_139.out; have hnb62 := NB139_132.out; have hnc62 := NB132_139.out; have hcz63_0 := bc5_0 BK139.out; have hcz63_1 := bc5_1 BK139.out; have hcz63_2 := bc5_2 BK139.out; have hcz63_3 := bc5_3 BK139.out; have hcz63_4 := bc5_4 BK139.out; have hfz63_0 := blk_frozen BK139.out 0; have hfz63_1 := blk_frozen BK139.out 1; have hfz63_2 := blk_frozen BK139.out 2; have hfz63_3 := blk_frozen BK139.out 3; have hfz63_4 := blk_frozen BK139.out 4))
     have n0_ : Aside0 ((((((w59.setCell ⟨gb139, 0, none⟩ (.int .i64 t133)).setCell ⟨gb139, 1, none⟩ (.int .i64 t134)).setCell ⟨gb139, 2, none⟩ (.int .i64 t135)).setCell ⟨gb139, 3, none⟩ (.int .i64 t136)).setCell ⟨gb139, 4, none⟩ (.string t137)).heap[gb130]? = some (.cells #[.int .i64 a0_0, .int .i64 a0_1, .int .i64 a0_2, .int .i64 a0_3, .string a0_4] 25 (0, 0))) := ⟨by (with_reducible repeat (first | refine blk_drewN ?_ _ | refine blk_drew ?_ | refine blk_alloc ?_ _ | refine blk_far ?_ NB130_139.out _)); exact BK130.out⟩
     have n1_ : Aside0 ((((((w59.setCell ⟨gb139, 0, none⟩ (.int .i64 t133)).setCell ⟨gb139, 1, none⟩ (.int .i64 t134)).setCell ⟨gb139, 2, none⟩ (.int .i64 t135)).setCell ⟨gb139, 3, none⟩ (.int .i64 t136)).setCell ⟨gb139, 4, none⟩ (.string t137)).heap[gb131]? = some (.cells #[.int .i64 a1_0, .int .i64 a1_1] 23 (0, 0))) := ⟨by (with_reducible repeat (first | refine blk_drewN ?_ _ | refine blk_drew ?_ | refine blk_alloc ?_ _ | refine blk_far ?_ NB131_139.out _)); exact BK131.out⟩
     have n2_ : Aside0 ((((((w59.setCell ⟨gb139, 0, none⟩ (.int .i64 t133)).setCell ⟨gb139, 1, none⟩ (.int .i64 t134)).setCell ⟨gb139, 2, none⟩ (.int .i64 t135)).setCell ⟨gb139, 3, none⟩ (.int .i64 t136)).setCell ⟨gb139, 4, none⟩ (.string t137)).heap[gb132]? = some (.cells #[.int .i64 0, .int .i64 0, .int .i64 0, .int .i64 0, .string (⟨#[]⟩ : ByteArray)] 25 (0, 0))) := ⟨by (with_reducible repeat (first | refine blk_drewN ?_ _ | refine blk_drew ?_ | refine blk_alloc ?_ _ | refine blk_far ?_ NB132_139.out _)); exact BK132.out⟩
     have n3_ : Aside0 ((((((w59.setCell ⟨gb139, 0, none⟩ (.int .i64 t133)).setCell ⟨gb139, 1, none⟩ (.int .i64 t134)).setCell ⟨gb139, 2, none⟩ (.int .i64 t135)).setCell ⟨gb139, 3, none⟩ (.int .i64 t136)).setCell ⟨gb139, 4, none⟩ (.string t137)).heap[gb139]? = some (.cells #[.int .i64 t133, .int .i64 t134, .int .i64 t135, .int .i64 t136, .string t137] 25 (0, 0))) := ⟨by (with_reducible repeat (first | refine blk_drewN ?_ _ | refine blk_drew ?_ | refine blk_alloc ?_ _)); refine blk_put (cs := #[.int .i64 t133, .int .i64 t134, .int .i64 t135, .int .i64 t136, .string (⟨#[]⟩ : ByteArray)]) ?_ 4 _ rfl; (with_reducible repeat (first | refine blk_drewN ?_ _ | refine blk_drew ?_ | refine blk_alloc ?_ _)); refine blk_put (cs := #[.int .i64 t133, .int .i64 t134, .int .i64 t135, .int .i64 0, .string (⟨#[]⟩ : ByteArray)]) ?_ 3 _ rfl; (with_reducible repeat (first | refine blk_drewN ?_ _ | refine blk_drew ?_ | refine blk_alloc ?_ _)); refine blk_put (cs := #[.int .i64 t133, .int .i64 t134, .int .i64 0, .int .i64 0, .string (⟨#[]⟩ : ByteArray)]) ?_ 2 _ rfl; (with_reducible repeat (first | refine blk_drewN ?_ _ | refine blk_drew ?_ | refine blk_alloc ?_ _)); refine blk_put (cs := #[.int .i64 t133, .int .i64 0, .int .i64 0, .int .i64 0, .string (⟨#[]⟩ : ByteArray)]) ?_ 1 _ rfl; (with_reducible repeat (first | refine blk_drewN ?_ _ | refine blk_drew ?_ | refine blk_alloc ?_ _)); refine blk_put (cs := #[.int .i64 0, .int .i64 0, .int .i64 0, .int .i64 0, .string (⟨#[]⟩ : ByteArray)]) ?_ 0 _ rfl; (with_reducible repeat (first | refine blk_drewN ?_ _ | refine blk_drew ?_ | refine blk_alloc ?_ _)); exact BK139.out⟩
     have n4_ : Aside0 (Below w.heap.size w (((((w59.setCell ⟨gb139, 0, none⟩ (.int .i64 t133)).setCell ⟨gb139, 1, none⟩ (.int .i64 t134)).setCell ⟨gb139, 2, none⟩ (.int .i64 t135)).setCell ⟨gb139, 3, none⟩ (.int .i64 t136)).setCell ⟨gb139, 4, none⟩ (.string t137))) := ⟨bw⟩
     (try clear BK130)
     (try clear BK131)
     (try clear BK132)
     (try clear BK139)
     (try clear HB)
     generalize (((((w59.setCell ⟨gb139, 0, none⟩ (.int .i64 t133)).setCell ⟨gb139, 1, none⟩ (.int .i64 t134)).setCell ⟨gb139, 2, none⟩ (.int .i64 t135)).setCell ⟨gb139, 3, none⟩ (.int .i64 t136)).setCell ⟨gb139, 4, none⟩ (.string t137)) = w64 at n0_ n1_ n2_ n3_ n4_ ⊢
     have BK130 := n0_
     have BK131 := n1_
     have BK132 := n2_
     have BK139 := n3_
     have HB := n4_
     clear n0_ n1_ n2_ n3_ n4_
     have n0_ := Aside0.mk (blk_drew BK130.out)
     have n1_ := Aside0.mk (blk_drew BK131.out)
     have n2_ := Aside0.mk (blk_drew BK132.out)
     have n3_ := Aside0.mk (blk_drew BK139.out)
     have n4_ := Aside0.mk (below_drew1 HB.out)
     clear BK130
     clear BK131
     clear BK132
     clear BK139
     clear HB
     have BK130 := n0_
     have BK131 := n1_
     have BK132 := n2_
     have BK139 := n3_
     have HB := n4_
     clear n0_ n1_ n2_ n3_ n4_
     refine start_ (n := 21) (S := fun w' => w'.cell? ⟨gb130, 0, none⟩ = some (.int .i64 a0_0) ∧ w'.cell? ⟨gb130, 1, none⟩ = some (.int .i64 a0_1) ∧ w'.cell? ⟨gb130, 2, none⟩ = some (.int .i64 a0_2) ∧ w'.cell? ⟨gb130, 3, none⟩ = some (.int .i64 a0_3) ∧ w'.cell? ⟨gb130, 4, none⟩ = some (.string a0_4) ∧ w'.cell? ⟨gb131, 0, none⟩ = some (.int .i64 a1_0) ∧ w'.cell? ⟨gb131, 1, none⟩ = some (.int .i64 a1_1)) (ds := []) #[false, false, false, false, false, false, false, false, false, false, false, false, false, false, false, false, false, false, false, false, false] (by kernel_rfl) rfl rfl ⟨(blk_cell BK130.out 0).trans rfl, (blk_cell BK130.out 1).trans rfl, (blk_cell BK130.out 2).trans rfl, (blk_cell BK130.out 3).trans rfl, (blk_cell BK130.out 4).trans rfl, (blk_cell BK131.out 0).trans rfl, (blk_cell BK131.out 1).trans rfl⟩ (fun hHeld => ?_); refine with_tabW acceptor_Take.tab2 acceptor_Take.bits2 (fun HT_ HW_ => ?_)
     generalize w64.drew = w65 at BK130 BK131 BK132 BK139 HB hHeld ⊢
     refine pure_ (i := 0) (N := some 16) (v := ?_) (a' := ?_) #[true, false, false, false, false, false, false, false, false, false, false, false, false, false, false, false, false, false, false, false, false] rfl rfl (any_of HT_.out (by kernel_rfl)) (fun _ _ _ h => h) (Or.inl ⟨by rfl, ?_⟩) ?_ ?_
     rotate_left
     ·intro w'
      go_simp
      with_reducible rfl
     rotate_left
     ·simp only [Act.put, sl1, sl2, sl3, i64_w, i32_w]
      rfl
     refine pure_ (i := 1) (N := some 17) (v := ?_) (a' := ?_) #[true, true, false, false, false, false, false, false, false, false, false, false, false, false, false, false, false, false, false, false, false] rfl rfl (any_of HT_.out (by kernel_rfl)) (fun _ _ _ h => h) (Or.inl ⟨by rfl, ?_⟩) ?_ ?_
     rotate_left
     ·intro w'
      go_simp
      with_reducible rfl
     rotate_left
     ·simp only [Act.put, sl1, sl2, sl3, i64_w, i32_w]
      rfl
     refine pure_ (i := 2) (N := some 18) (v := ?_) (a' := ?_) #[true, true, true, false, false, false, false, false, false, false, false, false, false, false, false, false, false, false, false, false, false] rfl rfl (any_of HT_.out (by kernel_rfl)) (fun _ _ _ h => h) (Or.inl ⟨by rfl, ?_⟩) ?_ ?_
     rotate_left
     ·intro w'
      go_simp
      with_reducible rfl
     rotate_left
     ·simp only [Act.put, sl1, sl2, sl3, i64_w, i32_w]
      rfl
     refine pure_ (i := 3) (N := some 19) (v := ?_) (a' := ?_) #[true, true, true, true, false, false, false, false, false, false, false, false, false, false, false, false, false, false, false, false, false] rfl rfl (any_of HT_.out (by kernel_rfl)) (fun _ _ _ h => h) (Or.inl ⟨by rfl, ?_⟩) ?_ ?_
     rotate_left
     ·intro w'
      go_simp
      with_reducible rfl
     rotate_left
     ·simp only [Act.put, sl1, sl2, sl3, i64_w, i32_w]
      rfl
     refine pure_ (i := 4) (N := some 20) (v := ?_) (a' := ?_) #[true, true, true, true, true, false, false, false, false, false, false, false, false, false, false, false, false, false, false, false, false] rfl rfl (any_of HT_.out (by kernel_rfl)) (fun _ _ _ h => h) (Or.inl ⟨by rfl, ?_⟩) ?_ ?_
     rotate_left
     ·intro w'
      go_simp
      with_reducible rfl
     rotate_left
     ·simp only [Act.put, sl1, sl2, sl3, i64_w, i32_w]
      rfl
     refine pure_ (i := 5) (N := some 21) (v := ?_) (a' := ?_) #[true, true, true, true, true, true, false, false, false, false, false, false, false, false, false, false, false, false, false, false, false] rfl rfl (any_of HT_.out (by kernel_rfl)) (fun _ _ _ h => h) (Or.inl ⟨by rfl, ?_⟩) ?_ ?_
     rotate_left
     ·intro w'
      go_simp
      with_reducible rfl
     rotate_left
     ·simp only [Act.put, sl1, sl2, sl3, i64_w, i32_w]
      rfl
     refine pure_ (i := 6) (N := some 22) (v := ?_) (a' := ?_) #[true, true, true, true, true, true, true, false, false, false, false, false, false, false, false, false, false, false, false, false, false] rfl rfl (any_of HT_.out (by kernel_rfl)) (fun _ _ _ h => h) (Or.inl ⟨by rfl, ?_⟩) ?_ ?_
     rotate_left
     ·intro w'
      go_simp
      with_reducible rfl
     rotate_left
     ·simp only [Act.put, sl1, sl2, sl3, i64_w, i32_w]
      rfl
     refine pure_ (i := 7) (N := some 23) (v := ?_) (a' := ?_) #[true, true, true, true, true, true, true, true, false, false, false, false, false, false, false, false, false, false, false, false, false] rfl rfl (any_of HT_.out (by kernel_rfl)) (fun _ _ _ h => h) (Or.inl ⟨by rfl, ?_⟩) ?_ ?_
     rotate_left
     ·intro w'
      go_simp
      with_reducible rfl
     rotate_left
     ·simp only [Act.put, sl1, sl2, sl3, i64_w, i32_w]
      rfl
     refine pure_ (i := 8) (N := some 24) (v := ?_) (a' := ?_) #[true, true, true, true, true, true, true, true, true, false, false, false, false, false, false, false, false, false, false, false, false] rfl rfl (any_of HT_.out (by kernel_rfl)) (fun _ _ _ h => h) (Or.inl ⟨by rfl, ?_⟩) ?_ ?_
     rotate_left
     ·intro w'
      go_simp
      with_reducible rfl
     rotate_left
     ·simp only [Act.put, sl1, sl2, sl3, i64_w, i32_w]
      rfl
     refine take_ (i := 9) (N := some 25) (v := ?_) (a' := ?_) #[true, true, true, true, true, true, true, true, true, true, false, false, false, false, false, false, false, false, false, false, false] rfl rfl (take_ofW HT_.out HW_.out (by kernel_rfl)) (fun _ _ _ h => h) (Or.inl ⟨by rfl, ?_⟩) hHeld ?_ ?_
     rotate_left
     ·rintro w' ⟨s0, s1, s2, s3, s4, s5, s6⟩
      go_simp
      with_reducible rfl
     rotate_left
     ·simp only [Act.put, sl1, sl2, sl3, i64_w, i32_w]
      rfl
     refine take_ (i := 11) (N := some 27) (v := ?_) (a' := ?_) #[true, true, true, true, true, true, true, true, true, true, false, true, false, false, false, false, false, false, false, false, false] rfl rfl (take_ofW HT_.out HW_.out (by kernel_rfl)) (fun _ _ _ h => h) (Or.inl ⟨by rfl, ?_⟩) hHeld ?_ ?_
     rotate_left
     ·rintro w' ⟨s0, s1, s2, s3, s4, s5, s6⟩
      go_simp
      with_reducible rfl
     rotate_left
     ·simp only [Act.put, sl1, sl2, sl3, i64_w, i32_w]
      rfl
     refine one_ (i := 10) (N := some 26) #[true, true, true, true, true, true, true, true, true, true, true, true, false, false, false, false, false, false, false, false, false] rfl rfl (one_of HT_.out (by kernel_rfl)) (by decide) (fun K hK => ?_)
     refine goes_ Tryd.func21 (by kernel_rfl) rfl #[.agg #[.int .i64 a0_2, .int .i64 a0_3]] (by rfl) rfl rfl am ?_
     with_reducible refine (acceptor_pair.calls a0_2 a0_3 t140 t141 _ A25.out).mono ?_
     rintro e w66 ⟨rfl, hb⟩
     refine ⟨_, rfl, ?_⟩
     have n0_ := Aside0.mk (nb BK130.out hb)
     have n1_ := Aside0.mk (nb BK131.out hb)
     have n2_ := Aside0.mk (nb BK132.out hb)
     have n3_ := Aside0.mk (nb BK139.out hb)
     have n4_ := Aside0.mk (below_step bw hb)
     clear BK130
     clear BK131
     clear BK132
     clear BK139
     clear HB
     have BK130 := n0_
     have BK131 := n1_
     have BK132 := n2_
     have BK139 := n3_
     have HB := n4_
     clear n0_ n1_ n2_ n3_ n4_
     (try clear hb)
     (try clear hb2)
     (try clear hk)
     (try clear hi)
     refine hK.out _ _ ⟨(blk_cell BK130.out 0).trans rfl, (blk_cell BK130.out 1).trans rfl, (blk_cell BK130.out 2).trans rfl, (blk_cell BK130.out 3).trans rfl, (blk_cell BK130.out 4).trans rfl, (blk_cell BK131.out 0).trans rfl, (blk_cell BK131.out 1).trans rfl⟩ (fun hHeld => ?_)
     clear hK K
     refine norm_ (a' := ?_) ?_ ?_
     rotate_left
     ·show Act.put _ (some 26) _ = _
      simp only [Act.put, sl1, sl2, sl3, i64_w, i32_w]
      rfl
     refine one_ (i := 12) (N := some 28) #[true, true, true, true, true, true, true, true, true, true, true, true, true, false, false, false, false, false, false, false, false] rfl rfl (one_of HT_.out (by kernel_rfl)) (by decide) (fun K hK => ?_)
     refine goes_ Tryd.func21 (by kernel_rfl) rfl #[.agg #[.int .i64 a1_0, .int .i64 a1_1]] (by rfl) rfl rfl am ?_
     with_reducible refine (acceptor_pair.calls a1_0 a1_1 t142 t143 _ A26.out).mono ?_
     rintro e w67 ⟨rfl, hb⟩
     refine ⟨_, rfl, ?_⟩
     have n0_ := Aside0.mk (nb BK130.out hb)
     have n1_ := Aside0.mk (nb BK131.out hb)
     have n2_ := Aside0.mk (nb BK132.out hb)
     have n3_ := Aside0.mk (nb BK139.out hb)
     have n4_ := Aside0.mk (below_step bw hb)
     clear BK130
     clear BK131
     clear BK132
     clear BK139
     clear HB
     have BK130 := n0_
     have BK131 := n1_
     have BK132 := n2_
     have BK139 := n3_
     have HB := n4_
     clear n0_ n1_ n2_ n3_ n4_
     (try clear hb)
     (try clear hb2)
     (try clear hk)
     (try clear hi)
     refine hK.out _ _ ⟨(blk_cell BK130.out 0).trans rfl, (blk_cell BK130.out 1).trans rfl, (blk_cell BK130.out 2).trans rfl, (blk_cell BK130.out 3).trans rfl, (blk_cell BK130.out 4).trans rfl, (blk_cell BK131.out 0).trans rfl, (blk_cell BK131.out 1).trans rfl⟩ (fun hHeld => ?_)
     clear hK K
     refine norm_ (a' := ?_) ?_ ?_
     rotate_left
     ·show Act.put _ (some 28) _ = _
      simp only [Act.put, sl1, sl2, sl3, i64_w, i32_w]
      rfl
     refine pure_ (i := 13) (N := some 29) (v := ?_) (a' := ?_) #[true, true, true, true, true, true, true, true, true, true, true, true, true, true, false, false, false, false, false, false, false] rfl rfl (any_of HT_.out (by kernel_rfl)) (fun _ _ _ h => h) (Or.inl ⟨by rfl, ?_⟩) ?_ ?_
     rotate_left
     ·intro w'
      go_simp
      with_reducible rfl
     rotate_left
     ·simp only [Act.put, sl1, sl2, sl3, i64_w, i32_w]
      rfl
     refine pure_ (i := 14) (N := some 30) (v := ?_) (a' := ?_) #[true, true, true, true, true, true, true, true, true, true, true, true, true, true, true, false, false, false, false, false, false] rfl rfl (any_of HT_.out (by kernel_rfl)) (fun _ _ _ h => h) (Or.inl ⟨by rfl, ?_⟩) ?_ ?_
     rotate_left
     ·intro w'
      go_simp
      with_reducible rfl
     rotate_left
     ·simp only [Act.put, sl1, sl2, sl3, i64_w, i32_w]
      rfl
     refine pure_ (i := 15) (N := some 31) (v := ?_) (a' := ?_) #[true, true, true, true, true, true, true, true, true, true, true, true, true, true, true, true, false, false, false, false, false] rfl rfl (any_of HT_.out (by kernel_rfl)) (fun _ _ _ h => h) (Or.inl ⟨by rfl, ?_⟩) ?_ ?_
     rotate_left
     ·intro w'
      go_simp
      with_reducible rfl
     rotate_left
     ·simp only [Act.put, sl1, sl2, sl3, i64_w, i32_w]
      rfl
     refine pure_ (i := 17) (N := some 33) (v := ?_) (a' := ?_) #[true, true, true, true, true, true, true, true, true, true, true, true, true, true, true, true, false, true, false, false, false] rfl rfl (any_of HT_.out (by kernel_rfl)) (fun _ _ _ h => h) (Or.inl ⟨by rfl, ?_⟩) ?_ ?_
     rotate_left
     ·intro w'
      go_simp
      with_reducible rfl
     rotate_left
     ·simp only [Act.put, sl1, sl2, sl3, i64_w, i32_w]
      rfl
     refine take_ (i := 16) (N := some 32) (v := ?_) (a' := ?_) #[true, true, true, true, true, true, true, true, true, true, true, true, true, true, true, true, true, true, false, false, false] rfl rfl (take_ofW HT_.out HW_.out (by kernel_rfl)) (fun _ _ _ h => h) (Or.inl ⟨by rfl, ?_⟩) hHeld ?_ ?_
     rotate_left
     ·rintro w' ⟨s0, s1, s2, s3, s4, s5, s6⟩
      go_simp
      with_reducible rfl
     rotate_left
     ·simp only [Act.put, sl1, sl2, sl3, i64_w, i32_w]
      rfl
     refine pure_ (i := 18) (N := some 34) (v := ?_) (a' := ?_) #[true, true, true, true, true, true, true, true, true, true, true, true, true, true, true, true, true, true, true, false, false] rfl rfl (any_of HT_.out (by kernel_rfl)) (fun _ _ _ h => h) (Or.inl ⟨by rfl, ?_⟩) ?_ ?_
     rotate_left
     ·intro w'
      go_simp
      with_reducible rfl
     rotate_left
     ·simp only [Act.put, sl1, sl2, sl3, i64_w, i32_w]
      rfl
     refine pure_ (i := 19) (N := some 35) (v := ?_) (a' := ?_) #[true, true, true, true, true, true, true, true, true, true, true, true, true, true, true, true, true, true, true, true, false] rfl rfl (any_of HT_.out (by kernel_rfl)) (fun _ _ _ h => h) (Or.inl ⟨by rfl, ?_⟩) ?_ ?_
     rotate_left
     ·intro w'
      go_simp
      with_reducible rfl
     rotate_left
     ·simp only [Act.put, sl1, sl2, sl3, i64_w, i32_w]
      rfl
     refine pure_ (i := 20) (N := some 36) (v := ?_) (a' := ?_) #[true, true, true, true, true, true, true, true, true, true, true, true, true, true, true, true, true, true, true, true, true] rfl rfl (any_of HT_.out (by kernel_rfl)) (fun _ _ _ h => h) (Or.inl ⟨by rfl, ?_⟩) ?_ ?_
     rotate_left
     ·intro w'
      go_simp
      with_reducible rfl
     rotate_left
     ·simp only [Act.put, sl1, sl2, sl3, i64_w, i32_w]
      rfl
     refine done_ (done_of HT_.out (by kernel_rfl)) ?_
     have hcz68_0 := bc5_0 BK130.out
     have hcz68_1 := bc5_1 BK130.out
     have hcz68_2 := bc5_2 BK130.out
     have hcz68_3 := bc5_3 BK130.out
     have hcz68_4 := bc5_4 BK130.out
     have hfz68_0 := blk_frozen BK130.out 0
     have hfz68_1 := blk_frozen BK130.out 1
     have hfz68_2 := blk_frozen BK130.out 2
     have hfz68_3 := blk_frozen BK130.out 3
     have hfz68_4 := blk_frozen BK130.out 4
     have hcz69_0 := bc5_0 BK132.out
     have hcz69_1 := bc5_1 BK132.out
     have hcz69_2 := bc5_2 BK132.out
     have hcz69_3 := bc5_3 BK132.out
     have hcz69_4 := bc5_4 BK132.out
     have hfz69_0 := blk_frozen BK132.out 0
     have hfz69_1 := blk_frozen BK132.out 1
     have hfz69_2 := blk_frozen BK132.out 2
     have hfz69_3 := blk_frozen BK132.out 3
     have hfz69_4 := blk_frozen BK132.out 4
     try go_wp2
     refine bodyPost_ret (results_ct rfl _ _ gb132 25 #[.int .i64 a0_0, .int .i64 a0_1, .int .i64 a0_2, .int .i64 a0_3, .string a0_4] (0, 0) _ rfl (by (with_reducible repeat (first | refine blk_drewN ?_ _ | refine blk_drew ?_ | refine blk_alloc ?_ _)); refine blk_put (cs := #[.int .i64 a0_0, .int .i64 a0_1, .int .i64 a0_2, .int .i64 a0_3, .string (⟨#[]⟩ : ByteArray)]) ?_ 4 _ rfl; (with_reducible repeat (first | refine blk_drewN ?_ _ | refine blk_drew ?_ | refine blk_alloc ?_ _)); refine blk_put (cs := #[.int .i64 a0_0, .int .i64 a0_1, .int .i64 a0_2, .int .i64 0, .string (⟨#[]⟩ : ByteArray)]) ?_ 3 _ rfl; (with_reducible repeat (first | refine blk_drewN ?_ _ | refine blk_drew ?_ | refine blk_alloc ?_ _)); refine blk_put (cs := #[.int .i64 a0_0, .int .i64 a0_1, .int .i64 0, .int .i64 0, .string (⟨#[]⟩ : ByteArray)]) ?_ 2 _ rfl; (with_reducible repeat (first | refine blk_drewN ?_ _ | refine blk_drew ?_ | refine blk_alloc ?_ _)); refine blk_put (cs := #[.int .i64 a0_0, .int .i64 0, .int .i64 0, .int .i64 0, .string (⟨#[]⟩ : ByteArray)]) ?_ 1 _ rfl; (with_reducible repeat (first | refine blk_drewN ?_ _ | refine blk_drew ?_ | refine blk_alloc ?_ _)); refine blk_put (cs := #[.int .i64 0, .int .i64 0, .int .i64 0, .int .i64 0, .string (⟨#[]⟩ : ByteArray)]) ?_ 0 _ rfl; (with_reducible repeat (first | refine blk_drewN ?_ _ | refine blk_drew ?_ | refine blk_alloc ?_ _)); exact BK132.out) Tryd.underlying25 rfl (by kernel_rfl)) rfl ?_
     exact ⟨er, bw⟩
   ·rw [if_neg c27] at H
    have c27b0 : (t140 == t142 && (t141 == t143)) = false := by simpa using c27
    (try (have c27b1 : decide (t140 = t142 && (t141 == t143)) = false := by simpa using c27))
    (try (have c27b2 : (t140 == t142 && (t141 == t143)) = false := by simpa using c27))
    (try (have c27b3 : ¬ (t140 = t142 && (t141 == t143)) := by simpa using c27))
    (try (have c27b4 : (!(t140 == t142) || (!(t141 == t143))) = true := by have e_ : (!(t140 == t142) || (!(t141 == t143))) = (!(t140 == t142 && (t141 == t143))) := (by simp only [Bool.not_or, Bool.not_and, Bool.not_not]); rw [e_]; first | (simp only [c27, Bool.not_true]; done) | (simp only [Bool.eq_false_iff.mpr c27, Bool.not_false]; done)))
    clear c27
    simp only [Option.some.injEq, Prod.mk.injEq] at H
    obtain ⟨rfl, rfl, rfl, rfl, rfl, rfl⟩ := H
    go_enter Tryd.func12, Tryd.ntmps12
    try go_wp2_with (first | ((with_reducible refine gate_dst (N := 3) rfl ?_); (try (refine gate_guard (by rfl) ?_; dsimp only)); refine box_event ?hg (N := 3) ?hd (cs := #[.int .i64 a0_0, .int .i64 a0_1, .int .i64 a0_2, .int .i64 a0_3, .string a0_4]) (t := 25) ?hr ?_; (case hd => rfl); (case hg => rfl); (case hr => first | (go_simp; done) | (go_simp; rfl)); intro gb130 hg w70 hbox hb; have n0_ := Aside0.mk (below_step bw hb); have n1_ := Aside0.mk (hbox); have n2_ := Aside0.mk ((g1 hg bw : w.heap.size ≤ gb130)); have n3_ := Aside0.mk ((g1 hg bw : w.heap.size ≤ gb130)); clear HB; have HB := n0_; have BK130 := n1_; have GW130 := n2_; have GE130 := n3_; clear n0_ n1_ n2_ n3_; clear hb hbox hg) | ((with_reducible refine gate_dst (N := 4) rfl ?_); (try (refine gate_guard (by rfl) ?_; dsimp only)); refine box_event ?hg (N := 4) ?hd (cs := #[.int .i64 a1_0, .int .i64 a1_1]) (t := 23) ?hr ?_; (case hd => rfl); (case hg => rfl); (case hr => first | (go_simp; done) | (go_simp; rfl)); intro gb131 hg w71 hbox hb; have n0_ := Aside0.mk (nb BK130.out hb); have n1_ := Aside0.mk (below_step bw hb); have n2_ := Aside0.mk (hbox); have n3_ := Aside0.mk ((g1 hg bw : w.heap.size ≤ gb131)); have n4_ := Aside0.mk ((g1 hg bw : w.heap.size ≤ gb131)); have n5_ := Aside0.mk ((n1 hg BK130.out : gb130 ≠ gb131)); have n6_ := Aside0.mk ((n2 hg BK130.out : gb131 ≠ gb130)); clear BK130; clear HB; have BK130 := n0_; have HB := n1_; have BK131 := n2_; have GW131 := n3_; have GE131 := n4_; have NB130_131 := n5_; have NB131_130 := n6_; clear n0_ n1_ n2_ n3_ n4_ n5_ n6_; clear hb hbox hg) | ((with_reducible refine gate_dst (N := 6) rfl ?_); (try (refine gate_guard (by rfl) ?_; dsimp only)); refine box_event ?hg (N := 6) ?hd (cs := #[.int .i64 0, .int .i64 0, .int .i64 0, .int .i64 0, .string (⟨#[]⟩ : ByteArray)]) (t := 25) ?hr ?_; (case hd => rfl); (case hg => rfl); (case hr => first | (go_simp; done) | (go_simp; rfl)); intro gb132 hg w72 hbox hb; have n0_ := Aside0.mk (nb BK130.out hb); have n1_ := Aside0.mk (nb BK131.out hb); have n2_ := Aside0.mk (below_step bw hb); have n3_ := Aside0.mk (hbox); have n4_ := Aside0.mk ((g1 hg bw : w.heap.size ≤ gb132)); have n5_ := Aside0.mk ((g1 hg bw : w.heap.size ≤ gb132)); have n6_ := Aside0.mk ((n1 hg BK130.out : gb130 ≠ gb132)); have n7_ := Aside0.mk ((n2 hg BK130.out : gb132 ≠ gb130)); have n8_ := Aside0.mk ((n1 hg BK131.out : gb131 ≠ gb132)); have n9_ := Aside0.mk ((n2 hg BK131.out : gb132 ≠ gb131)); clear BK130; clear BK131; clear HB; have BK130 := n0_; have BK131 := n1_; have HB := n2_; have BK132 := n3_; have GW132 := n4_; have GE132 := n5_; have NB130_132 := n6_; have NB132_130 := n7_; have NB131_132 := n8_; have NB132_131 := n9_; clear n0_ n1_ n2_ n3_ n4_ n5_ n6_ n7_ n8_ n9_; clear hb hbox hg; have hnb73 := NB130_131.out; have hnc73 := NB131_130.out; have hnb74 := NB130_132.out; have hnc74 := NB132_130.out; have hcz75_0 := bc5_0 BK130.out; have hcz75_1 := bc5_1 BK130.out; have hcz75_2 := bc5_2 BK130.out; have hcz75_3 := bc5_3 BK130.out; have hcz75_4 := bc5_4 BK130.out; have hfz75_0 := blk_frozen BK130.out 0; have hfz75_1 := blk_frozen BK130.out 1; have hfz75_2 := blk_frozen BK130.out 2; have hfz75_3 := blk_frozen BK130.out 3; have hfz75_4 := blk_frozen BK130.out 4; have hnb76 := NB131_132.out; have hnc76 := NB132_131.out; have hcz77_0 := bc2_0 BK131.out; have hcz77_1 := bc2_1 BK131.out; have hfz77_0 := blk_frozen BK131.out 0; have hfz77_1 := blk_frozen BK131.out 1) | ((with_reducible refine gate_callee (f := 11) rfl ?_); refine goesL_ (some 13) rfl rfl Tryd.func11 (by kernel_rfl) rfl #[.agg #[.int .i64 a0_0, .int .i64 a0_1, .int .i64 a0_2, .int .i64 a0_3, .string a0_4], .agg #[.int .i64 a1_0, .int .i64 a1_1]] rfl am ?_; (with_reducible refine (acceptor_Prepare.calls a0_0 a0_1 a0_2 a0_3 a0_4 a1_0 a1_1 t133 t134 t135 t136 t137 true _ A4.out).mono ?_); rintro e w78 ⟨rfl, hb⟩; refine ⟨_, rfl, ?_⟩; have n0_ := Aside0.mk (nb BK130.out hb); have n1_ := Aside0.mk (nb BK131.out hb); have n2_ := Aside0.mk (nb BK132.out hb); have n3_ := Aside0.mk (below_step bw hb); clear BK130; clear BK131; clear BK132; clear HB; have BK130 := n0_; have BK131 := n1_; have BK132 := n2_; have HB := n3_; clear n0_ n1_ n2_ n3_; (try clear hb); (try clear hb2); (try clear hk); (try clear hi)) | ((with_reducible refine gate_dst (N := 8) rfl ?_); (try (refine gate_guard (by rfl) ?_; dsimp only)); refine box_event ?hg (N := 8) ?hd (cs := #[.int .i64 0, .int .i64 0, .int .i64 0, .int .i64 0, .string (⟨#[]⟩ : ByteArray)]) (t := 25) ?hr ?_; (case hd => rfl); (case hg => rfl); (case hr => first | (go_simp; done) | (go_simp; rfl)); intro gb139 hg w79 hbox hb; have n0_ := Aside0.mk (nb BK130.out hb); have n1_ := Aside0.mk (nb BK131.out hb); have n2_ := Aside0.mk (nb BK132.out hb); have n3_ := Aside0.mk (below_step bw hb); have n4_ := Aside0.mk (hbox); have n5_ := Aside0.mk ((g1 hg bw : w.heap.size ≤ gb139)); have n6_ := Aside0.mk ((g1 hg bw : w.heap.size ≤ gb139)); have n7_ := Aside0.mk ((n1 hg BK130.out : gb130 ≠ gb139)); have n8_ := Aside0.mk ((n2 hg BK130.out : gb139 ≠ gb130)); have n9_ := Aside0.mk ((n1 hg BK131.out : gb131 ≠ gb139)); have n10_ := Aside0.mk ((n2 hg BK131.out : gb139 ≠ gb131)); have n11_ := Aside0.mk ((n1 hg BK132.out : gb132 ≠ gb139)); have n12_ := Aside0.mk ((n2 hg BK132.out : gb139 ≠ gb132)); clear BK130; clear BK131; clear BK132; clear HB; have BK130 := n0_; have BK131 := n1_; have BK132 := n2_; have HB := n3_; have BK139 := n4_; have GW139 := n5_; have GE139 := n6_; have NB130_139 := n7_; have NB139_130 := n8_; have NB131_139 := n9_; have NB139_131 := n10_; have NB132_139 := n11_; have NB139_132 := n12_; clear n0_ n1_ n2_ n3_ n4_ n5_ n6_ n7_ n8_ n9_ n10_ n11_ n12_; clear hb hbox hg; have hnb80 := NB139_130.out; have hnc80 := NB130_139.out; have hnb81 := NB139_131.out; have hnc81 := NB131_139.out; have hnb82 := NB139_132.out; have hnc82 := NB132_139.out; have hcz83_0 := bc5_0 BK139.out; have hcz83_1 := bc5_1 BK139.out; have hcz83_2 := bc5_2 BK139.out; have hcz83_3 := bc5_3 BK139.out; have hcz83_4 := bc5_4 BK139.out; have hfz83_0 := blk_frozen BK139.out 0; have hfz83_1 := blk_frozen BK139.out 1; have hfz83_2 := blk_frozen BK139.out 2; have hfz83_3 := blk_frozen BK139.out 3; have hfz83_4 := blk_frozen BK139.out 4))
    have n0_ : Aside0 ((((((w79.setCell ⟨gb139, 0, none⟩ (.int .i64 t133)).setCell ⟨gb139, 1, none⟩ (.int .i64 t134)).setCell ⟨gb139, 2, none⟩ (.int .i64 t135)).setCell ⟨gb139, 3, none⟩ (.int .i64 t136)).setCell ⟨gb139, 4, none⟩ (.string t137)).heap[gb130]? = some (.cells #[.int .i64 a0_0, .int .i64 a0_1, .int .i64 a0_2, .int .i64 a0_3, .string a0_4] 25 (0, 0))) := ⟨by (with_reducible repeat (first | refine blk_drewN ?_ _ | refine blk_drew ?_ | refine blk_alloc ?_ _ | refine blk_far ?_ NB130_139.out _)); exact BK130.out⟩
    have n1_ : Aside0 ((((((w79.setCell ⟨gb139, 0, none⟩ (.int .i64 t133)).setCell ⟨gb139, 1, none⟩ (.int .i64 t134)).setCell ⟨gb139, 2, none⟩ (.int .i64 t135)).setCell ⟨gb139, 3, none⟩ (.int .i64 t136)).setCell ⟨gb139, 4, none⟩ (.string t137)).heap[gb131]? = some (.cells #[.int .i64 a1_0, .int .i64 a1_1] 23 (0, 0))) := ⟨by (with_reducible repeat (first | refine blk_drewN ?_ _ | refine blk_drew ?_ | refine blk_alloc ?_ _ | refine blk_far ?_ NB131_139.out _)); exact BK131.out⟩
    have n2_ : Aside0 ((((((w79.setCell ⟨gb139, 0, none⟩ (.int .i64 t133)).setCell ⟨gb139, 1, none⟩ (.int .i64 t134)).setCell ⟨gb139, 2, none⟩ (.int .i64 t135)).setCell ⟨gb139, 3, none⟩ (.int .i64 t136)).setCell ⟨gb139, 4, none⟩ (.string t137)).heap[gb132]? = some (.cells #[.int .i64 0, .int .i64 0, .int .i64 0, .int .i64 0, .string (⟨#[]⟩ : ByteArray)] 25 (0, 0))) := ⟨by (with_reducible repeat (first | refine blk_drewN ?_ _ | refine blk_drew ?_ | refine blk_alloc ?_ _ | refine blk_far ?_ NB132_139.out _)); exact BK132.out⟩
    have n3_ : Aside0 ((((((w79.setCell ⟨gb139, 0, none⟩ (.int .i64 t133)).setCell ⟨gb139, 1, none⟩ (.int .i64 t134)).setCell ⟨gb139, 2, none⟩ (.int .i64 t135)).setCell ⟨gb139, 3, none⟩ (.int .i64 t136)).setCell ⟨gb139, 4, none⟩ (.string t137)).heap[gb139]? = some (.cells #[.int .i64 t133, .int .i64 t134, .int .i64 t135, .int .i64 t136, .string t137] 25 (0, 0))) := ⟨by (with_reducible repeat (first | refine blk_drewN ?_ _ | refine blk_drew ?_ | refine blk_alloc ?_ _)); refine blk_put (cs := #[.int .i64 t133, .int .i64 t134, .int .i64 t135, .int .i64 t136, .string (⟨#[]⟩ : ByteArray)]) ?_ 4 _ rfl; (with_reducible repeat (first | refine blk_drewN ?_ _ | refine blk_drew ?_ | refine blk_alloc ?_ _)); refine blk_put (cs := #[.int .i64 t133, .int .i64 t134, .int .i64 t135, .int .i64 0, .string (⟨#[]⟩ : ByteArray)]) ?_ 3 _ rfl; (with_reducible repeat (first | refine blk_drewN ?_ _ | refine blk_drew ?_ | refine blk_alloc ?_ _)); refine blk_put (cs := #[.int .i64 t133, .int .i64 t134, .int .i64 0, .int .i64 0, .string (⟨#[]⟩ : ByteArray)]) ?_ 2 _ rfl; (with_reducible repeat (first | refine blk_drewN ?_ _ | refine blk_drew ?_ | refine blk_alloc ?_ _)); refine blk_put (cs := #[.int .i64 t133, .int .i64 0, .int .i64 0, .int .i64 0, .string (⟨#[]⟩ : ByteArray)]) ?_ 1 _ rfl; (with_reducible repeat (first | refine blk_drewN ?_ _ | refine blk_drew ?_ | refine blk_alloc ?_ _)); refine blk_put (cs := #[.int .i64 0, .int .i64 0, .int .i64 0, .int .i64 0, .string (⟨#[]⟩ : ByteArray)]) ?_ 0 _ rfl; (with_reducible repeat (first | refine blk_drewN ?_ _ | refine blk_drew ?_ | refine blk_alloc ?_ _)); exact BK139.out⟩
    have n4_ : Aside0 (Below w.heap.size w (((((w79.setCell ⟨gb139, 0, none⟩ (.int .i64 t133)).setCell ⟨gb139, 1, none⟩ (.int .i64 t134)).setCell ⟨gb139, 2, none⟩ (.int .i64 t135)).setCell ⟨gb139, 3, none⟩ (.int .i64 t136)).setCell ⟨gb139, 4, none⟩ (.string t137))) := ⟨bw⟩
    (try clear BK130)
    (try clear BK131)
    (try clear BK132)
    (try clear BK139)
    (try clear HB)
    generalize (((((w79.setCell ⟨gb139, 0, none⟩ (.int .i64 t133)).setCell ⟨gb139, 1, none⟩ (.int .i64 t134)).setCell ⟨gb139, 2, none⟩ (.int .i64 t135)).setCell ⟨gb139, 3, none⟩ (.int .i64 t136)).setCell ⟨gb139, 4, none⟩ (.string t137)) = w84 at n0_ n1_ n2_ n3_ n4_ ⊢
    have BK130 := n0_
    have BK131 := n1_
    have BK132 := n2_
    have BK139 := n3_
    have HB := n4_
    clear n0_ n1_ n2_ n3_ n4_
    have n0_ := Aside0.mk (blk_drew BK130.out)
    have n1_ := Aside0.mk (blk_drew BK131.out)
    have n2_ := Aside0.mk (blk_drew BK132.out)
    have n3_ := Aside0.mk (blk_drew BK139.out)
    have n4_ := Aside0.mk (below_drew1 HB.out)
    clear BK130
    clear BK131
    clear BK132
    clear BK139
    clear HB
    have BK130 := n0_
    have BK131 := n1_
    have BK132 := n2_
    have BK139 := n3_
    have HB := n4_
    clear n0_ n1_ n2_ n3_ n4_
    refine start_ (n := 21) (S := fun w' => w'.cell? ⟨gb130, 0, none⟩ = some (.int .i64 a0_0) ∧ w'.cell? ⟨gb130, 1, none⟩ = some (.int .i64 a0_1) ∧ w'.cell? ⟨gb130, 2, none⟩ = some (.int .i64 a0_2) ∧ w'.cell? ⟨gb130, 3, none⟩ = some (.int .i64 a0_3) ∧ w'.cell? ⟨gb130, 4, none⟩ = some (.string a0_4) ∧ w'.cell? ⟨gb131, 0, none⟩ = some (.int .i64 a1_0) ∧ w'.cell? ⟨gb131, 1, none⟩ = some (.int .i64 a1_1)) (ds := []) #[false, false, false, false, false, false, false, false, false, false, false, false, false, false, false, false, false, false, false, false, false] (by kernel_rfl) rfl rfl ⟨(blk_cell BK130.out 0).trans rfl, (blk_cell BK130.out 1).trans rfl, (blk_cell BK130.out 2).trans rfl, (blk_cell BK130.out 3).trans rfl, (blk_cell BK130.out 4).trans rfl, (blk_cell BK131.out 0).trans rfl, (blk_cell BK131.out 1).trans rfl⟩ (fun hHeld => ?_); refine with_tabW acceptor_Take.tab2 acceptor_Take.bits2 (fun HT_ HW_ => ?_)
    generalize w84.drew = w85 at BK130 BK131 BK132 BK139 HB hHeld ⊢
    refine pure_ (i := 0) (N := some 16) (v := ?_) (a' := ?_) #[true, false, false, false, false, false, false, false, false, false, false, false, false, false, false, false, false, false, false, false, false] rfl rfl (any_of HT_.out (by kernel_rfl)) (fun _ _ _ h => h) (Or.inl ⟨by rfl, ?_⟩) ?_ ?_
    rotate_left
    ·intro w'
     go_simp
     with_reducible rfl
    rotate_left
    ·simp only [Act.put, sl1, sl2, sl3, i64_w, i32_w]
     rfl
    refine pure_ (i := 1) (N := some 17) (v := ?_) (a' := ?_) #[true, true, false, false, false, false, false, false, false, false, false, false, false, false, false, false, false, false, false, false, false] rfl rfl (any_of HT_.out (by kernel_rfl)) (fun _ _ _ h => h) (Or.inl ⟨by rfl, ?_⟩) ?_ ?_
    rotate_left
    ·intro w'
     go_simp
     with_reducible rfl
    rotate_left
    ·simp only [Act.put, sl1, sl2, sl3, i64_w, i32_w]
     rfl
    refine pure_ (i := 2) (N := some 18) (v := ?_) (a' := ?_) #[true, true, true, false, false, false, false, false, false, false, false, false, false, false, false, false, false, false, false, false, false] rfl rfl (any_of HT_.out (by kernel_rfl)) (fun _ _ _ h => h) (Or.inl ⟨by rfl, ?_⟩) ?_ ?_
    rotate_left
    ·intro w'
     go_simp
     with_reducible rfl
    rotate_left
    ·simp only [Act.put, sl1, sl2, sl3, i64_w, i32_w]
     rfl
    refine pure_ (i := 3) (N := some 19) (v := ?_) (a' := ?_) #[true, true, true, true, false, false, false, false, false, false, false, false, false, false, false, false, false, false, false, false, false] rfl rfl (any_of HT_.out (by kernel_rfl)) (fun _ _ _ h => h) (Or.inl ⟨by rfl, ?_⟩) ?_ ?_
    rotate_left
    ·intro w'
     go_simp
     with_reducible rfl
    rotate_left
    ·simp only [Act.put, sl1, sl2, sl3, i64_w, i32_w]
     rfl
    refine pure_ (i := 4) (N := some 20) (v := ?_) (a' := ?_) #[true, true, true, true, true, false, false, false, false, false, false, false, false, false, false, false, false, false, false, false, false] rfl rfl (any_of HT_.out (by kernel_rfl)) (fun _ _ _ h => h) (Or.inl ⟨by rfl, ?_⟩) ?_ ?_
    rotate_left
    ·intro w'
     go_simp
     with_reducible rfl
    rotate_left
    ·simp only [Act.put, sl1, sl2, sl3, i64_w, i32_w]
     rfl
    refine pure_ (i := 5) (N := some 21) (v := ?_) (a' := ?_) #[true, true, true, true, true, true, false, false, false, false, false, false, false, false, false, false, false, false, false, false, false] rfl rfl (any_of HT_.out (by kernel_rfl)) (fun _ _ _ h => h) (Or.inl ⟨by rfl, ?_⟩) ?_ ?_
    rotate_left
    ·intro w'
     go_simp
     with_reducible rfl
    rotate_left
    ·simp only [Act.put, sl1, sl2, sl3, i64_w, i32_w]
     rfl
    refine pure_ (i := 6) (N := some 22) (v := ?_) (a' := ?_) #[true, true, true, true, true, true, true, false, false, false, false, false, false, false, false, false, false, false, false, false, false] rfl rfl (any_of HT_.out (by kernel_rfl)) (fun _ _ _ h => h) (Or.inl ⟨by rfl, ?_⟩) ?_ ?_
    rotate_left
    ·intro w'
     go_simp
     with_reducible rfl
    rotate_left
    ·simp only [Act.put, sl1, sl2, sl3, i64_w, i32_w]
     rfl
    refine pure_ (i := 7) (N := some 23) (v := ?_) (a' := ?_) #[true, true, true, true, true, true, true, true, false, false, false, false, false, false, false, false, false, false, false, false, false] rfl rfl (any_of HT_.out (by kernel_rfl)) (fun _ _ _ h => h) (Or.inl ⟨by rfl, ?_⟩) ?_ ?_
    rotate_left
    ·intro w'
     go_simp
     with_reducible rfl
    rotate_left
    ·simp only [Act.put, sl1, sl2, sl3, i64_w, i32_w]
     rfl
    refine pure_ (i := 8) (N := some 24) (v := ?_) (a' := ?_) #[true, true, true, true, true, true, true, true, true, false, false, false, false, false, false, false, false, false, false, false, false] rfl rfl (any_of HT_.out (by kernel_rfl)) (fun _ _ _ h => h) (Or.inl ⟨by rfl, ?_⟩) ?_ ?_
    rotate_left
    ·intro w'
     go_simp
     with_reducible rfl
    rotate_left
    ·simp only [Act.put, sl1, sl2, sl3, i64_w, i32_w]
     rfl
    refine take_ (i := 9) (N := some 25) (v := ?_) (a' := ?_) #[true, true, true, true, true, true, true, true, true, true, false, false, false, false, false, false, false, false, false, false, false] rfl rfl (take_ofW HT_.out HW_.out (by kernel_rfl)) (fun _ _ _ h => h) (Or.inl ⟨by rfl, ?_⟩) hHeld ?_ ?_
    rotate_left
    ·rintro w' ⟨s0, s1, s2, s3, s4, s5, s6⟩
     go_simp
     with_reducible rfl
    rotate_left
    ·simp only [Act.put, sl1, sl2, sl3, i64_w, i32_w]
     rfl
    refine take_ (i := 11) (N := some 27) (v := ?_) (a' := ?_) #[true, true, true, true, true, true, true, true, true, true, false, true, false, false, false, false, false, false, false, false, false] rfl rfl (take_ofW HT_.out HW_.out (by kernel_rfl)) (fun _ _ _ h => h) (Or.inl ⟨by rfl, ?_⟩) hHeld ?_ ?_
    rotate_left
    ·rintro w' ⟨s0, s1, s2, s3, s4, s5, s6⟩
     go_simp
     with_reducible rfl
    rotate_left
    ·simp only [Act.put, sl1, sl2, sl3, i64_w, i32_w]
     rfl
    refine one_ (i := 10) (N := some 26) #[true, true, true, true, true, true, true, true, true, true, true, true, false, false, false, false, false, false, false, false, false] rfl rfl (one_of HT_.out (by kernel_rfl)) (by decide) (fun K hK => ?_)
    refine goes_ Tryd.func21 (by kernel_rfl) rfl #[.agg #[.int .i64 a0_2, .int .i64 a0_3]] (by rfl) rfl rfl am ?_
    with_reducible refine (acceptor_pair.calls a0_2 a0_3 t140 t141 _ A25.out).mono ?_
    rintro e w86 ⟨rfl, hb⟩
    refine ⟨_, rfl, ?_⟩
    have n0_ := Aside0.mk (nb BK130.out hb)
    have n1_ := Aside0.mk (nb BK131.out hb)
    have n2_ := Aside0.mk (nb BK132.out hb)
    have n3_ := Aside0.mk (nb BK139.out hb)
    have n4_ := Aside0.mk (below_step bw hb)
    clear BK130
    clear BK131
    clear BK132
    clear BK139
    clear HB
    have BK130 := n0_
    have BK131 := n1_
    have BK132 := n2_
    have BK139 := n3_
    have HB := n4_
    clear n0_ n1_ n2_ n3_ n4_
    (try clear hb)
    (try clear hb2)
    (try clear hk)
    (try clear hi)
    refine hK.out _ _ ⟨(blk_cell BK130.out 0).trans rfl, (blk_cell BK130.out 1).trans rfl, (blk_cell BK130.out 2).trans rfl, (blk_cell BK130.out 3).trans rfl, (blk_cell BK130.out 4).trans rfl, (blk_cell BK131.out 0).trans rfl, (blk_cell BK131.out 1).trans rfl⟩ (fun hHeld => ?_)
    clear hK K
    refine norm_ (a' := ?_) ?_ ?_
    rotate_left
    ·show Act.put _ (some 26) _ = _
     simp only [Act.put, sl1, sl2, sl3, i64_w, i32_w]
     rfl
    refine one_ (i := 12) (N := some 28) #[true, true, true, true, true, true, true, true, true, true, true, true, true, false, false, false, false, false, false, false, false] rfl rfl (one_of HT_.out (by kernel_rfl)) (by decide) (fun K hK => ?_)
    refine goes_ Tryd.func21 (by kernel_rfl) rfl #[.agg #[.int .i64 a1_0, .int .i64 a1_1]] (by rfl) rfl rfl am ?_
    with_reducible refine (acceptor_pair.calls a1_0 a1_1 t142 t143 _ A26.out).mono ?_
    rintro e w87 ⟨rfl, hb⟩
    refine ⟨_, rfl, ?_⟩
    have n0_ := Aside0.mk (nb BK130.out hb)
    have n1_ := Aside0.mk (nb BK131.out hb)
    have n2_ := Aside0.mk (nb BK132.out hb)
    have n3_ := Aside0.mk (nb BK139.out hb)
    have n4_ := Aside0.mk (below_step bw hb)
    clear BK130
    clear BK131
    clear BK132
    clear BK139
    clear HB
    have BK130 := n0_
    have BK131 := n1_
    have BK132 := n2_
    have BK139 := n3_
    have HB := n4_
    clear n0_ n1_ n2_ n3_ n4_
    (try clear hb)
    (try clear hb2)
    (try clear hk)
    (try clear hi)
    refine hK.out _ _ ⟨(blk_cell BK130.out 0).trans rfl, (blk_cell BK130.out 1).trans rfl, (blk_cell BK130.out 2).trans rfl, (blk_cell BK130.out 3).trans rfl, (blk_cell BK130.out 4).trans rfl, (blk_cell BK131.out 0).trans rfl, (blk_cell BK131.out 1).trans rfl⟩ (fun hHeld => ?_)
    clear hK K
    refine norm_ (a' := ?_) ?_ ?_
    rotate_left
    ·show Act.put _ (some 28) _ = _
     simp only [Act.put, sl1, sl2, sl3, i64_w, i32_w]
     rfl
    refine pure_ (i := 13) (N := some 29) (v := ?_) (a' := ?_) #[true, true, true, true, true, true, true, true, true, true, true, true, true, true, false, false, false, false, false, false, false] rfl rfl (any_of HT_.out (by kernel_rfl)) (fun _ _ _ h => h) (Or.inl ⟨by rfl, ?_⟩) ?_ ?_
    rotate_left
    ·intro w'
     go_simp
     with_reducible rfl
    rotate_left
    ·simp only [Act.put, sl1, sl2, sl3, i64_w, i32_w]
     rfl
    refine pure_ (i := 14) (N := some 30) (v := ?_) (a' := ?_) #[true, true, true, true, true, true, true, true, true, true, true, true, true, true, true, false, false, false, false, false, false] rfl rfl (any_of HT_.out (by kernel_rfl)) (fun _ _ _ h => h) (Or.inl ⟨by rfl, ?_⟩) ?_ ?_
    rotate_left
    ·intro w'
     go_simp
     with_reducible rfl
    rotate_left
    ·simp only [Act.put, sl1, sl2, sl3, i64_w, i32_w]
     rfl
    refine pure_ (i := 15) (N := some 31) (v := undef) (a' := ?_) #[true, true, true, true, true, true, true, true, true, true, true, true, true, true, true, true, false, false, false, false, false] rfl rfl (any_of HT_.out (by kernel_rfl)) (fun _ _ _ h => h) (Or.inr ⟨by rfl, rfl⟩) ?_ ?_
    rotate_left
    ·simp only [Act.put, sl1, sl2, sl3, i64_w, i32_w]
     rfl
    refine pure_ (i := 16) (N := some 32) (v := undef) (a' := ?_) #[true, true, true, true, true, true, true, true, true, true, true, true, true, true, true, true, true, false, false, false, false] rfl rfl (any_of HT_.out (by kernel_rfl)) (fun _ _ _ h => h) (Or.inr ⟨by rfl, rfl⟩) ?_ ?_
    rotate_left
    ·simp only [Act.put, sl1, sl2, sl3, i64_w, i32_w]
     rfl
    refine pure_ (i := 17) (N := some 33) (v := undef) (a' := ?_) #[true, true, true, true, true, true, true, true, true, true, true, true, true, true, true, true, true, true, false, false, false] rfl rfl (any_of HT_.out (by kernel_rfl)) (fun _ _ _ h => h) (Or.inr ⟨by rfl, rfl⟩) ?_ ?_
    rotate_left
    ·simp only [Act.put, sl1, sl2, sl3, i64_w, i32_w]
     rfl
    refine pure_ (i := 18) (N := some 34) (v := undef) (a' := ?_) #[true, true, true, true, true, true, true, true, true, true, true, true, true, true, true, true, true, true, true, false, false] rfl rfl (any_of HT_.out (by kernel_rfl)) (fun _ _ _ h => h) (Or.inr ⟨by rfl, rfl⟩) ?_ ?_
    rotate_left
    ·simp only [Act.put, sl1, sl2, sl3, i64_w, i32_w]
     rfl
    refine pure_ (i := 19) (N := some 35) (v := ?_) (a' := ?_) #[true, true, true, true, true, true, true, true, true, true, true, true, true, true, true, true, true, true, true, true, false] rfl rfl (any_of HT_.out (by kernel_rfl)) (fun _ _ _ h => h) (Or.inl ⟨by rfl, ?_⟩) ?_ ?_
    rotate_left
    ·intro w'
     go_simp
     with_reducible rfl
    rotate_left
    ·simp only [Act.put, sl1, sl2, sl3, i64_w, i32_w]
     rfl
    refine pure_ (i := 20) (N := some 36) (v := ?_) (a' := ?_) #[true, true, true, true, true, true, true, true, true, true, true, true, true, true, true, true, true, true, true, true, true] rfl rfl (any_of HT_.out (by kernel_rfl)) (fun _ _ _ h => h) (Or.inl ⟨by rfl, ?_⟩) ?_ ?_
    rotate_left
    ·intro w'
     go_simp
     with_reducible rfl
    rotate_left
    ·simp only [Act.put, sl1, sl2, sl3, i64_w, i32_w]
     rfl
    refine done_ (done_of HT_.out (by kernel_rfl)) ?_
    have hcz88_0 := bc2_0 BK131.out
    have hcz88_1 := bc2_1 BK131.out
    have hfz88_0 := blk_frozen BK131.out 0
    have hfz88_1 := blk_frozen BK131.out 1
    have hcz89_0 := bc5_0 BK139.out
    have hcz89_1 := bc5_1 BK139.out
    have hcz89_2 := bc5_2 BK139.out
    have hcz89_3 := bc5_3 BK139.out
    have hcz89_4 := bc5_4 BK139.out
    have hfz89_0 := blk_frozen BK139.out 0
    have hfz89_1 := blk_frozen BK139.out 1
    have hfz89_2 := blk_frozen BK139.out 2
    have hfz89_3 := blk_frozen BK139.out 3
    have hfz89_4 := blk_frozen BK139.out 4
    have hcz90_0 := bc5_0 BK132.out
    have hcz90_1 := bc5_1 BK132.out
    have hcz90_2 := bc5_2 BK132.out
    have hcz90_3 := bc5_3 BK132.out
    have hcz90_4 := bc5_4 BK132.out
    have hfz90_0 := blk_frozen BK132.out 0
    have hfz90_1 := blk_frozen BK132.out 1
    have hfz90_2 := blk_frozen BK132.out 2
    have hfz90_3 := blk_frozen BK132.out 3
    have hfz90_4 := blk_frozen BK132.out 4
    try go_wp2
    refine bodyPost_ret (results_ct rfl _ _ gb132 25 #[.int .i64 t133, .int .i64 t134, .int .i64 a1_0, .int .i64 a1_1, .string a2] (0, 0) _ rfl (by (with_reducible repeat (first | refine blk_drewN ?_ _ | refine blk_drew ?_ | refine blk_alloc ?_ _)); refine blk_put (cs := #[.int .i64 t133, .int .i64 t134, .int .i64 a1_0, .int .i64 a1_1, .string (⟨#[]⟩ : ByteArray)]) ?_ 4 _ rfl; (with_reducible repeat (first | refine blk_drewN ?_ _ | refine blk_drew ?_ | refine blk_alloc ?_ _)); refine blk_put (cs := #[.int .i64 t133, .int .i64 t134, .int .i64 a1_0, .int .i64 0, .string (⟨#[]⟩ : ByteArray)]) ?_ 3 _ rfl; (with_reducible repeat (first | refine blk_drewN ?_ _ | refine blk_drew ?_ | refine blk_alloc ?_ _)); refine blk_put (cs := #[.int .i64 t133, .int .i64 t134, .int .i64 0, .int .i64 0, .string (⟨#[]⟩ : ByteArray)]) ?_ 2 _ rfl; (with_reducible repeat (first | refine blk_drewN ?_ _ | refine blk_drew ?_ | refine blk_alloc ?_ _)); refine blk_put (cs := #[.int .i64 t133, .int .i64 0, .int .i64 0, .int .i64 0, .string (⟨#[]⟩ : ByteArray)]) ?_ 1 _ rfl; (with_reducible repeat (first | refine blk_drewN ?_ _ | refine blk_drew ?_ | refine blk_alloc ?_ _)); refine blk_put (cs := #[.int .i64 0, .int .i64 0, .int .i64 0, .int .i64 0, .string (⟨#[]⟩ : ByteArray)]) ?_ 0 _ rfl; (with_reducible repeat (first | refine blk_drewN ?_ _ | refine blk_drew ?_ | refine blk_alloc ?_ _ | refine blk_far ?_ NB132_139.out _)); exact BK132.out) Tryd.underlying25 rfl (by kernel_rfl)) rfl ?_
    exact ⟨er, bw⟩
 ·replace c5 := Bool.eq_false_iff.mpr c5
  subst c5
  have H1 : (some (a0_0, a0_1, a0_2, a0_3, a0_4, false)) = some (r1, r2, r3, r4, r5, r6) := by rw [if_neg (show ¬ (false = true) by decide)] at H; exact H
  clear H
  have H := H1
  clear H1
  simp only [Option.some.injEq, Prod.mk.injEq] at H
  obtain ⟨rfl, rfl, rfl, rfl, rfl, rfl⟩ := H
  go_enter Tryd.func12, Tryd.ntmps12
  try go_wp2_with (first | ((with_reducible refine gate_dst (N := 3) rfl ?_); (try (refine gate_guard (by rfl) ?_; dsimp only)); refine box_event ?hg (N := 3) ?hd (cs := #[.int .i64 a0_0, .int .i64 a0_1, .int .i64 a0_2, .int .i64 a0_3, .string a0_4]) (t := 25) ?hr ?_; (case hd => rfl); (case hg => rfl); (case hr => first | (go_simp; done) | (go_simp; rfl)); intro gb130 hg w91 hbox hb; have n0_ := Aside0.mk (below_step bw hb); have n1_ := Aside0.mk (hbox); have n2_ := Aside0.mk ((g1 hg bw : w.heap.size ≤ gb130)); have n3_ := Aside0.mk ((g1 hg bw : w.heap.size ≤ gb130)); clear HB; have HB := n0_; have BK130 := n1_; have GW130 := n2_; have GE130 := n3_; clear n0_ n1_ n2_ n3_; clear hb hbox hg) | ((with_reducible refine gate_dst (N := 4) rfl ?_); (try (refine gate_guard (by rfl) ?_; dsimp only)); refine box_event ?hg (N := 4) ?hd (cs := #[.int .i64 a1_0, .int .i64 a1_1]) (t := 23) ?hr ?_; (case hd => rfl); (case hg => rfl); (case hr => first | (go_simp; done) | (go_simp; rfl)); intro gb131 hg w92 hbox hb; have n0_ := Aside0.mk (nb BK130.out hb); have n1_ := Aside0.mk (below_step bw hb); have n2_ := Aside0.mk (hbox); have n3_ := Aside0.mk ((g1 hg bw : w.heap.size ≤ gb131)); have n4_ := Aside0.mk ((g1 hg bw : w.heap.size ≤ gb131)); have n5_ := Aside0.mk ((n1 hg BK130.out : gb130 ≠ gb131)); have n6_ := Aside0.mk ((n2 hg BK130.out : gb131 ≠ gb130)); clear BK130; clear HB; have BK130 := n0_; have HB := n1_; have BK131 := n2_; have GW131 := n3_; have GE131 := n4_; have NB130_131 := n5_; have NB131_130 := n6_; clear n0_ n1_ n2_ n3_ n4_ n5_ n6_; clear hb hbox hg) | ((with_reducible refine gate_dst (N := 6) rfl ?_); (try (refine gate_guard (by rfl) ?_; dsimp only)); refine box_event ?hg (N := 6) ?hd (cs := #[.int .i64 0, .int .i64 0, .int .i64 0, .int .i64 0, .string (⟨#[]⟩ : ByteArray)]) (t := 25) ?hr ?_; (case hd => rfl); (case hg => rfl); (case hr => first | (go_simp; done) | (go_simp; rfl)); intro gb132 hg w93 hbox hb; have n0_ := Aside0.mk (nb BK130.out hb); have n1_ := Aside0.mk (nb BK131.out hb); have n2_ := Aside0.mk (below_step bw hb); have n3_ := Aside0.mk (hbox); have n4_ := Aside0.mk ((g1 hg bw : w.heap.size ≤ gb132)); have n5_ := Aside0.mk ((g1 hg bw : w.heap.size ≤ gb132)); have n6_ := Aside0.mk ((n1 hg BK130.out : gb130 ≠ gb132)); have n7_ := Aside0.mk ((n2 hg BK130.out : gb132 ≠ gb130)); have n8_ := Aside0.mk ((n1 hg BK131.out : gb131 ≠ gb132)); have n9_ := Aside0.mk ((n2 hg BK131.out : gb132 ≠ gb131)); clear BK130; clear BK131; clear HB; have BK130 := n0_; have BK131 := n1_; have HB := n2_; have BK132 := n3_; have GW132 := n4_; have GE132 := n5_; have NB130_132 := n6_; have NB132_130 := n7_; have NB131_132 := n8_; have NB132_131 := n9_; clear n0_ n1_ n2_ n3_ n4_ n5_ n6_ n7_ n8_ n9_; clear hb hbox hg; have hnb94 := NB130_131.out; have hnc94 := NB131_130.out; have hnb95 := NB130_132.out; have hnc95 := NB132_130.out; have hcz96_0 := bc5_0 BK130.out; have hcz96_1 := bc5_1 BK130.out; have hcz96_2 := bc5_2 BK130.out; have hcz96_3 := bc5_3 BK130.out; have hcz96_4 := bc5_4 BK130.out; have hfz96_0 := blk_frozen BK130.out 0; have hfz96_1 := blk_frozen BK130.out 1; have hfz96_2 := blk_frozen BK130.out 2; have hfz96_3 := blk_frozen BK130.out 3; have hfz96_4 := blk_frozen BK130.out 4; have hnb97 := NB131_132.out; have hnc97 := NB132_131.out; have hcz98_0 := bc2_0 BK131.out; have hcz98_1 := bc2_1 BK131.out; have hfz98_0 := blk_frozen BK131.out 0; have hfz98_1 := blk_frozen BK131.out 1) | ((with_reducible refine gate_callee (f := 11) rfl ?_); refine goesL_ (some 13) rfl rfl Tryd.func11 (by kernel_rfl) rfl #[.agg #[.int .i64 a0_0, .int .i64 a0_1, .int .i64 a0_2, .int .i64 a0_3, .string a0_4], .agg #[.int .i64 a1_0, .int .i64 a1_1]] rfl am ?_; (with_reducible refine (acceptor_Prepare.calls a0_0 a0_1 a0_2 a0_3 a0_4 a1_0 a1_1 t133 t134 t135 t136 t137 false _ A4.out).mono ?_); rintro e w99 ⟨rfl, hb⟩; refine ⟨_, rfl, ?_⟩; have n0_ := Aside0.mk (nb BK130.out hb); have n1_ := Aside0.mk (nb BK131.out hb); have n2_ := Aside0.mk (nb BK132.out hb); have n3_ := Aside0.mk (below_step bw hb); clear BK130; clear BK131; clear BK132; clear HB; have BK130 := n0_; have BK131 := n1_; have BK132 := n2_; have HB := n3_; clear n0_ n1_ n2_ n3_; (try clear hb); (try clear hb2); (try clear hk); (try clear hi)) | ((with_reducible refine gate_dst (N := 8) rfl ?_); (try (refine gate_guard (by rfl) ?_; dsimp only)); refine box_event ?hg (N := 8) ?hd (cs := #[.int .i64 0, .int .i64 0, .int .i64 0, .int .i64 0, .string (⟨#[]⟩ : ByteArray)]) (t := 25) ?hr ?_; (case hd => rfl); (case hg => rfl); (case hr => first | (go_simp; done) | (go_simp; rfl)); intro gb139 hg w100 hbox hb; have n0_ := Aside0.mk (nb BK130.out hb); have n1_ := Aside0.mk (nb BK131.out hb); have n2_ := Aside0.mk (nb BK132.out hb); have n3_ := Aside0.mk (below_step bw hb); have n4_ := Aside0.mk (hbox); have n5_ := Aside0.mk ((g1 hg bw : w.heap.size ≤ gb139)); have n6_ := Aside0.mk ((g1 hg bw : w.heap.size ≤ gb139)); have n7_ := Aside0.mk ((n1 hg BK130.out : gb130 ≠ gb139)); have n8_ := Aside0.mk ((n2 hg BK130.out : gb139 ≠ gb130)); have n9_ := Aside0.mk ((n1 hg BK131.out : gb131 ≠ gb139)); have n10_ := Aside0.mk ((n2 hg BK131.out : gb139 ≠ gb131)); have n11_ := Aside0.mk ((n1 hg BK132.out : gb132 ≠ gb139)); have n12_ := Aside0.mk ((n2 hg BK132.out : gb139 ≠ gb132)); clear BK130; clear BK131; clear BK132; clear HB; have BK130 := n0_; have BK131 := n1_; have BK132 := n2_; have HB := n3_; have BK139 := n4_; have GW139 := n5_; have GE139 := n6_; have NB130_139 := n7_; have NB139_130 := n8_; have NB131_139 := n9_; have NB139_131 := n10_; have NB132_139 := n11_; have NB139_132 := n12_; clear n0_ n1_ n2_ n3_ n4_ n5_ n6_ n7_ n8_ n9_ n10_ n11_ n12_; clear hb hbox hg; have hnb101 := NB139_130.out; have hnc101 := NB130_139.out; have hnb102 := NB139_131.out; have hnc102 := NB131_139.out; have hnb103 := NB139_132.out; have hnc103 := NB132_139.out; have hcz104_0 := bc5_0 BK139.out; have hcz104_1 := bc5_1 BK139.out; have hcz104_2 := bc5_2 BK139.out; have hcz104_3 := bc5_3 BK139.out; have hcz104_4 := bc5_4 BK139.out; have hfz104_0 := blk_frozen BK139.out 0; have hfz104_1 := blk_frozen BK139.out 1; have hfz104_2 := blk_frozen BK139.out 2; have hfz104_3 := blk_frozen BK139.out 3; have hfz104_4 := blk_frozen BK139.out 4))
  have n0_ : Aside0 ((((((w100.setCell ⟨gb139, 0, none⟩ (.int .i64 t133)).setCell ⟨gb139, 1, none⟩ (.int .i64 t134)).setCell ⟨gb139, 2, none⟩ (.int .i64 t135)).setCell ⟨gb139, 3, none⟩ (.int .i64 t136)).setCell ⟨gb139, 4, none⟩ (.string t137)).heap[gb130]? = some (.cells #[.int .i64 a0_0, .int .i64 a0_1, .int .i64 a0_2, .int .i64 a0_3, .string a0_4] 25 (0, 0))) := ⟨by (with_reducible repeat (first | refine blk_drewN ?_ _ | refine blk_drew ?_ | refine blk_alloc ?_ _ | refine blk_far ?_ NB130_139.out _)); exact BK130.out⟩
  have n1_ : Aside0 ((((((w100.setCell ⟨gb139, 0, none⟩ (.int .i64 t133)).setCell ⟨gb139, 1, none⟩ (.int .i64 t134)).setCell ⟨gb139, 2, none⟩ (.int .i64 t135)).setCell ⟨gb139, 3, none⟩ (.int .i64 t136)).setCell ⟨gb139, 4, none⟩ (.string t137)).heap[gb131]? = some (.cells #[.int .i64 a1_0, .int .i64 a1_1] 23 (0, 0))) := ⟨by (with_reducible repeat (first | refine blk_drewN ?_ _ | refine blk_drew ?_ | refine blk_alloc ?_ _ | refine blk_far ?_ NB131_139.out _)); exact BK131.out⟩
  have n2_ : Aside0 ((((((w100.setCell ⟨gb139, 0, none⟩ (.int .i64 t133)).setCell ⟨gb139, 1, none⟩ (.int .i64 t134)).setCell ⟨gb139, 2, none⟩ (.int .i64 t135)).setCell ⟨gb139, 3, none⟩ (.int .i64 t136)).setCell ⟨gb139, 4, none⟩ (.string t137)).heap[gb132]? = some (.cells #[.int .i64 0, .int .i64 0, .int .i64 0, .int .i64 0, .string (⟨#[]⟩ : ByteArray)] 25 (0, 0))) := ⟨by (with_reducible repeat (first | refine blk_drewN ?_ _ | refine blk_drew ?_ | refine blk_alloc ?_ _ | refine blk_far ?_ NB132_139.out _)); exact BK132.out⟩
  have n3_ : Aside0 ((((((w100.setCell ⟨gb139, 0, none⟩ (.int .i64 t133)).setCell ⟨gb139, 1, none⟩ (.int .i64 t134)).setCell ⟨gb139, 2, none⟩ (.int .i64 t135)).setCell ⟨gb139, 3, none⟩ (.int .i64 t136)).setCell ⟨gb139, 4, none⟩ (.string t137)).heap[gb139]? = some (.cells #[.int .i64 t133, .int .i64 t134, .int .i64 t135, .int .i64 t136, .string t137] 25 (0, 0))) := ⟨by (with_reducible repeat (first | refine blk_drewN ?_ _ | refine blk_drew ?_ | refine blk_alloc ?_ _)); refine blk_put (cs := #[.int .i64 t133, .int .i64 t134, .int .i64 t135, .int .i64 t136, .string (⟨#[]⟩ : ByteArray)]) ?_ 4 _ rfl; (with_reducible repeat (first | refine blk_drewN ?_ _ | refine blk_drew ?_ | refine blk_alloc ?_ _)); refine blk_put (cs := #[.int .i64 t133, .int .i64 t134, .int .i64 t135, .int .i64 0, .string (⟨#[]⟩ : ByteArray)]) ?_ 3 _ rfl; (with_reducible repeat (first | refine blk_drewN ?_ _ | refine blk_drew ?_ | refine blk_alloc ?_ _)); refine blk_put (cs := #[.int .i64 t133, .int .i64 t134, .int .i64 0, .int .i64 0, .string (⟨#[]⟩ : ByteArray)]) ?_ 2 _ rfl; (with_reducible repeat (first | refine blk_drewN ?_ _ | refine blk_drew ?_ | refine blk_alloc ?_ _)); refine blk_put (cs := #[.int .i64 t133, .int .i64 0, .int .i64 0, .int .i64 0, .string (⟨#[]⟩ : ByteArray)]) ?_ 1 _ rfl; (with_reducible repeat (first | refine blk_drewN ?_ _ | refine blk_drew ?_ | refine blk_alloc ?_ _)); refine blk_put (cs := #[.int .i64 0, .int .i64 0, .int .i64 0, .int .i64 0, .string (⟨#[]⟩ : ByteArray)]) ?_ 0 _ rfl; (with_reducible repeat (first | refine blk_drewN ?_ _ | refine blk_drew ?_ | refine blk_alloc ?_ _)); exact BK139.out⟩
  have n4_ : Aside0 (Below w.heap.size w (((((w100.setCell ⟨gb139, 0, none⟩ (.int .i64 t133)).setCell ⟨gb139, 1, none⟩ (.int .i64 t134)).setCell ⟨gb139, 2, none⟩ (.int .i64 t135)).setCell ⟨gb139, 3, none⟩ (.int .i64 t136)).setCell ⟨gb139, 4, none⟩ (.string t137))) := ⟨bw⟩
  (try clear BK130)
  (try clear BK131)
  (try clear BK132)
  (try clear BK139)
  (try clear HB)
  generalize (((((w100.setCell ⟨gb139, 0, none⟩ (.int .i64 t133)).setCell ⟨gb139, 1, none⟩ (.int .i64 t134)).setCell ⟨gb139, 2, none⟩ (.int .i64 t135)).setCell ⟨gb139, 3, none⟩ (.int .i64 t136)).setCell ⟨gb139, 4, none⟩ (.string t137)) = w105 at n0_ n1_ n2_ n3_ n4_ ⊢
  have BK130 := n0_
  have BK131 := n1_
  have BK132 := n2_
  have BK139 := n3_
  have HB := n4_
  clear n0_ n1_ n2_ n3_ n4_
  have n0_ := Aside0.mk (blk_drew BK130.out)
  have n1_ := Aside0.mk (blk_drew BK131.out)
  have n2_ := Aside0.mk (blk_drew BK132.out)
  have n3_ := Aside0.mk (blk_drew BK139.out)
  have n4_ := Aside0.mk (below_drew1 HB.out)
  clear BK130
  clear BK131
  clear BK132
  clear BK139
  clear HB
  have BK130 := n0_
  have BK131 := n1_
  have BK132 := n2_
  have BK139 := n3_
  have HB := n4_
  clear n0_ n1_ n2_ n3_ n4_
  refine start_ (n := 21) (S := fun w' => True) (ds := []) #[false, false, false, false, false, false, false, false, false, false, false, false, false, false, false, false, false, false, false, false, false] (by kernel_rfl) rfl rfl trivial (fun hHeld => ?_); refine with_tabW acceptor_Take.tab2 acceptor_Take.bits2 (fun HT_ HW_ => ?_)
  generalize w105.drew = w106 at BK130 BK131 BK132 BK139 HB hHeld ⊢
  refine pure_ (i := 0) (N := some 16) (v := ?_) (a' := ?_) #[true, false, false, false, false, false, false, false, false, false, false, false, false, false, false, false, false, false, false, false, false] rfl rfl (any_of HT_.out (by kernel_rfl)) (fun _ _ _ h => h) (Or.inl ⟨by rfl, ?_⟩) ?_ ?_
  rotate_left
  ·intro w'
   go_simp
   with_reducible rfl
  rotate_left
  ·simp only [Act.put, sl1, sl2, sl3, i64_w, i32_w]
   rfl
  refine pure_ (i := 1) (N := some 17) (v := ?_) (a' := ?_) #[true, true, false, false, false, false, false, false, false, false, false, false, false, false, false, false, false, false, false, false, false] rfl rfl (any_of HT_.out (by kernel_rfl)) (fun _ _ _ h => h) (Or.inl ⟨by rfl, ?_⟩) ?_ ?_
  rotate_left
  ·intro w'
   go_simp
   with_reducible rfl
  rotate_left
  ·simp only [Act.put, sl1, sl2, sl3, i64_w, i32_w]
   rfl
  refine pure_ (i := 2) (N := some 18) (v := ?_) (a' := ?_) #[true, true, true, false, false, false, false, false, false, false, false, false, false, false, false, false, false, false, false, false, false] rfl rfl (any_of HT_.out (by kernel_rfl)) (fun _ _ _ h => h) (Or.inl ⟨by rfl, ?_⟩) ?_ ?_
  rotate_left
  ·intro w'
   go_simp
   with_reducible rfl
  rotate_left
  ·simp only [Act.put, sl1, sl2, sl3, i64_w, i32_w]
   rfl
  refine pure_ (i := 3) (N := some 19) (v := undef) (a' := ?_) #[true, true, true, true, false, false, false, false, false, false, false, false, false, false, false, false, false, false, false, false, false] rfl rfl (any_of HT_.out (by kernel_rfl)) (fun _ _ _ h => h) (Or.inr ⟨by rfl, rfl⟩) ?_ ?_
  rotate_left
  ·simp only [Act.put, sl1, sl2, sl3, i64_w, i32_w]
   rfl
  refine pure_ (i := 4) (N := some 20) (v := undef) (a' := ?_) #[true, true, true, true, true, false, false, false, false, false, false, false, false, false, false, false, false, false, false, false, false] rfl rfl (any_of HT_.out (by kernel_rfl)) (fun _ _ _ h => h) (Or.inr ⟨by rfl, rfl⟩) ?_ ?_
  rotate_left
  ·simp only [Act.put, sl1, sl2, sl3, i64_w, i32_w]
   rfl
  refine pure_ (i := 5) (N := some 21) (v := undef) (a' := ?_) #[true, true, true, true, true, true, false, false, false, false, false, false, false, false, false, false, false, false, false, false, false] rfl rfl (any_of HT_.out (by kernel_rfl)) (fun _ _ _ h => h) (Or.inr ⟨by rfl, rfl⟩) ?_ ?_
  rotate_left
  ·simp only [Act.put, sl1, sl2, sl3, i64_w, i32_w]
   rfl
  refine pure_ (i := 6) (N := some 22) (v := ?_) (a' := ?_) #[true, true, true, true, true, true, true, false, false, false, false, false, false, false, false, false, false, false, false, false, false] rfl rfl (any_of HT_.out (by kernel_rfl)) (fun _ _ _ h => h) (Or.inl ⟨by rfl, ?_⟩) ?_ ?_
  rotate_left
  ·intro w'
   go_simp
   with_reducible rfl
  rotate_left
  ·simp only [Act.put, sl1, sl2, sl3, i64_w, i32_w]
   rfl
  refine pure_ (i := 7) (N := some 23) (v := ?_) (a' := ?_) #[true, true, true, true, true, true, true, true, false, false, false, false, false, false, false, false, false, false, false, false, false] rfl rfl (any_of HT_.out (by kernel_rfl)) (fun _ _ _ h => h) (Or.inl ⟨by rfl, ?_⟩) ?_ ?_
  rotate_left
  ·intro w'
   go_simp
   with_reducible rfl
  rotate_left
  ·simp only [Act.put, sl1, sl2, sl3, i64_w, i32_w]
   rfl
  refine pure_ (i := 8) (N := some 24) (v := undef) (a' := ?_) #[true, true, true, true, true, true, true, true, true, false, false, false, false, false, false, false, false, false, false, false, false] rfl rfl (any_of HT_.out (by kernel_rfl)) (fun _ _ _ h => h) (Or.inr ⟨by rfl, rfl⟩) ?_ ?_
  rotate_left
  ·simp only [Act.put, sl1, sl2, sl3, i64_w, i32_w]
   rfl
  refine pure_ (i := 9) (N := some 25) (v := undef) (a' := ?_) #[true, true, true, true, true, true, true, true, true, true, false, false, false, false, false, false, false, false, false, false, false] rfl rfl (any_of HT_.out (by kernel_rfl)) (fun _ _ _ h => h) (Or.inr ⟨by rfl, rfl⟩) ?_ ?_
  rotate_left
  ·simp only [Act.put, sl1, sl2, sl3, i64_w, i32_w]
   rfl
  refine pure_ (i := 10) (N := some 26) (v := undef) (a' := ?_) #[true, true, true, true, true, true, true, true, true, true, true, false, false, false, false, false, false, false, false, false, false] rfl rfl (any_of HT_.out (by kernel_rfl)) (fun _ _ _ h => h) (Or.inr ⟨by rfl, rfl⟩) ?_ ?_
  rotate_left
  ·simp only [Act.put, sl1, sl2, sl3, i64_w, i32_w]
   rfl
  refine pure_ (i := 11) (N := some 27) (v := undef) (a' := ?_) #[true, true, true, true, true, true, true, true, true, true, true, true, false, false, false, false, false, false, false, false, false] rfl rfl (any_of HT_.out (by kernel_rfl)) (fun _ _ _ h => h) (Or.inr ⟨by rfl, rfl⟩) ?_ ?_
  rotate_left
  ·simp only [Act.put, sl1, sl2, sl3, i64_w, i32_w]
   rfl
  refine pure_ (i := 12) (N := some 28) (v := undef) (a' := ?_) #[true, true, true, true, true, true, true, true, true, true, true, true, true, false, false, false, false, false, false, false, false] rfl rfl (any_of HT_.out (by kernel_rfl)) (fun _ _ _ h => h) (Or.inr ⟨by rfl, rfl⟩) ?_ ?_
  rotate_left
  ·simp only [Act.put, sl1, sl2, sl3, i64_w, i32_w]
   rfl
  refine pure_ (i := 13) (N := some 29) (v := undef) (a' := ?_) #[true, true, true, true, true, true, true, true, true, true, true, true, true, true, false, false, false, false, false, false, false] rfl rfl (any_of HT_.out (by kernel_rfl)) (fun _ _ _ h => h) (Or.inr ⟨by rfl, rfl⟩) ?_ ?_
  rotate_left
  ·simp only [Act.put, sl1, sl2, sl3, i64_w, i32_w]
   rfl
  refine pure_ (i := 14) (N := some 30) (v := undef) (a' := ?_) #[true, true, true, true, true, true, true, true, true, true, true, true, true, true, true, false, false, false, false, false, false] rfl rfl (any_of HT_.out (by kernel_rfl)) (fun _ _ _ h => h) (Or.inr ⟨by rfl, rfl⟩) ?_ ?_
  rotate_left
  ·simp only [Act.put, sl1, sl2, sl3, i64_w, i32_w]
   rfl
  refine pure_ (i := 15) (N := some 31) (v := undef) (a' := ?_) #[true, true, true, true, true, true, true, true, true, true, true, true, true, true, true, true, false, false, false, false, false] rfl rfl (any_of HT_.out (by kernel_rfl)) (fun _ _ _ h => h) (Or.inr ⟨by rfl, rfl⟩) ?_ ?_
  rotate_left
  ·simp only [Act.put, sl1, sl2, sl3, i64_w, i32_w]
   rfl
  refine pure_ (i := 16) (N := some 32) (v := undef) (a' := ?_) #[true, true, true, true, true, true, true, true, true, true, true, true, true, true, true, true, true, false, false, false, false] rfl rfl (any_of HT_.out (by kernel_rfl)) (fun _ _ _ h => h) (Or.inr ⟨by rfl, rfl⟩) ?_ ?_
  rotate_left
  ·simp only [Act.put, sl1, sl2, sl3, i64_w, i32_w]
   rfl
  refine pure_ (i := 17) (N := some 33) (v := undef) (a' := ?_) #[true, true, true, true, true, true, true, true, true, true, true, true, true, true, true, true, true, true, false, false, false] rfl rfl (any_of HT_.out (by kernel_rfl)) (fun _ _ _ h => h) (Or.inr ⟨by rfl, rfl⟩) ?_ ?_
  rotate_left
  ·simp only [Act.put, sl1, sl2, sl3, i64_w, i32_w]
   rfl
  refine pure_ (i := 18) (N := some 34) (v := undef) (a' := ?_) #[true, true, true, true, true, true, true, true, true, true, true, true, true, true, true, true, true, true, true, false, false] rfl rfl (any_of HT_.out (by kernel_rfl)) (fun _ _ _ h => h) (Or.inr ⟨by rfl, rfl⟩) ?_ ?_
  rotate_left
  ·simp only [Act.put, sl1, sl2, sl3, i64_w, i32_w]
   rfl
  refine pure_ (i := 19) (N := some 35) (v := undef) (a' := ?_) #[true, true, true, true, true, true, true, true, true, true, true, true, true, true, true, true, true, true, true, true, false] rfl rfl (any_of HT_.out (by kernel_rfl)) (fun _ _ _ h => h) (Or.inr ⟨by rfl, rfl⟩) ?_ ?_
  rotate_left
  ·simp only [Act.put, sl1, sl2, sl3, i64_w, i32_w]
   rfl
  refine pure_ (i := 20) (N := some 36) (v := ?_) (a' := ?_) #[true, true, true, true, true, true, true, true, true, true, true, true, true, true, true, true, true, true, true, true, true] rfl rfl (any_of HT_.out (by kernel_rfl)) (fun _ _ _ h => h) (Or.inl ⟨by rfl, ?_⟩) ?_ ?_
  rotate_left
  ·intro w'
   go_simp
   with_reducible rfl
  rotate_left
  ·simp only [Act.put, sl1, sl2, sl3, i64_w, i32_w]
   rfl
  refine done_ (done_of HT_.out (by kernel_rfl)) ?_
  have hcz107_0 := bc5_0 BK130.out
  have hcz107_1 := bc5_1 BK130.out
  have hcz107_2 := bc5_2 BK130.out
  have hcz107_3 := bc5_3 BK130.out
  have hcz107_4 := bc5_4 BK130.out
  have hfz107_0 := blk_frozen BK130.out 0
  have hfz107_1 := blk_frozen BK130.out 1
  have hfz107_2 := blk_frozen BK130.out 2
  have hfz107_3 := blk_frozen BK130.out 3
  have hfz107_4 := blk_frozen BK130.out 4
  have hcz108_0 := bc5_0 BK132.out
  have hcz108_1 := bc5_1 BK132.out
  have hcz108_2 := bc5_2 BK132.out
  have hcz108_3 := bc5_3 BK132.out
  have hcz108_4 := bc5_4 BK132.out
  have hfz108_0 := blk_frozen BK132.out 0
  have hfz108_1 := blk_frozen BK132.out 1
  have hfz108_2 := blk_frozen BK132.out 2
  have hfz108_3 := blk_frozen BK132.out 3
  have hfz108_4 := blk_frozen BK132.out 4
  try go_wp2
  refine bodyPost_ret (results_ct rfl _ _ gb132 25 #[.int .i64 a0_0, .int .i64 a0_1, .int .i64 a0_2, .int .i64 a0_3, .string a0_4] (0, 0) _ rfl (by (with_reducible repeat (first | refine blk_drewN ?_ _ | refine blk_drew ?_ | refine blk_alloc ?_ _)); refine blk_put (cs := #[.int .i64 a0_0, .int .i64 a0_1, .int .i64 a0_2, .int .i64 a0_3, .string (⟨#[]⟩ : ByteArray)]) ?_ 4 _ rfl; (with_reducible repeat (first | refine blk_drewN ?_ _ | refine blk_drew ?_ | refine blk_alloc ?_ _)); refine blk_put (cs := #[.int .i64 a0_0, .int .i64 a0_1, .int .i64 a0_2, .int .i64 0, .string (⟨#[]⟩ : ByteArray)]) ?_ 3 _ rfl; (with_reducible repeat (first | refine blk_drewN ?_ _ | refine blk_drew ?_ | refine blk_alloc ?_ _)); refine blk_put (cs := #[.int .i64 a0_0, .int .i64 a0_1, .int .i64 0, .int .i64 0, .string (⟨#[]⟩ : ByteArray)]) ?_ 2 _ rfl; (with_reducible repeat (first | refine blk_drewN ?_ _ | refine blk_drew ?_ | refine blk_alloc ?_ _)); refine blk_put (cs := #[.int .i64 a0_0, .int .i64 0, .int .i64 0, .int .i64 0, .string (⟨#[]⟩ : ByteArray)]) ?_ 1 _ rfl; (with_reducible repeat (first | refine blk_drewN ?_ _ | refine blk_drew ?_ | refine blk_alloc ?_ _)); refine blk_put (cs := #[.int .i64 0, .int .i64 0, .int .i64 0, .int .i64 0, .string (⟨#[]⟩ : ByteArray)]) ?_ 0 _ rfl; (with_reducible repeat (first | refine blk_drewN ?_ _ | refine blk_drew ?_ | refine blk_alloc ?_ _)); exact BK132.out) Tryd.underlying25 rfl (by kernel_rfl)) rfl ?_
  exact ⟨er, bw⟩

end Go.Proofs.YtocgbfcjmgpleaaDoor.P
