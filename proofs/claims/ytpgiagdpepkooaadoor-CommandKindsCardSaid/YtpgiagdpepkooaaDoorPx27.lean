-- Printed by this session's program wip/xp.py (a turned copy of the kit's printer): functions, their contracts.
import Derived.Test.YtpgiagdpepkooaaDoorPx0
import Derived.Test.YtpgiagdpepkooaaDoorPx3
import Derived.Test.YtpgiagdpepkooaaDoorPx5
import Derived.Test.YtpgiagdpepkooaaDoorPx28
namespace Go.Proofs.YtpgiagdpepkooaaDoor.P
open Go.RowKit Go.Proofs.YtpgiagdpepkooaaDoorW.PrintWords Go.Proofs.YtpgiagdpepkooaaDoorW.PrintLast Go.Proofs.YtpgiagdpepkooaaDoorW.PrintMore
attribute [local go_sem] max2_int min2_int max_two min_two max_three min_three max_four min_four   -- for this text's walks alone
set_option linter.unusedVariables false
set_option linter.unusedSimpArgs false

/-! ### carillonlaw14_CommandKinds: function 10 -/
def carillonlaw14_CommandKinds.j0 : Nat → Int → Bool → Bool → Int → ByteArray → ByteArray → Int → ByteArray → ByteArray → Int → Int → Int → Int → ByteArray → ByteArray → Int → ByteArray → ByteArray → Int → Int → Int → Option (Bool)
 | 0, _, _, _, _, _, _, _, _, _, _, _, _, _, _, _, _, _, _, _, _, _ => none
 | k + 1, x1, x5, x22, x766000, x766001, x766002, x766003, x766004, x766005, x766006, x766007, x766008, x768000, x768001, x768002, x768003, x768004, x768005, x768006, x768007, x768008 => if x22 = true then (some x5) else ((command_Encode.f k x766000 x766001 x766002 x766003 x766004 x766005 x766006 x766007 x766008).bind fun bt770 => ((command_Encode.f k x768000 x768001 x768002 x768003 x768004 x768005 x768006 x768007 x768008).bind fun bt772 => (if x5 = true then (if bt770.2 = 0 then (if bt772.2 = 0 then (if (bt770.1.size : Int) = (bt772.1.size : Int) then (if ((bt770.1.toList == bt772.1.toList) == (x766000 == x1)) = true then (if 1 ≤ (bt770.1.size : Int) then (if 1 ≤ (bt772.1.size : Int) then (some ((bt770.1.extract 1 bt770.1.size).toList == (bt772.1.extract 1 bt772.1.size).toList)) else (none)) else (none)) else (some false)) else (some false)) else (some false)) else (some false)) else (some false))))
def carillonlaw14_CommandKinds.f (k : Nat) (a0_0 : Int) (a0_1 : ByteArray) (a0_2 : ByteArray) (a0_3 : Int) (a0_4 : ByteArray) (a0_5 : ByteArray) (a0_6 : Int) (a0_7 : Int) (a0_8 : Int) (a1 : Int) : Option (Bool) := (carillonlaw14_examples.f).bind fun t766 => ((command_Right.f a0_0 a0_1 a0_2 a0_3 a0_4 a0_5 a0_6 a0_7 a0_8).bind fun t768 => (if t768 = true then ((command_Right.f a1 a0_1 a0_2 a0_3 a0_4 a0_5 a0_6 a0_7 a0_8).bind fun t769 => (carillonlaw14_CommandKinds.j0 k a1 t766 (!t769) a0_0 a0_1 a0_2 a0_3 a0_4 a0_5 a0_6 a0_7 a0_8 a1 a0_1 a0_2 a0_3 a0_4 a0_5 a0_6 a0_7 a0_8)) else (carillonlaw14_CommandKinds.j0 k a1 t766 true a0_0 a0_1 a0_2 a0_3 a0_4 a0_5 a0_6 a0_7 a0_8 a1 a0_1 a0_2 a0_3 a0_4 a0_5 a0_6 a0_7 a0_8)))
theorem carillonlaw14_CommandKinds.mono_l : ∀ k, (∀ y0 y1 y2 y3 y4 y5 y6 y7 y8 y9 y10 y11 y12 y13 y14 y15 y16 y17 y18 y19 y20, LeO (carillonlaw14_CommandKinds.j0 k y0 y1 y2 y3 y4 y5 y6 y7 y8 y9 y10 y11 y12 y13 y14 y15 y16 y17 y18 y19 y20) (carillonlaw14_CommandKinds.j0 (k + 1) y0 y1 y2 y3 y4 y5 y6 y7 y8 y9 y10 y11 y12 y13 y14 y15 y16 y17 y18 y19 y20))
 | 0 => fun _ _ _ _ _ _ _ _ _ _ _ _ _ _ _ _ _ _ _ _ _ r h => by simp [carillonlaw14_CommandKinds.j0] at h
 | k + 1 => by
  have ih0 := carillonlaw14_CommandKinds.mono_l k
  ·intro y0 y1 y2 y3 y4 y5 y6 y7 y8 y9 y10 y11 y12 y13 y14 y15 y16 y17 y18 y19 y20
   unfold carillonlaw14_CommandKinds.j0
   repeat' first
   | (with_reducible exact ih0 _ _ _ _ _ _ _ _ _ _ _ _ _ _ _ _ _ _ _ _ _)
   | (with_reducible exact command_Encode.mono _ _ _ _ _ _ _ _ _ _)
   | (with_reducible exact LeO.refl _)
   | (with_reducible exact LeO.none _)
   | (with_reducible refine LeO.ite ?_ ?_)
   | (with_reducible refine LeO.bind ?_ (fun _ => ?_))
   | exact ih0 _ _ _ _ _ _ _ _ _ _ _ _ _ _ _ _ _ _ _ _ _
   | exact command_Encode.mono _ _ _ _ _ _ _ _ _ _
   | exact LeO.none _
   | refine LeO.ite ?_ ?_
   | refine LeO.bind ?_ (fun _ => ?_)
theorem carillonlaw14_CommandKinds.mono : ∀ a0 a1 a2 a3 a4 a5 a6 a7 a8 a9 k, LeO (carillonlaw14_CommandKinds.f k a0 a1 a2 a3 a4 a5 a6 a7 a8 a9) (carillonlaw14_CommandKinds.f (k + 1) a0 a1 a2 a3 a4 a5 a6 a7 a8 a9) := by
 intro a0 a1 a2 a3 a4 a5 a6 a7 a8 a9 k
 have ih0 := carillonlaw14_CommandKinds.mono_l k
 unfold carillonlaw14_CommandKinds.f
 repeat' first
   | (with_reducible exact ih0 _ _ _ _ _ _ _ _ _ _ _ _ _ _ _ _ _ _ _ _ _)
   | (with_reducible exact command_Encode.mono _ _ _ _ _ _ _ _ _ _)
   | (with_reducible exact LeO.refl _)
   | (with_reducible exact LeO.none _)
   | (with_reducible refine LeO.ite ?_ ?_)
   | (with_reducible refine LeO.bind ?_ (fun _ => ?_))
   | exact ih0 _ _ _ _ _ _ _ _ _ _ _ _ _ _ _ _ _ _ _ _ _
   | exact command_Encode.mono _ _ _ _ _ _ _ _ _ _
   | exact LeO.none _
   | refine LeO.ite ?_ ?_
   | refine LeO.bind ?_ (fun _ => ?_)
set_option maxHeartbeats 8000000 in
set_option maxRecDepth 100000 in
theorem carillonlaw14_CommandKinds.calls (k : Nat) (a0_0 : Int) (a0_1 : ByteArray) (a0_2 : ByteArray) (a0_3 : Int) (a0_4 : ByteArray) (a0_5 : ByteArray) (a0_6 : Int) (a0_7 : Int) (a0_8 : Int) (a1 : Int) (r : Bool) (w : World) (hr_ : Aside0 (r = true)) (HT_ : TabOk w) (h : carillonlaw14_CommandKinds.f k a0_0 a0_1 a0_2 a0_3 a0_4 a0_5 a0_6 a0_7 a0_8 a1 = some r) :
  Calls Tryd.prog 10 #[.agg #[.int .i64 a0_0, .string a0_1, .string a0_2, .int .i64 a0_3, .string a0_4, .string a0_5, .int .i64 a0_6, .int .i64 a0_7, .int .i64 a0_8], .int .i64 a1] w fun e w' => e = .returned (.bool r) ∧ Below w.heap.size w w' := by
 have HT := Aside0.mk HT_
 clear HT_
 have hu23 := Tryd.underlying23
 have HB := Aside0.mk (Below.refl w.heap.size w)
 have H : ((carillonlaw14_examples.f).bind fun t766 => ((command_Right.f a0_0 a0_1 a0_2 a0_3 a0_4 a0_5 a0_6 a0_7 a0_8).bind fun t768 => (if t768 = true then ((command_Right.f a1 a0_1 a0_2 a0_3 a0_4 a0_5 a0_6 a0_7 a0_8).bind fun t769 => (carillonlaw14_CommandKinds.j0 k a1 t766 (!t769) a0_0 a0_1 a0_2 a0_3 a0_4 a0_5 a0_6 a0_7 a0_8 a1 a0_1 a0_2 a0_3 a0_4 a0_5 a0_6 a0_7 a0_8)) else (carillonlaw14_CommandKinds.j0 k a1 t766 true a0_0 a0_1 a0_2 a0_3 a0_4 a0_5 a0_6 a0_7 a0_8 a1 a0_1 a0_2 a0_3 a0_4 a0_5 a0_6 a0_7 a0_8)))) = some r := h
 clear h
 replace H := Option.bind_eq_some_iff.mp H
 obtain ⟨t766, A30, H⟩ := H
 replace H : ((command_Right.f a0_0 a0_1 a0_2 a0_3 a0_4 a0_5 a0_6 a0_7 a0_8).bind fun t768 => (if t768 = true then ((command_Right.f a1 a0_1 a0_2 a0_3 a0_4 a0_5 a0_6 a0_7 a0_8).bind fun t769 => (carillonlaw14_CommandKinds.j0 k a1 t766 (!t769) a0_0 a0_1 a0_2 a0_3 a0_4 a0_5 a0_6 a0_7 a0_8 a1 a0_1 a0_2 a0_3 a0_4 a0_5 a0_6 a0_7 a0_8)) else (carillonlaw14_CommandKinds.j0 k a1 t766 true a0_0 a0_1 a0_2 a0_3 a0_4 a0_5 a0_6 a0_7 a0_8 a1 a0_1 a0_2 a0_3 a0_4 a0_5 a0_6 a0_7 a0_8))) = some r := H
 have A3 := Aside0.mk A30
 clear A30
 have HC4 := Aside0.mk H
 clear H
 go_enter Tryd.func10, Tryd.ntmps10
 go_upto_region 4 with (first | ((with_reducible refine gate_dst (N := 2) rfl ?_); (try (refine gate_guard (by rfl) ?_; dsimp only)); refine box_event ?hg (N := 2) ?hd (cs := #[.int .i64 a0_0, .string a0_1, .string a0_2, .int .i64 a0_3, .string a0_4, .string a0_5, .int .i64 a0_6, .int .i64 a0_7, .int .i64 a0_8]) (t := 23) ?hr ?_; (case hd => rfl); (case hg => rfl); (case hr => first | (go_simp; done) | (go_simp; rfl)); intro ae hg w5 hbox hb; have n0_ := Aside0.mk (below_step bw hb); have n1_ := Aside0.mk (hbox); have n2_ := Aside0.mk ((g1 hg bw : w.heap.size ≤ ae)); have n3_ := Aside0.mk ((g1 hg bw : w.heap.size ≤ ae)); clear HB; have HB := n0_; have aa := n1_; have GW765 := n2_; have GE765 := n3_; clear n0_ n1_ n2_ n3_; clear hb hbox hg) | (go_at_call 11; (with_reducible refine (carillonlaw14_examples.calls  t766 _ tbk A3.out).mono ?_); rintro e w6 ⟨rfl, hb⟩; have n0_ := Aside0.mk (nb aa.out hb); have n1_ := Aside0.mk (below_step bw hb); clear aa; clear HB; have aa := n0_; have HB := n1_; clear n0_ n1_; (try clear hb); obtain ⟨hcz7_0, hcz7_1, hcz7_2, hcz7_3, hcz7_4, hcz7_5, hcz7_6, hcz7_7, hcz7_8, hfz7_0, hfz7_1, hfz7_2, hfz7_3, hfz7_4, hfz7_5, hfz7_6, hfz7_7, hfz7_8⟩ := bx9 aa.out) | ((with_reducible refine gate_dst (N := 6) rfl ?_); (try (refine gate_guard (by rfl) ?_; dsimp only)); refine box_event ?hg (N := 6) ?hd (cs := #[.int .i64 0, .string (⟨#[]⟩ : ByteArray), .string (⟨#[]⟩ : ByteArray), .int .i64 0, .string (⟨#[]⟩ : ByteArray), .string (⟨#[]⟩ : ByteArray), .int .i64 0, .int .i64 0, .int .i64 0]) (t := 23) ?hr ?_; (case hd => rfl); (case hg => rfl); (case hr => first | (go_simp; done) | (go_simp; rfl)); intro af hg w8 hbox hb; have n0_ := Aside0.mk (nb aa.out hb); have n1_ := Aside0.mk (below_step bw hb); have n2_ := Aside0.mk (hbox); have n3_ := Aside0.mk ((g1 hg bw : w.heap.size ≤ af)); have n4_ := Aside0.mk ((g1 hg bw : w.heap.size ≤ af)); have n5_ := Aside0.mk ((n1 hg aa.out : ae ≠ af)); have n6_ := Aside0.mk ((n2 hg aa.out : af ≠ ae)); clear aa; clear HB; have aa := n0_; have HB := n1_; have ab := n2_; have GW767 := n3_; have GE767 := n4_; have ac := n5_; have ad := n6_; clear n0_ n1_ n2_ n3_ n4_ n5_ n6_; clear hb hbox hg; have hnb9 := ad.out; have hnc9 := ac.out; obtain ⟨hcz10_0, hcz10_1, hcz10_2, hcz10_3, hcz10_4, hcz10_5, hcz10_6, hcz10_7, hcz10_8, hfz10_0, hfz10_1, hfz10_2, hfz10_3, hfz10_4, hfz10_5, hfz10_6, hfz10_7, hfz10_8⟩ := bx9 ab.out))
 (try simp only [Act.put, sl1, sl2, sl3])
 go_cut [22] (fun v22 wc => ∃ (kq : Nat) (x22_3 : Bool), v22 = .bool x22_3 ∧ Aside0 (carillonlaw14_CommandKinds.j0 kq a1 t766 x22_3 a0_0 a0_1 a0_2 a0_3 a0_4 a0_5 a0_6 a0_7 a0_8 a1 a0_1 a0_2 a0_3 a0_4 a0_5 a0_6 a0_7 a0_8 = some r) ∧ Aside0 (kq ≤ k) ∧ Aside0 (wc.heap[ae]? = some (.cells #[.int .i64 a0_0, .string a0_1, .string a0_2, .int .i64 a0_3, .string a0_4, .string a0_5, .int .i64 a0_6, .int .i64 a0_7, .int .i64 a0_8] 23 (0, 0))) ∧ Aside0 (wc.heap[af]? = some (.cells #[.int .i64 a1, .string a0_1, .string a0_2, .int .i64 a0_3, .string a0_4, .string a0_5, .int .i64 a0_6, .int .i64 a0_7, .int .i64 a0_8] 23 (0, 0))) ∧ Aside0 (Below w.heap.size w wc))
 case first =>
  have H := HC4.out
  clear HC4
  replace H := Option.bind_eq_some_iff.mp H
  obtain ⟨t768, A110, H⟩ := H
  replace H : (if t768 = true then ((command_Right.f a1 a0_1 a0_2 a0_3 a0_4 a0_5 a0_6 a0_7 a0_8).bind fun t769 => (carillonlaw14_CommandKinds.j0 k a1 t766 (!t769) a0_0 a0_1 a0_2 a0_3 a0_4 a0_5 a0_6 a0_7 a0_8 a1 a0_1 a0_2 a0_3 a0_4 a0_5 a0_6 a0_7 a0_8)) else (carillonlaw14_CommandKinds.j0 k a1 t766 true a0_0 a0_1 a0_2 a0_3 a0_4 a0_5 a0_6 a0_7 a0_8 a1 a0_1 a0_2 a0_3 a0_4 a0_5 a0_6 a0_7 a0_8)) = some r := H
  have A11 := Aside0.mk A110
  clear A110
  by_cases c12 : t768 = true; rotate_left
  ·replace c12 := Bool.eq_false_iff.mpr c12
   subst c12
   have H1 : (carillonlaw14_CommandKinds.j0 k a1 t766 true a0_0 a0_1 a0_2 a0_3 a0_4 a0_5 a0_6 a0_7 a0_8 a1 a0_1 a0_2 a0_3 a0_4 a0_5 a0_6 a0_7 a0_8) = some r := by rw [if_neg (show ¬ (false = true) by decide)] at H; exact H
   clear H
   have H := H1
   clear H1
   have H' := Aside0.mk H
   clear H
   have hnb19 := ac.out
   have hnc19 := ad.out
   obtain ⟨hcz20_0, hcz20_1, hcz20_2, hcz20_3, hcz20_4, hcz20_5, hcz20_6, hcz20_7, hcz20_8, hfz20_0, hfz20_1, hfz20_2, hfz20_3, hfz20_4, hfz20_5, hfz20_6, hfz20_7, hfz20_8⟩ := bx9 aa.out
   go_wp2_with (first | (go_at_call 16; (with_reducible refine (command_Right.calls a0_0 a0_1 a0_2 a0_3 a0_4 a0_5 a0_6 a0_7 a0_8 false _ A11.out).mono ?_); rintro e w21 ⟨rfl, hb⟩; have n0_ := Aside0.mk (blk_below (g := ae) (o := .cells #[.int .i64 a0_0, .string a0_1, .string a0_2, .int .i64 a0_3, .string a0_4, .string a0_5, .int .i64 a0_6, .int .i64 a0_7, .int .i64 a0_8] 23 (0, 0)) (by (with_reducible repeat (first | refine blk_drewN ?_ _ | refine blk_drew ?_ | refine blk_alloc ?_ _ | refine blk_far ?_ ac.out _)); exact aa.out) hb); have n1_ := Aside0.mk (blk_below (g := af) (o := .cells #[.int .i64 a1, .string a0_1, .string a0_2, .int .i64 a0_3, .string a0_4, .string a0_5, .int .i64 a0_6, .int .i64 a0_7, .int .i64 a0_8] 23 (0, 0)) (by (with_reducible repeat (first | refine blk_drewN ?_ _ | refine blk_drew ?_ | refine blk_alloc ?_ _)); refine blk_put (cs := #[.int .i64 a0_0, .string a0_1, .string a0_2, .int .i64 a0_3, .string a0_4, .string a0_5, .int .i64 a0_6, .int .i64 a0_7, .int .i64 a0_8]) ?_ 0 _ rfl; (with_reducible repeat (first | refine blk_drewN ?_ _ | refine blk_drew ?_ | refine blk_alloc ?_ _)); refine blk_put (cs := #[.int .i64 a0_0, .string a0_1, .string a0_2, .int .i64 a0_3, .string a0_4, .string a0_5, .int .i64 a0_6, .int .i64 a0_7, .int .i64 0]) ?_ 8 _ rfl; (with_reducible repeat (first | refine blk_drewN ?_ _ | refine blk_drew ?_ | refine blk_alloc ?_ _)); refine blk_put (cs := #[.int .i64 a0_0, .string a0_1, .string a0_2, .int .i64 a0_3, .string a0_4, .string a0_5, .int .i64 a0_6, .int .i64 0, .int .i64 0]) ?_ 7 _ rfl; (with_reducible repeat (first | refine blk_drewN ?_ _ | refine blk_drew ?_ | refine blk_alloc ?_ _)); refine blk_put (cs := #[.int .i64 a0_0, .string a0_1, .string a0_2, .int .i64 a0_3, .string a0_4, .string a0_5, .int .i64 0, .int .i64 0, .int .i64 0]) ?_ 6 _ rfl; (with_reducible repeat (first | refine blk_drewN ?_ _ | refine blk_drew ?_ | refine blk_alloc ?_ _)); refine blk_put (cs := #[.int .i64 a0_0, .string a0_1, .string a0_2, .int .i64 a0_3, .string a0_4, .string (⟨#[]⟩ : ByteArray), .int .i64 0, .int .i64 0, .int .i64 0]) ?_ 5 _ rfl; (with_reducible repeat (first | refine blk_drewN ?_ _ | refine blk_drew ?_ | refine blk_alloc ?_ _)); refine blk_put (cs := #[.int .i64 a0_0, .string a0_1, .string a0_2, .int .i64 a0_3, .string (⟨#[]⟩ : ByteArray), .string (⟨#[]⟩ : ByteArray), .int .i64 0, .int .i64 0, .int .i64 0]) ?_ 4 _ rfl; (with_reducible repeat (first | refine blk_drewN ?_ _ | refine blk_drew ?_ | refine blk_alloc ?_ _)); refine blk_put (cs := #[.int .i64 a0_0, .string a0_1, .string a0_2, .int .i64 0, .string (⟨#[]⟩ : ByteArray), .string (⟨#[]⟩ : ByteArray), .int .i64 0, .int .i64 0, .int .i64 0]) ?_ 3 _ rfl; (with_reducible repeat (first | refine blk_drewN ?_ _ | refine blk_drew ?_ | refine blk_alloc ?_ _)); refine blk_put (cs := #[.int .i64 a0_0, .string a0_1, .string (⟨#[]⟩ : ByteArray), .int .i64 0, .string (⟨#[]⟩ : ByteArray), .string (⟨#[]⟩ : ByteArray), .int .i64 0, .int .i64 0, .int .i64 0]) ?_ 2 _ rfl; (with_reducible repeat (first | refine blk_drewN ?_ _ | refine blk_drew ?_ | refine blk_alloc ?_ _)); refine blk_put (cs := #[.int .i64 a0_0, .string (⟨#[]⟩ : ByteArray), .string (⟨#[]⟩ : ByteArray), .int .i64 0, .string (⟨#[]⟩ : ByteArray), .string (⟨#[]⟩ : ByteArray), .int .i64 0, .int .i64 0, .int .i64 0]) ?_ 1 _ rfl; (with_reducible repeat (first | refine blk_drewN ?_ _ | refine blk_drew ?_ | refine blk_alloc ?_ _)); refine blk_put (cs := #[.int .i64 0, .string (⟨#[]⟩ : ByteArray), .string (⟨#[]⟩ : ByteArray), .int .i64 0, .string (⟨#[]⟩ : ByteArray), .string (⟨#[]⟩ : ByteArray), .int .i64 0, .int .i64 0, .int .i64 0]) ?_ 0 _ rfl; (with_reducible repeat (first | refine blk_drewN ?_ _ | refine blk_drew ?_ | refine blk_alloc ?_ _)); exact ab.out) hb); have n2_ := Aside0.mk (below_step bw hb); clear aa; clear ab; clear HB; have aa := n0_; have ab := n1_; have HB := n2_; clear n0_ n1_ n2_; (try clear hb)))
   go_meet
   case rel => exact ⟨_, (true), (by first | rfl | (simp; done) | (simp [*]; done)), H', ⟨by first | omega | exact Nat.le_refl _⟩, ⟨by (with_reducible repeat (first | refine blk_drewN ?_ _ | refine blk_drew ?_ | refine blk_alloc ?_ _)); exact aa.out⟩, ⟨by (with_reducible repeat (first | refine blk_drewN ?_ _ | refine blk_drew ?_ | refine blk_alloc ?_ _)); exact ab.out⟩, ⟨bw⟩⟩
  subst c12
  have H1 : ((command_Right.f a1 a0_1 a0_2 a0_3 a0_4 a0_5 a0_6 a0_7 a0_8).bind fun t769 => (carillonlaw14_CommandKinds.j0 k a1 t766 (!t769) a0_0 a0_1 a0_2 a0_3 a0_4 a0_5 a0_6 a0_7 a0_8 a1 a0_1 a0_2 a0_3 a0_4 a0_5 a0_6 a0_7 a0_8)) = some r := by rw [if_pos rfl] at H; exact H
  clear H
  have H := H1
  clear H1
  replace H := Option.bind_eq_some_iff.mp H
  obtain ⟨t769, A130, H⟩ := H
  replace H : (carillonlaw14_CommandKinds.j0 k a1 t766 (!t769) a0_0 a0_1 a0_2 a0_3 a0_4 a0_5 a0_6 a0_7 a0_8 a1 a0_1 a0_2 a0_3 a0_4 a0_5 a0_6 a0_7 a0_8) = some r := H
  have A13 := Aside0.mk A130
  clear A130
  have H' := Aside0.mk H
  clear H
  have hnb14 := ac.out
  have hnc14 := ad.out
  obtain ⟨hcz15_0, hcz15_1, hcz15_2, hcz15_3, hcz15_4, hcz15_5, hcz15_6, hcz15_7, hcz15_8, hfz15_0, hfz15_1, hfz15_2, hfz15_3, hfz15_4, hfz15_5, hfz15_6, hfz15_7, hfz15_8⟩ := bx9 aa.out
  go_wp2_with (first | (go_at_call 16; (with_reducible refine (command_Right.calls a0_0 a0_1 a0_2 a0_3 a0_4 a0_5 a0_6 a0_7 a0_8 true _ A11.out).mono ?_); rintro e w16 ⟨rfl, hb⟩; have n0_ := Aside0.mk (blk_below (g := ae) (o := .cells #[.int .i64 a0_0, .string a0_1, .string a0_2, .int .i64 a0_3, .string a0_4, .string a0_5, .int .i64 a0_6, .int .i64 a0_7, .int .i64 a0_8] 23 (0, 0)) (by (with_reducible repeat (first | refine blk_drewN ?_ _ | refine blk_drew ?_ | refine blk_alloc ?_ _ | refine blk_far ?_ ac.out _)); exact aa.out) hb); have n1_ := Aside0.mk (blk_below (g := af) (o := .cells #[.int .i64 a1, .string a0_1, .string a0_2, .int .i64 a0_3, .string a0_4, .string a0_5, .int .i64 a0_6, .int .i64 a0_7, .int .i64 a0_8] 23 (0, 0)) (by (with_reducible repeat (first | refine blk_drewN ?_ _ | refine blk_drew ?_ | refine blk_alloc ?_ _)); refine blk_put (cs := #[.int .i64 a0_0, .string a0_1, .string a0_2, .int .i64 a0_3, .string a0_4, .string a0_5, .int .i64 a0_6, .int .i64 a0_7, .int .i64 a0_8]) ?_ 0 _ rfl; (with_reducible repeat (first | refine blk_drewN ?_ _ | refine blk_drew ?_ | refine blk_alloc ?_ _)); refine blk_put (cs := #[.int .i64 a0_0, .string a0_1, .string a0_2, .int .i64 a0_3, .string a0_4, .string a0_5, .int .i64 a0_6, .int .i64 a0_7, .int .i64 0]) ?_ 8 _ rfl; (with_reducible repeat (first | refine blk_drewN ?_ _ | refine blk_drew ?_ | refine blk_alloc ?_ _)); refine blk_put (cs := #[.int .i64 a0_0, .string a0_1, .string a0_2, .int .i64 a0_3, .string a0_4, .string a0_5, .int .i64 a0_6, .int .i64 0, .int .i64 0]) ?_ 7 _ rfl; (with_reducible repeat (first | refine blk_drewN ?_ _ | refine blk_drew ?_ | refine blk_alloc ?_ _)); refine blk_put (cs := #[.int .i64 a0_0, .string a0_1, .string a0_2, .int .i64 a0_3, .string a0_4, .string a0_5, .int .i64 0, .int .i64 0, .int .i64 0]) ?_ 6 _ rfl; (with_reducible repeat (first | refine blk_drewN ?_ _ | refine blk_drew ?_ | refine blk_alloc ?_ _)); refine blk_put (cs := #[.int .i64 a0_0, .string a0_1, .string a0_2, .int .i64 a0_3, .string a0_4, .string (⟨#[]⟩ : ByteArray), .int .i64 0, .int .i64 0, .int .i64 0]) ?_ 5 _ rfl; (with_reducible repeat (first | refine blk_drewN ?_ _ | refine blk_drew ?_ | refine blk_alloc ?_ _)); refine blk_put (cs := #[.int .i64 a0_0, .string a0_1, .string a0_2, .int .i64 a0_3, .string (⟨#[]⟩ : ByteArray), .string (⟨#[]⟩ : ByteArray), .int .i64 0, .int .i64 0, .int .i64 0]) ?_ 4 _ rfl; (with_reducible repeat (first | refine blk_drewN ?_ _ | refine blk_drew ?_ | refine blk_alloc ?_ _)); refine blk_put (cs := #[.int .i64 a0_0, .string a0_1, .string a0_2, .int .i64 0, .string (⟨#[]⟩ : ByteArray), .string (⟨#[]⟩ : ByteArray), .int .i64 0, .int .i64 0, .int .i64 0]) ?_ 3 _ rfl; (with_reducible repeat (first | refine blk_drewN ?_ _ | refine blk_drew ?_ | refine blk_alloc ?_ _)); refine blk_put (cs := #[.int .i64 a0_0, .string a0_1, .string (⟨#[]⟩ : ByteArray), .int .i64 0, .string (⟨#[]⟩ : ByteArray), .string (⟨#[]⟩ : ByteArray), .int .i64 0, .int .i64 0, .int .i64 0]) ?_ 2 _ rfl; (with_reducible repeat (first | refine blk_drewN ?_ _ | refine blk_drew ?_ | refine blk_alloc ?_ _)); refine blk_put (cs := #[.int .i64 a0_0, .string (⟨#[]⟩ : ByteArray), .string (⟨#[]⟩ : ByteArray), .int .i64 0, .string (⟨#[]⟩ : ByteArray), .string (⟨#[]⟩ : ByteArray), .int .i64 0, .int .i64 0, .int .i64 0]) ?_ 1 _ rfl; (with_reducible repeat (first | refine blk_drewN ?_ _ | refine blk_drew ?_ | refine blk_alloc ?_ _)); refine blk_put (cs := #[.int .i64 0, .string (⟨#[]⟩ : ByteArray), .string (⟨#[]⟩ : ByteArray), .int .i64 0, .string (⟨#[]⟩ : ByteArray), .string (⟨#[]⟩ : ByteArray), .int .i64 0, .int .i64 0, .int .i64 0]) ?_ 0 _ rfl; (with_reducible repeat (first | refine blk_drewN ?_ _ | refine blk_drew ?_ | refine blk_alloc ?_ _)); exact ab.out) hb); have n2_ := Aside0.mk (below_step bw hb); clear aa; clear ab; clear HB; have aa := n0_; have ab := n1_; have HB := n2_; clear n0_ n1_ n2_; (try clear hb); obtain ⟨hcz17_0, hcz17_1, hcz17_2, hcz17_3, hcz17_4, hcz17_5, hcz17_6, hcz17_7, hcz17_8, hfz17_0, hfz17_1, hfz17_2, hfz17_3, hfz17_4, hfz17_5, hfz17_6, hfz17_7, hfz17_8⟩ := bx9 ab.out) | (go_at_call 16; (with_reducible refine (command_Right.calls a1 a0_1 a0_2 a0_3 a0_4 a0_5 a0_6 a0_7 a0_8 t769 _ A13.out).mono ?_); rintro e w18 ⟨rfl, hb⟩; have n0_ := Aside0.mk (nb aa.out hb); have n1_ := Aside0.mk (nb ab.out hb); have n2_ := Aside0.mk (below_step bw hb); clear aa; clear ab; clear HB; have aa := n0_; have ab := n1_; have HB := n2_; clear n0_ n1_ n2_; (try clear hb)))
  go_meet
  case rel => exact ⟨_, (!t769), (by first | rfl | (simp; done) | (simp [*]; done)), H', ⟨by first | omega | exact Nat.le_refl _⟩, ⟨by (with_reducible repeat (first | refine blk_drewN ?_ _ | refine blk_drew ?_ | refine blk_alloc ?_ _)); exact aa.out⟩, ⟨by (with_reducible repeat (first | refine blk_drewN ?_ _ | refine blk_drew ?_ | refine blk_alloc ?_ _)); exact ab.out⟩, ⟨bw⟩⟩
 case rest =>
  clear HC4
  try clear c1
  try clear p2
  try clear c9
  try clear c10
  try clear c12
  try clear c14
  try clear c19
  try clear hcz10_0 hcz10_1 hcz10_2 hcz10_3 hcz10_4 hcz10_5 hcz10_6 hcz10_7 hcz10_8 hcz15_0 hcz15_1 hcz15_2 hcz15_3 hcz15_4 hcz15_5 hcz15_6 hcz15_7 hcz15_8 hcz17_0 hcz17_1 hcz17_2 hcz17_3 hcz17_4 hcz17_5 hcz17_6 hcz17_7 hcz17_8 hcz20_0 hcz20_1 hcz20_2 hcz20_3 hcz20_4 hcz20_5 hcz20_6 hcz20_7 hcz20_8 hcz7_0 hcz7_1 hcz7_2 hcz7_3 hcz7_4 hcz7_5 hcz7_6 hcz7_7 hcz7_8
  try clear hfz10_0 hfz10_1 hfz10_2 hfz10_3 hfz10_4 hfz10_5 hfz10_6 hfz10_7 hfz10_8 hfz15_0 hfz15_1 hfz15_2 hfz15_3 hfz15_4 hfz15_5 hfz15_6 hfz15_7 hfz15_8 hfz17_0 hfz17_1 hfz17_2 hfz17_3 hfz17_4 hfz17_5 hfz17_6 hfz17_7 hfz17_8 hfz20_0 hfz20_1 hfz20_2 hfz20_3 hfz20_4 hfz20_5 hfz20_6 hfz20_7 hfz20_8 hfz7_0 hfz7_1 hfz7_2 hfz7_3 hfz7_4 hfz7_5 hfz7_6 hfz7_7 hfz7_8
  obtain ⟨kq, x22_3, rfl, HA, HJ3, aa, ab, HB⟩ := hcut
  cases kq with
  | zero => exact absurd HA.out (by simp [carillonlaw14_CommandKinds.j0])
  | succ kj3 =>
   have H := HA.out
   clear HA
   simp only [carillonlaw14_CommandKinds.j0] at H
   by_cases c22 : x22_3 = true
   ·subst c22
    have H1 : (some t766) = some r := by rw [if_pos rfl] at H; exact H
    clear H
    have H := H1
    clear H1
    obtain rfl := Option.some.inj H
    go_wp2
    go_ret
    exact ⟨er, bw⟩
   replace c22 := Bool.eq_false_iff.mpr c22
   subst c22
   have H1 : ((command_Encode.f kj3 a0_0 a0_1 a0_2 a0_3 a0_4 a0_5 a0_6 a0_7 a0_8).bind fun bt770 => ((command_Encode.f kj3 a1 a0_1 a0_2 a0_3 a0_4 a0_5 a0_6 a0_7 a0_8).bind fun bt772 => (if t766 = true then (if bt770.2 = 0 then (if bt772.2 = 0 then (if (bt770.1.size : Int) = (bt772.1.size : Int) then (if ((bt770.1.toList == bt772.1.toList) == (a0_0 == a1)) = true then (if 1 ≤ (bt770.1.size : Int) then (if 1 ≤ (bt772.1.size : Int) then (some ((bt770.1.extract 1 bt770.1.size).toList == (bt772.1.extract 1 bt772.1.size).toList)) else (none)) else (none)) else (some false)) else (some false)) else (some false)) else (some false)) else (some false)))) = some r := by rw [if_neg (show ¬ (false = true) by decide)] at H; exact H
   clear H
   have H := H1
   clear H1
   replace H := Option.bind_eq_some_iff.mp H
   obtain ⟨⟨t770, t771⟩, A230, H⟩ := H
   replace H : ((command_Encode.f kj3 a1 a0_1 a0_2 a0_3 a0_4 a0_5 a0_6 a0_7 a0_8).bind fun bt772 => (if t766 = true then (if t771 = 0 then (if bt772.2 = 0 then (if (t770.size : Int) = (bt772.1.size : Int) then (if ((t770.toList == bt772.1.toList) == (a0_0 == a1)) = true then (if 1 ≤ (t770.size : Int) then (if 1 ≤ (bt772.1.size : Int) then (some ((t770.extract 1 t770.size).toList == (bt772.1.extract 1 bt772.1.size).toList)) else (none)) else (none)) else (some false)) else (some false)) else (some false)) else (some false)) else (some false))) = some r := H
   have A23 := Aside0.mk A230
   clear A230
   replace H := Option.bind_eq_some_iff.mp H
   obtain ⟨⟨t772, t773⟩, A240, H⟩ := H
   replace H : (if t766 = true then (if t771 = 0 then (if t773 = 0 then (if (t770.size : Int) = (t772.size : Int) then (if ((t770.toList == t772.toList) == (a0_0 == a1)) = true then (if 1 ≤ (t770.size : Int) then (if 1 ≤ (t772.size : Int) then (some ((t770.extract 1 t770.size).toList == (t772.extract 1 t772.size).toList)) else (none)) else (none)) else (some false)) else (some false)) else (some false)) else (some false)) else (some false)) = some r := H
   have A24 := Aside0.mk A240
   clear A240
   by_cases c25 : t766 = true; rotate_left
   ·replace c25 := Bool.eq_false_iff.mpr c25
    subst c25
    have H1 : (some false) = some r := by rw [if_neg (show ¬ (false = true) by decide)] at H; exact H
    clear H
    have H := H1
    clear H1
    exact absurd ((Option.some.inj H).trans hr_.out) (by decide)
   subst c25
   have H1 : (if t771 = 0 then (if t773 = 0 then (if (t770.size : Int) = (t772.size : Int) then (if ((t770.toList == t772.toList) == (a0_0 == a1)) = true then (if 1 ≤ (t770.size : Int) then (if 1 ≤ (t772.size : Int) then (some ((t770.extract 1 t770.size).toList == (t772.extract 1 t772.size).toList)) else (none)) else (none)) else (some false)) else (some false)) else (some false)) else (some false)) = some r := by rw [if_pos rfl] at H; exact H
   clear H
   have H := H1
   clear H1
   by_cases c26 : t771 = 0; rotate_left
   ·rw [if_neg c26] at H
    have c26b0 : (t771 == 0) = false := beq_eq_false_iff_ne.mpr c26
    have c26b1 : (t771 != 0) = true := bne_iff_ne.mpr c26
    exact absurd ((Option.some.inj H).trans hr_.out) (by decide)
   rw [if_pos c26] at H
   have c26b0 : (t771 == 0) = true := beq_iff_eq.mpr c26
   have c26b1 : (t771 != 0) = false := bne_eq_false_iff_eq.mpr c26
   clear c26
   by_cases c27 : t773 = 0; rotate_left
   ·rw [if_neg c27] at H
    have c27b0 : (t773 == 0) = false := beq_eq_false_iff_ne.mpr c27
    have c27b1 : (t773 != 0) = true := bne_iff_ne.mpr c27
    exact absurd ((Option.some.inj H).trans hr_.out) (by decide)
   rw [if_pos c27] at H
   have c27b0 : (t773 == 0) = true := beq_iff_eq.mpr c27
   have c27b1 : (t773 != 0) = false := bne_eq_false_iff_eq.mpr c27
   clear c27
   by_cases c28 : (t770.size : Int) = (t772.size : Int); rotate_left
   ·rw [if_neg c28] at H
    have c28b0 : ((t770.size : Int) == (t772.size : Int)) = false := beq_eq_false_iff_ne.mpr c28
    have c28b1 : ((t770.size : Int) != (t772.size : Int)) = true := bne_iff_ne.mpr c28
    have c28b2 : (t770.size == t772.size) = false := by first | simpa using c28 | (simp at c28 ⊢; omega)
    exact absurd ((Option.some.inj H).trans hr_.out) (by decide)
   rw [if_pos c28] at H
   have c28b0 : ((t770.size : Int) == (t772.size : Int)) = true := beq_iff_eq.mpr c28
   have c28b1 : ((t770.size : Int) != (t772.size : Int)) = false := bne_eq_false_iff_eq.mpr c28
   have c28b2 : (t770.size == t772.size) = true := by first | simpa using c28 | (simp at c28 ⊢; omega)
   clear c28
   by_cases c29 : ((t770.toList == t772.toList) == (a0_0 == a1)) = true; rotate_left
   ·rw [if_neg c29] at H
    have c29b0 : ((t770.toList == t772.toList) == (a0_0 == a1)) = false := by simpa using c29
    (try (have c29b1 : decide ((t770.toList == t772.toList) = (a0_0 == a1)) = false := by simpa using c29))
    (try (have c29b2 : ((t770.toList == t772.toList) == (a0_0 == a1)) = false := by simpa using c29))
    (try (have c29b3 : ¬ ((t770.toList == t772.toList) = (a0_0 == a1)) := by simpa using c29))
    clear c29
    exact absurd ((Option.some.inj H).trans hr_.out) (by decide)
   rw [if_pos c29] at H
   have c29b0 : ((t770.toList == t772.toList) == (a0_0 == a1)) = true := c29
   (try (have c29b1 : decide ((t770.toList == t772.toList) = (a0_0 == a1)) = true := by simpa using c29))
   (try (have c29b2 : ((t770.toList == t772.toList) == (a0_0 == a1)) = true := by simpa using c29))
   clear c29
   by_cases c30 : 1 ≤ (t770.size : Int); rotate_left
   ·rw [if_neg c30] at H
    exact absurd H (by simp)
   rw [if_pos c30] at H
   have c30b0 := eq_true c30
   have c30b1 : decide (1 ≤ (t770.size : Int)) = true := decide_eq_true c30
   clear c30
   by_cases c31 : 1 ≤ (t772.size : Int); rotate_left
   ·rw [if_neg c31] at H
    exact absurd H (by simp)
   rw [if_pos c31] at H
   have c31b0 := eq_true c31
   have c31b1 : decide (1 ≤ (t772.size : Int)) = true := decide_eq_true c31
   clear c31
   obtain rfl := Option.some.inj H
   have hnb32 := ac.out
   have hnc32 := ad.out
   obtain ⟨hcz33_0, hcz33_1, hcz33_2, hcz33_3, hcz33_4, hcz33_5, hcz33_6, hcz33_7, hcz33_8, hfz33_0, hfz33_1, hfz33_2, hfz33_3, hfz33_4, hfz33_5, hfz33_6, hfz33_7, hfz33_8⟩ := bx9 aa.out
   go_wp2_with (first | (go_at_call 12; (with_reducible refine (command_Encode.calls kj3 a0_0 a0_1 a0_2 a0_3 a0_4 a0_5 a0_6 a0_7 a0_8 t770 t771 _ tbk A23.out).mono ?_); rintro e w34 ⟨rfl, hb⟩; have n0_ := Aside0.mk (nb aa.out hb); have n1_ := Aside0.mk (nb ab.out hb); have n2_ := Aside0.mk (below_step bw hb); clear aa; clear ab; clear HB; have aa := n0_; have ab := n1_; have HB := n2_; clear n0_ n1_ n2_; (try clear hb); obtain ⟨ag, ah, ai, aj, ak, al, an, ao, ap, aq, ar, au, av, aw, ax, ay, az, ba⟩ := bx9 ab.out) | (go_at_call 12; (with_reducible refine (command_Encode.calls kj3 a1 a0_1 a0_2 a0_3 a0_4 a0_5 a0_6 a0_7 a0_8 t772 t773 _ tbk A24.out).mono ?_); rintro e w36 ⟨rfl, hb⟩; have n0_ := Aside0.mk (nb aa.out hb); have n1_ := Aside0.mk (nb ab.out hb); have n2_ := Aside0.mk (below_step bw hb); clear aa; clear ab; clear HB; have aa := n0_; have ab := n1_; have HB := n2_; clear n0_ n1_ n2_; (try clear hb); obtain ⟨bb, bc, bd, be, bf, bg, bh, bi, bj, bl, bm, bn, bo, bp, bq, br, bs, bu⟩ := bx9 aa.out))
   repeat (go_quiet (first | (go_at_call 12; (with_reducible refine (command_Encode.calls kj3 a0_0 a0_1 a0_2 a0_3 a0_4 a0_5 a0_6 a0_7 a0_8 t770 t771 _ tbk A23.out).mono ?_); rintro e w34 ⟨rfl, hb⟩; have n0_ := Aside0.mk (nb aa.out hb); have n1_ := Aside0.mk (nb ab.out hb); have n2_ := Aside0.mk (below_step bw hb); clear aa; clear ab; clear HB; have aa := n0_; have ab := n1_; have HB := n2_; clear n0_ n1_ n2_; (try clear hb); obtain ⟨ag, ah, ai, aj, ak, al, an, ao, ap, aq, ar, au, av, aw, ax, ay, az, ba⟩ := bx9 ab.out) | (go_at_call 12; (with_reducible refine (command_Encode.calls kj3 a1 a0_1 a0_2 a0_3 a0_4 a0_5 a0_6 a0_7 a0_8 t772 t773 _ tbk A24.out).mono ?_); rintro e w36 ⟨rfl, hb⟩; have n0_ := Aside0.mk (nb aa.out hb); have n1_ := Aside0.mk (nb ab.out hb); have n2_ := Aside0.mk (below_step bw hb); clear aa; clear ab; clear HB; have aa := n0_; have ab := n1_; have HB := n2_; clear n0_ n1_ n2_; (try clear hb); obtain ⟨bb, bc, bd, be, bf, bg, bh, bi, bj, bl, bm, bn, bo, bp, bq, br, bs, bu⟩ := bx9 aa.out)); try go_wp2_with (first | (go_at_call 12; (with_reducible refine (command_Encode.calls kj3 a0_0 a0_1 a0_2 a0_3 a0_4 a0_5 a0_6 a0_7 a0_8 t770 t771 _ tbk A23.out).mono ?_); rintro e w34 ⟨rfl, hb⟩; have n0_ := Aside0.mk (nb aa.out hb); have n1_ := Aside0.mk (nb ab.out hb); have n2_ := Aside0.mk (below_step bw hb); clear aa; clear ab; clear HB; have aa := n0_; have ab := n1_; have HB := n2_; clear n0_ n1_ n2_; (try clear hb); obtain ⟨ag, ah, ai, aj, ak, al, an, ao, ap, aq, ar, au, av, aw, ax, ay, az, ba⟩ := bx9 ab.out) | (go_at_call 12; (with_reducible refine (command_Encode.calls kj3 a1 a0_1 a0_2 a0_3 a0_4 a0_5 a0_6 a0_7 a0_8 t772 t773 _ tbk A24.out).mono ?_); rintro e w36 ⟨rfl, hb⟩; have n0_ := Aside0.mk (nb aa.out hb); have n1_ := Aside0.mk (nb ab.out hb); have n2_ := Aside0.mk (below_step bw hb); clear aa; clear ab; clear HB; have aa := n0_; have ab := n1_; have HB := n2_; clear n0_ n1_ n2_; (try clear hb); obtain ⟨bb, bc, bd, be, bf, bg, bh, bi, bj, bl, bm, bn, bo, bp, bq, br, bs, bu⟩ := bx9 aa.out)))
   go_ret
   exact ⟨er, bw⟩

end Go.Proofs.YtpgiagdpepkooaaDoor.P
