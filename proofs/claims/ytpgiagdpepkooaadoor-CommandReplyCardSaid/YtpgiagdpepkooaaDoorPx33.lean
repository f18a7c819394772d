-- Printed by this session's program wip/xp.py (a turned copy of the kit's printer): functions, their contracts.
import Derived.Test.YtpgiagdpepkooaaDoorPx0
import Derived.Test.YtpgiagdpepkooaaDoorPx11
import Derived.Test.YtpgiagdpepkooaaDoorPx12
import Derived.Test.YtpgiagdpepkooaaDoorPx28
import Derived.Test.YtpgiagdpepkooaaDoorPx32
namespace Go.Proofs.YtpgiagdpepkooaaDoor.P
open Go.RowKit Go.Proofs.YtpgiagdpepkooaaDoorW.PrintWords Go.Proofs.YtpgiagdpepkooaaDoorW.PrintLast Go.Proofs.YtpgiagdpepkooaaDoorW.PrintMore
attribute [local go_sem] max2_int min2_int max_two min_two max_three min_three max_four min_four   -- for this text's walks alone
set_option linter.unusedVariables false
set_option linter.unusedSimpArgs false

/-! ### carillonlaw14_CommandReply: function 7 -/
def carillonlaw14_CommandReply.j0 : Nat → ByteArray → Bool → Option (Bool)
 | 0, _, _ => none
 | k + 1, x2, x7 => (command_Answered.f k x2).bind fun bt736 => (if bt736.2.2.2.2 = 0 then ((command_Answer.f k bt736.1 bt736.2.1 bt736.2.2.1 bt736.2.2.2.1).bind fun bt744 => (if x7 = true then (if bt744.1.toList = x2.toList then (some (bt744.2 == 0)) else (some false)) else (some false))) else (if x7 = true then (if bt736.1 = 0 then (some ((bt736.2.2.2.1.length : Int) == 0)) else (some false)) else (some false)))
def carillonlaw14_CommandReply.f (k : Nat) (a0 : Int) (a1_0 : Int) (a1_1 : Int) (l1_2 : List (S48)) (a2 : ByteArray) : Option (Bool) := (carillonlaw14_examples.f).bind fun t724 => ((command_Answer.f k a0 a1_0 a1_1 l1_2).bind fun bt725 => (if bt725.2 = 0 then ((command_Answered.f k bt725.1).bind fun bt727 => ((carillonlaw14_replies.f k bt727.2.1 bt727.2.2.1 bt727.2.2.2.1 a1_0 a1_1 l1_2).bind fun t735 => (if bt727.1 = a0 then (if t735 = true then (if bt727.2.2.2.2 = 0 then (carillonlaw14_CommandReply.j0 k a2 t724) else (some false)) else (some false)) else (some false)))) else (carillonlaw14_CommandReply.j0 k a2 t724)))
theorem carillonlaw14_CommandReply.mono_l : ∀ k, (∀ y0 y1, LeO (carillonlaw14_CommandReply.j0 k y0 y1) (carillonlaw14_CommandReply.j0 (k + 1) y0 y1))
 | 0 => fun _ _ r h => by simp [carillonlaw14_CommandReply.j0] at h
 | k + 1 => by
  have ih0 := carillonlaw14_CommandReply.mono_l k
  ·intro y0 y1
   unfold carillonlaw14_CommandReply.j0
   repeat' first
   | (with_reducible exact ih0 _ _)
   | (with_reducible exact carillonlaw14_replies.mono _ _ _ _ _ _ _)
   | (with_reducible exact command_Answer.mono _ _ _ _ _)
   | (with_reducible exact command_Answered.mono _ _)
   | (with_reducible exact LeO.refl _)
   | (with_reducible exact LeO.none _)
   | (with_reducible refine LeO.ite ?_ ?_)
   | (with_reducible refine LeO.bind ?_ (fun _ => ?_))
   | exact ih0 _ _
   | exact carillonlaw14_replies.mono _ _ _ _ _ _ _
   | exact command_Answer.mono _ _ _ _ _
   | exact command_Answered.mono _ _
   | exact LeO.none _
   | refine LeO.ite ?_ ?_
   | refine LeO.bind ?_ (fun _ => ?_)
theorem carillonlaw14_CommandReply.mono : ∀ a0 a1 a2 a3 a4 k, LeO (carillonlaw14_CommandReply.f k a0 a1 a2 a3 a4) (carillonlaw14_CommandReply.f (k + 1) a0 a1 a2 a3 a4) := by
 intro a0 a1 a2 a3 a4 k
 have ih0 := carillonlaw14_CommandReply.mono_l k
 unfold carillonlaw14_CommandReply.f
 repeat' first
   | (with_reducible exact ih0 _ _)
   | (with_reducible exact carillonlaw14_replies.mono _ _ _ _ _ _ _)
   | (with_reducible exact command_Answer.mono _ _ _ _ _)
   | (with_reducible exact command_Answered.mono _ _)
   | (with_reducible exact LeO.refl _)
   | (with_reducible exact LeO.none _)
   | (with_reducible refine LeO.ite ?_ ?_)
   | (with_reducible refine LeO.bind ?_ (fun _ => ?_))
   | exact ih0 _ _
   | exact carillonlaw14_replies.mono _ _ _ _ _ _ _
   | exact command_Answer.mono _ _ _ _ _
   | exact command_Answered.mono _ _
   | exact LeO.none _
   | refine LeO.ite ?_ ?_
   | refine LeO.bind ?_ (fun _ => ?_)
set_option maxHeartbeats 8000000 in
set_option maxRecDepth 100000 in
theorem carillonlaw14_CommandReply.calls (k : Nat) (a0 : Int) (a1_0 : Int) (a1_1 : Int) (A1_2 : Option Addr) (c1_2 : Nat) (l1_2 : List (S48)) (a2 : ByteArray) (r : Bool) (w : World) (hr1_2 : Kd.C k48 w A1_2 l1_2.length l1_2) (hc1_2 : l1_2.length ≤ c1_2) (hr_ : Aside0 (r = true)) (HT_ : TabOk w) (h : carillonlaw14_CommandReply.f k a0 a1_0 a1_1 l1_2 a2 = some r) :
  Calls Tryd.prog 7 #[.int .i64 a0, .agg #[.int .i64 a1_0, .int .i64 a1_1, .slice A1_2 l1_2.length c1_2], .string a2] w fun e w' => e = .returned (.bool r) ∧ Below w.heap.size w w' := by
 have HT := Aside0.mk HT_
 clear HT_
 have hu39 := Tryd.underlying39
 have HR1_2 := Aside0.mk hr1_2
 have HC1_2 := Aside0.mk hc1_2
 clear hr1_2 hc1_2
 have HB := Aside0.mk (Below.refl w.heap.size w)
 have H : ((carillonlaw14_examples.f).bind fun t724 => ((command_Answer.f k a0 a1_0 a1_1 l1_2).bind fun bt725 => (if bt725.2 = 0 then ((command_Answered.f k bt725.1).bind fun bt727 => ((carillonlaw14_replies.f k bt727.2.1 bt727.2.2.1 bt727.2.2.2.1 a1_0 a1_1 l1_2).bind fun t735 => (if bt727.1 = a0 then (if t735 = true then (if bt727.2.2.2.2 = 0 then (carillonlaw14_CommandReply.j0 k a2 t724) else (some false)) else (some false)) else (some false)))) else (carillonlaw14_CommandReply.j0 k a2 t724)))) = some r := h
 clear h
 replace H := Option.bind_eq_some_iff.mp H
 obtain ⟨t724, A40, H⟩ := H
 replace H : ((command_Answer.f k a0 a1_0 a1_1 l1_2).bind fun bt725 => (if bt725.2 = 0 then ((command_Answered.f k bt725.1).bind fun bt727 => ((carillonlaw14_replies.f k bt727.2.1 bt727.2.2.1 bt727.2.2.2.1 a1_0 a1_1 l1_2).bind fun t735 => (if bt727.1 = a0 then (if t735 = true then (if bt727.2.2.2.2 = 0 then (carillonlaw14_CommandReply.j0 k a2 t724) else (some false)) else (some false)) else (some false)))) else (carillonlaw14_CommandReply.j0 k a2 t724))) = some r := H
 have A4 := Aside0.mk A40
 clear A40
 replace H := Option.bind_eq_some_iff.mp H
 obtain ⟨⟨t725, t726⟩, A50, H⟩ := H
 replace H : (if t726 = 0 then ((command_Answered.f k t725).bind fun bt727 => ((carillonlaw14_replies.f k bt727.2.1 bt727.2.2.1 bt727.2.2.2.1 a1_0 a1_1 l1_2).bind fun t735 => (if bt727.1 = a0 then (if t735 = true then (if bt727.2.2.2.2 = 0 then (carillonlaw14_CommandReply.j0 k a2 t724) else (some false)) else (some false)) else (some false)))) else (carillonlaw14_CommandReply.j0 k a2 t724)) = some r := H
 have A5 := Aside0.mk A50
 clear A50
 have HC6 := Aside0.mk H
 clear H
 go_enter Tryd.func7, Tryd.ntmps7
 go_upto_if 27 with (first | ((with_reducible refine gate_dst (N := 4) rfl ?_); (try (refine gate_guard (by rfl) ?_; dsimp only)); refine box_event ?hg (N := 4) ?hd (cs := #[.int .i64 a1_0, .int .i64 a1_1, .slice A1_2 l1_2.length c1_2]) (t := 39) ?hr ?_; (case hd => rfl); (case hg => rfl); (case hr => first | (go_simp; done) | (go_simp; rfl)); intro ad hg w7 hbox hb; have n0_ := Aside0.mk (below_step bw hb); have n1_ := Aside0.mk (hbox); have n2_ := Aside0.mk ((g1 hg bw : w.heap.size ≤ ad)); have n3_ := Aside0.mk ((g1 hg bw : w.heap.size ≤ ad)); clear HB; have HB := n0_; have aa := n1_; have GW723 := n2_; have GE723 := n3_; clear n0_ n1_ n2_ n3_; clear hb hbox hg) | ((with_reducible refine gate_callee (f := 11) rfl ?_); refine goesL_ (some 19) rfl rfl Tryd.func11 (by kernel_rfl) rfl #[] rfl am ?_; (with_reducible refine (carillonlaw14_examples.calls  t724 _ tbk A4.out).mono ?_); rintro e w8 ⟨rfl, hb⟩; refine ⟨_, rfl, ?_⟩; have n0_ := Aside0.mk (nb aa.out hb); have n1_ := Aside0.mk (below_step bw hb); clear aa; clear HB; have aa := n0_; have HB := n1_; clear n0_ n1_; (try clear hb); obtain ⟨hcz9_0, hcz9_1, hcz9_2, hfz9_0, hfz9_1, hfz9_2⟩ := bx3 aa.out) | ((with_reducible refine gate_callee (f := 24) rfl ?_); refine goesL_ (some 23) rfl rfl Tryd.func24 (by kernel_rfl) rfl #[.int .i64 a0, .agg #[.int .i64 a1_0, .int .i64 a1_1, .slice A1_2 l1_2.length c1_2]] rfl am ?_; (with_reducible refine (command_Answer.calls k a0 a1_0 a1_1 _ _ l1_2 t725 t726 _ ?side1 ?side2 tbk A5.out).mono ?_); (case side1 => repeat (first | exact (Kd.C_below HR1_2.out HB.out) | (with_reducible refine Kd.C_alloc ?_ _) | (with_reducible refine Kd.C_drewN ?_ _) | (with_reducible refine Kd.C_drew ?_))); (case side2 => exact HC1_2.out); rintro e w10 ⟨rfl, hb⟩; refine ⟨_, rfl, ?_⟩; have n0_ := Aside0.mk (nb aa.out hb); have n1_ := Aside0.mk (below_step bw hb); clear aa; clear HB; have aa := n0_; have HB := n1_; clear n0_ n1_; (try clear hb)))
 (try simp only [Act.put, sl1, sl2, sl3])
 go_cut [] (fun wc => ∃ (kq : Nat), Aside0 (carillonlaw14_CommandReply.j0 kq a2 t724 = some r) ∧ Aside0 (kq ≤ k) ∧ Aside0 (wc.heap[ad]? = some (.cells #[.int .i64 a1_0, .int .i64 a1_1, (.slice A1_2 l1_2.length c1_2)] 39 (0, 0))) ∧ Aside0 (Below w.heap.size w wc))
 case first =>
  have H := HC6.out
  clear HC6
  by_cases c11 : t726 = 0; rotate_left
  ·rw [if_neg c11] at H
   have aj : (t726 == 0) = false := beq_eq_false_iff_ne.mpr c11
   have ar : (t726 != 0) = true := bne_iff_ne.mpr c11
   (first | rw [aj] | (simp only [i64_w, i32_w]; rw [aj]) | skip)
   have H' := Aside0.mk H
   clear H
   go_wp2
   go_meet
   case rel => exact ⟨_, H', ⟨by first | omega | exact Nat.le_refl _⟩, ⟨by (with_reducible repeat (first | refine blk_drewN ?_ _ | refine blk_drew ?_ | refine blk_alloc ?_ _)); exact aa.out⟩, ⟨bw⟩⟩
  rw [if_pos c11] at H
  have aj : (t726 == 0) = true := beq_iff_eq.mpr c11
  have ar : (t726 != 0) = false := bne_eq_false_iff_eq.mpr c11
  clear c11
  (first | rw [aj] | (simp only [i64_w, i32_w]; rw [aj]) | skip)
  replace H := Option.bind_eq_some_iff.mp H
  obtain ⟨⟨t727, t728, t729, t730, t733⟩, A120, H⟩ := H
  replace H : ((carillonlaw14_replies.f k t728 t729 t730 a1_0 a1_1 l1_2).bind fun t735 => (if t727 = a0 then (if t735 = true then (if t733 = 0 then (carillonlaw14_CommandReply.j0 k a2 t724) else (some false)) else (some false)) else (some false))) = some r := H
  have A12 := Aside0.mk A120
  clear A120
  replace H := Option.bind_eq_some_iff.mp H
  obtain ⟨t735, A130, H⟩ := H
  replace H : (if t727 = a0 then (if t735 = true then (if t733 = 0 then (carillonlaw14_CommandReply.j0 k a2 t724) else (some false)) else (some false)) else (some false)) = some r := H
  have A13 := Aside0.mk A130
  clear A130
  by_cases c14 : t727 = a0; rotate_left
  ·rw [if_neg c14] at H
   have au : (t727 == a0) = false := beq_eq_false_iff_ne.mpr c14
   have av : (t727 != a0) = true := bne_iff_ne.mpr c14
   exact absurd ((Option.some.inj H).trans hr_.out) (by decide)
  rw [if_pos c14] at H
  have au : (t727 == a0) = true := beq_iff_eq.mpr c14
  have av : (t727 != a0) = false := bne_eq_false_iff_eq.mpr c14
  clear c14
  by_cases c15 : t735 = true; rotate_left
  ·replace c15 := Bool.eq_false_iff.mpr c15
   subst c15
   have H1 : (some false) = some r := by rw [if_neg (show ¬ (false = true) by decide)] at H; exact H
   clear H
   have H := H1
   clear H1
   exact absurd ((Option.some.inj H).trans hr_.out) (by decide)
  subst c15
  have H1 : (if t733 = 0 then (carillonlaw14_CommandReply.j0 k a2 t724) else (some false)) = some r := by rw [if_pos rfl] at H; exact H
  clear H
  have H := H1
  clear H1
  by_cases c16 : t733 = 0; rotate_left
  ·rw [if_neg c16] at H
   have aw : (t733 == 0) = false := beq_eq_false_iff_ne.mpr c16
   have ax : (t733 != 0) = true := bne_iff_ne.mpr c16
   exact absurd ((Option.some.inj H).trans hr_.out) (by decide)
  rw [if_pos c16] at H
  have aw : (t733 == 0) = true := beq_iff_eq.mpr c16
  have ax : (t733 != 0) = false := bne_eq_false_iff_eq.mpr c16
  clear c16
  have H' := Aside0.mk H
  clear H
  go_wp2_with (first | ((with_reducible refine gate_callee (f := 27) rfl ?_); refine goesL_ (some 30) rfl rfl Tryd.func27 (by kernel_rfl) rfl #[.string t725] rfl am ?_; (with_reducible refine (command_Answered.calls k t725 t727 t728 t729 t730 t733 _ tbk A12.out).mono ?_); rintro e w17 ⟨v731, rfl, ho0, hb⟩; refine ⟨_, rfl, ?_⟩; have n0_ := Aside0.mk (Kd.R_lower ho0 (below_size bw)); have n1_ := Aside0.mk (nb aa.out hb); have n2_ := Aside0.mk (below_step bw hb); clear aa; clear HB; have ag := n0_; have aa := n1_; have HB := n2_; clear n0_ n1_ n2_; (try clear hb); (try clear ho0)) | ((with_reducible refine gate_dst (N := 11) rfl ?_); (try (refine gate_guard (by rfl) ?_; dsimp only)); refine box_event ?hg (N := 11) ?hd (cs := #[.int .i64 0, .int .i64 0, .slice none 0 0]) (t := 39) ?hr ?_; (case hd => rfl); (case hg => rfl); (case hr => first | (go_simp; done) | (go_simp; rfl)); intro ae hg w18 hbox hb; have n0_ := Aside0.mk (Kd.R_below (by (with_reducible repeat (first | apply Kd.R_alloc | apply Kd.R_drewN | apply Kd.R_drew)); exact ag.out) hb); have n1_ := Aside0.mk (nb aa.out hb); have n2_ := Aside0.mk (below_step bw hb); have n3_ := Aside0.mk (hbox); have n4_ := Aside0.mk ((g1 hg bw : w.heap.size ≤ ae)); have n5_ := Aside0.mk ((g1 hg bw : w.heap.size ≤ ae)); have n6_ := Aside0.mk ((n1 hg aa.out : ad ≠ ae)); have n7_ := Aside0.mk ((n2 hg aa.out : ae ≠ ad)); clear ag; clear aa; clear HB; have ag := n0_; have aa := n1_; have HB := n2_; have ak := n3_; have GW734 := n4_; have GE734 := n5_; have al := n6_; have NB734_723 := n7_; clear n0_ n1_ n2_ n3_ n4_ n5_ n6_ n7_; clear hb hbox hg; have hnb19 := NB734_723.out; have hnc19 := al.out; obtain ⟨hcz20_0, hcz20_1, hcz20_2, hfz20_0, hfz20_1, hfz20_2⟩ := bx3 ak.out; obtain ⟨ap, an, eo21⟩ := Kd.R_slice ag.out; subst eo21; obtain ⟨hcz22_0, hcz22_1, hcz22_2, hfz22_0, hfz22_1, hfz22_2⟩ := bx3 aa.out) | ((with_reducible refine gate_callee (f := 28) rfl ?_); refine goesL_ (some 36) rfl rfl Tryd.func28 (by kernel_rfl) rfl #[.agg #[.int .i64 t728, .int .i64 t729, .slice ap t730.length an], .agg #[.int .i64 a1_0, .int .i64 a1_1, .slice A1_2 l1_2.length c1_2]] rfl am ?_; (with_reducible refine (carillonlaw14_replies.calls k t728 t729 _ _ t730 a1_0 a1_1 _ _ l1_2 true _ ?side1 ?side2 ?side3 ?side4 A13.out).mono ?_); (case side1 => refine (Kd.R_reads' (e := 48) (base := w.heap.size) (ok := fun k_ => True) (n := t730.length) (c := an) ?_).2.2; exact (by (with_reducible repeat (first | apply Kd.R_alloc | apply Kd.R_drewN | apply Kd.R_drew)); exact (Kd.R_mono (Kd.R_far (p := ⟨ae, 2, none⟩) (Kd.R_far (p := ⟨ae, 1, none⟩) (Kd.R_far (p := ⟨ae, 0, none⟩) (Kd.R_types ag.out ak.out (by decide)) (fun _ hk => hk.2) (.int .i64 t728)) (fun _ hk => hk.2) (.int .i64 t729)) (fun _ hk => hk.2) (.slice ap t730.length an)) (fun _ h_ => h_.1)))); (case side2 => exact (Kd.R_reads' ag.out).2.1); (case side3 => exact Kd.C_below HR1_2.out bw); (case side4 => exact HC1_2.out); rintro e w23 ⟨rfl, hb⟩; refine ⟨_, rfl, ?_⟩; have n0_ := Aside0.mk (Kd.R_below (by (with_reducible repeat (first | apply Kd.R_alloc | apply Kd.R_drewN | apply Kd.R_drew)); exact (Kd.R_mono (Kd.R_far (p := ⟨ae, 2, none⟩) (Kd.R_far (p := ⟨ae, 1, none⟩) (Kd.R_far (p := ⟨ae, 0, none⟩) (Kd.R_types ag.out ak.out (by decide)) (fun _ hk => hk.2) (.int .i64 t728)) (fun _ hk => hk.2) (.int .i64 t729)) (fun _ hk => hk.2) (.slice ap t730.length an)) (fun _ h_ => h_.1))) hb); have n1_ := Aside0.mk (blk_below (g := ad) (o := .cells #[.int .i64 a1_0, .int .i64 a1_1, .slice A1_2 l1_2.length c1_2] 39 (0, 0)) (by (with_reducible repeat (first | refine blk_drewN ?_ _ | refine blk_drew ?_ | refine blk_alloc ?_ _ | refine blk_far ?_ al.out _)); exact aa.out) hb); have n2_ := Aside0.mk (blk_below (g := ae) (o := .cells #[.int .i64 t728, .int .i64 t729, .slice ap t730.length an] 39 (0, 0)) (by (with_reducible repeat (first | refine blk_drewN ?_ _ | refine blk_drew ?_ | refine blk_alloc ?_ _)); refine blk_put (cs := #[.int .i64 t728, .int .i64 t729, .slice none 0 0]) ?_ 2 _ rfl; (with_reducible repeat (first | refine blk_drewN ?_ _ | refine blk_drew ?_ | refine blk_alloc ?_ _)); refine blk_put (cs := #[.int .i64 t728, .int .i64 0, .slice none 0 0]) ?_ 1 _ rfl; (with_reducible repeat (first | refine blk_drewN ?_ _ | refine blk_drew ?_ | refine blk_alloc ?_ _)); refine blk_put (cs := #[.int .i64 0, .int .i64 0, .slice none 0 0]) ?_ 0 _ rfl; (with_reducible repeat (first | refine blk_drewN ?_ _ | refine blk_drew ?_ | refine blk_alloc ?_ _)); exact ak.out) hb); have n3_ := Aside0.mk (below_step bw hb); clear ag; clear aa; clear ak; clear HB; have ag := n0_; have aa := n1_; have ak := n2_; have HB := n3_; clear n0_ n1_ n2_ n3_; (try clear hb)))
  go_meet
  case rel => exact ⟨_, H', ⟨by first | omega | exact Nat.le_refl _⟩, ⟨by (with_reducible repeat (first | refine blk_drewN ?_ _ | refine blk_drew ?_ | refine blk_alloc ?_ _)); exact aa.out⟩, ⟨bw⟩⟩
 case rest =>
  clear HC6
  try clear c1
  try clear c2
  try clear p2
  try clear c7
  try clear c11
  try clear aj
  try clear ar
  try clear c14
  try clear au
  try clear av
  try clear c15
  try clear c16
  try clear aw
  try clear ax
  try clear c19
  try clear hcz20_0 hcz20_1 hcz20_2 hcz22_0 hcz22_1 hcz22_2 hcz9_0 hcz9_1 hcz9_2
  try clear hfz20_0 hfz20_1 hfz20_2 hfz22_0 hfz22_1 hfz22_2 hfz9_0 hfz9_1 hfz9_2
  obtain ⟨kq, HA, HJ5, aa, HB⟩ := hcut
  cases kq with
  | zero => exact absurd HA.out (by simp [carillonlaw14_CommandReply.j0])
  | succ kj5 =>
   have H := HA.out
   clear HA
   simp only [carillonlaw14_CommandReply.j0] at H
   replace H := Option.bind_eq_some_iff.mp H
   obtain ⟨⟨t736, t737, t738, t739, t742⟩, A240, H⟩ := H
   replace H : (if t742 = 0 then ((command_Answer.f kj5 t736 t737 t738 t739).bind fun bt744 => (if t724 = true then (if bt744.1.toList = a2.toList then (some (bt744.2 == 0)) else (some false)) else (some false))) else (if t724 = true then (if t736 = 0 then (some ((t739.length : Int) == 0)) else (some false)) else (some false))) = some r := H
   have A24 := Aside0.mk A240
   clear A240
   by_cases c25 : t742 = 0; rotate_left
   ·rw [if_neg c25] at H
    have c25b0 : (t742 == 0) = false := beq_eq_false_iff_ne.mpr c25
    have c25b1 : (t742 != 0) = true := bne_iff_ne.mpr c25
    by_cases c35 : t724 = true; rotate_left
    ·replace c35 := Bool.eq_false_iff.mpr c35
     subst c35
     have H1 : (some false) = some r := by rw [if_neg (show ¬ (false = true) by decide)] at H; exact H
     clear H
     have H := H1
     clear H1
     exact absurd ((Option.some.inj H).trans hr_.out) (by decide)
    subst c35
    have H1 : (if t736 = 0 then (some ((t739.length : Int) == 0)) else (some false)) = some r := by rw [if_pos rfl] at H; exact H
    clear H
    have H := H1
    clear H1
    by_cases c36 : t736 = 0; rotate_left
    ·rw [if_neg c36] at H
     have c36b0 : (t736 == 0) = false := beq_eq_false_iff_ne.mpr c36
     have c36b1 : (t736 != 0) = true := bne_iff_ne.mpr c36
     exact absurd ((Option.some.inj H).trans hr_.out) (by decide)
    rw [if_pos c36] at H
    have c36b0 : (t736 == 0) = true := beq_iff_eq.mpr c36
    have c36b1 : (t736 != 0) = false := bne_eq_false_iff_eq.mpr c36
    clear c36
    obtain rfl := Option.some.inj H
    go_wp2_with (first | ((with_reducible refine gate_callee (f := 27) rfl ?_); refine goesL_ (some 50) rfl rfl Tryd.func27 (by kernel_rfl) rfl #[.string a2] rfl am ?_; (with_reducible refine (command_Answered.calls kj5 a2 t736 t737 t738 t739 t742 _ tbk A24.out).mono ?_); rintro e w37 ⟨v740, rfl, ho0, hb⟩; refine ⟨_, rfl, ?_⟩; have n0_ := Aside0.mk (Kd.R_lower ho0 (below_size bw)); have n1_ := Aside0.mk (nb aa.out hb); have n2_ := Aside0.mk (below_step bw hb); clear aa; clear HB; have ac := n0_; have aa := n1_; have HB := n2_; clear n0_ n1_ n2_; (try clear hb); (try clear ho0)) | ((with_reducible refine gate_dst (N := 15) rfl ?_); (try (refine gate_guard (by rfl) ?_; dsimp only)); refine box_event ?hg (N := 15) ?hd (cs := #[.int .i64 0, .int .i64 0, .slice none 0 0]) (t := 39) ?hr ?_; (case hd => rfl); (case hg => rfl); (case hr => first | (go_simp; done) | (go_simp; rfl)); intro ab hg w38 hbox hb; have n0_ := Aside0.mk (Kd.R_below (by (with_reducible repeat (first | apply Kd.R_alloc | apply Kd.R_drewN | apply Kd.R_drew)); exact ac.out) hb); have n1_ := Aside0.mk (nb aa.out hb); have n2_ := Aside0.mk (below_step bw hb); have n3_ := Aside0.mk (hbox); have n4_ := Aside0.mk ((g1 hg bw : w.heap.size ≤ ab)); have n5_ := Aside0.mk ((g1 hg bw : w.heap.size ≤ ab)); have n6_ := Aside0.mk ((n1 hg aa.out : ad ≠ ab)); have n7_ := Aside0.mk ((n2 hg aa.out : ab ≠ ad)); clear ac; clear aa; clear HB; have ac := n0_; have aa := n1_; have HB := n2_; have ai := n3_; have GW743 := n4_; have GE743 := n5_; have af := n6_; have ah := n7_; clear n0_ n1_ n2_ n3_ n4_ n5_ n6_ n7_; clear hb hbox hg; have hnb39 := ah.out; have hnc39 := af.out; obtain ⟨hcz40_0, hcz40_1, hcz40_2, hfz40_0, hfz40_1, hfz40_2⟩ := bx3 ai.out; obtain ⟨Ao41, co41, eo41⟩ := Kd.R_slice ac.out; subst eo41))
    go_ret
    exact ⟨er, bw⟩
   rw [if_pos c25] at H
   have c25b0 : (t742 == 0) = true := beq_iff_eq.mpr c25
   have c25b1 : (t742 != 0) = false := bne_eq_false_iff_eq.mpr c25
   clear c25
   replace H := Option.bind_eq_some_iff.mp H
   obtain ⟨⟨t744, t745⟩, A260, H⟩ := H
   replace H : (if t724 = true then (if t744.toList = a2.toList then (some (t745 == 0)) else (some false)) else (some false)) = some r := H
   have A26 := Aside0.mk A260
   clear A260
   by_cases c27 : t724 = true; rotate_left
   ·replace c27 := Bool.eq_false_iff.mpr c27
    subst c27
    have H1 : (some false) = some r := by rw [if_neg (show ¬ (false = true) by decide)] at H; exact H
    clear H
    have H := H1
    clear H1
    exact absurd ((Option.some.inj H).trans hr_.out) (by decide)
   subst c27
   have H1 : (if t744.toList = a2.toList then (some (t745 == 0)) else (some false)) = some r := by rw [if_pos rfl] at H; exact H
   clear H
   have H := H1
   clear H1
   by_cases c28 : t744.toList = a2.toList; rotate_left
   ·rw [if_neg c28] at H
    have c28b0 : (t744.toList == a2.toList) = false := beq_eq_false_iff_ne.mpr c28
    have c28b1 : (t744.toList != a2.toList) = true := bne_iff_ne.mpr c28
    exact absurd ((Option.some.inj H).trans hr_.out) (by decide)
   rw [if_pos c28] at H
   have c28b0 : (t744.toList == a2.toList) = true := beq_iff_eq.mpr c28
   have c28b1 : (t744.toList != a2.toList) = false := bne_eq_false_iff_eq.mpr c28
   clear c28
   obtain rfl := Option.some.inj H
   go_wp2_with (first | ((with_reducible refine gate_callee (f := 27) rfl ?_); refine goesL_ (some 50) rfl rfl Tryd.func27 (by kernel_rfl) rfl #[.string a2] rfl am ?_; (with_reducible refine (command_Answered.calls kj5 a2 t736 t737 t738 t739 t742 _ tbk A24.out).mono ?_); rintro e w29 ⟨v740, rfl, ho0, hb⟩; refine ⟨_, rfl, ?_⟩; have n0_ := Aside0.mk (Kd.R_lower ho0 (below_size bw)); have n1_ := Aside0.mk (nb aa.out hb); have n2_ := Aside0.mk (below_step bw hb); clear aa; clear HB; have ac := n0_; have aa := n1_; have HB := n2_; clear n0_ n1_ n2_; (try clear hb); (try clear ho0)) | ((with_reducible refine gate_dst (N := 15) rfl ?_); (try (refine gate_guard (by rfl) ?_; dsimp only)); refine box_event ?hg (N := 15) ?hd (cs := #[.int .i64 0, .int .i64 0, .slice none 0 0]) (t := 39) ?hr ?_; (case hd => rfl); (case hg => rfl); (case hr => first | (go_simp; done) | (go_simp; rfl)); intro ab hg w30 hbox hb; have n0_ := Aside0.mk (Kd.R_below (by (with_reducible repeat (first | apply Kd.R_alloc | apply Kd.R_drewN | apply Kd.R_drew)); exact ac.out) hb); have n1_ := Aside0.mk (nb aa.out hb); have n2_ := Aside0.mk (below_step bw hb); have n3_ := Aside0.mk (hbox); have n4_ := Aside0.mk ((g1 hg bw : w.heap.size ≤ ab)); have n5_ := Aside0.mk ((g1 hg bw : w.heap.size ≤ ab)); have n6_ := Aside0.mk ((n1 hg aa.out : ad ≠ ab)); have n7_ := Aside0.mk ((n2 hg aa.out : ab ≠ ad)); clear ac; clear aa; clear HB; have ac := n0_; have aa := n1_; have HB := n2_; have ai := n3_; have GW743 := n4_; have GE743 := n5_; have af := n6_; have ah := n7_; clear n0_ n1_ n2_ n3_ n4_ n5_ n6_ n7_; clear hb hbox hg; have hnb31 := ah.out; have hnc31 := af.out; obtain ⟨hcz32_0, hcz32_1, hcz32_2, hfz32_0, hfz32_1, hfz32_2⟩ := bx3 ai.out; obtain ⟨aq, ao, eo33⟩ := Kd.R_slice ac.out; subst eo33) | ((with_reducible refine gate_callee (f := 24) rfl ?_); refine goesL_ (some 70) rfl rfl Tryd.func24 (by kernel_rfl) rfl #[.int .i64 t736, .agg #[.int .i64 t737, .int .i64 t738, .slice aq t739.length ao]] rfl am ?_; (with_reducible refine (command_Answer.calls kj5 t736 t737 t738 _ _ t739 t744 t745 _ ?side1 ?side2 tbk A26.out).mono ?_); (case side1 => refine (Kd.R_reads' (e := 48) (base := w.heap.size) (ok := fun k_ => True) (n := t739.length) (c := ao) ?_).2.2; exact (by (with_reducible repeat (first | apply Kd.R_alloc | apply Kd.R_drewN | apply Kd.R_drew)); exact (Kd.R_mono (Kd.R_far (p := ⟨ab, 2, none⟩) (Kd.R_far (p := ⟨ab, 1, none⟩) (Kd.R_far (p := ⟨ab, 0, none⟩) (Kd.R_types ac.out ai.out (by decide)) (fun _ hk => hk.2) (.int .i64 t737)) (fun _ hk => hk.2) (.int .i64 t738)) (fun _ hk => hk.2) (.slice aq t739.length ao)) (fun _ h_ => h_.1)))); (case side2 => exact (Kd.R_reads' ac.out).2.1); rintro e w34 ⟨rfl, hb⟩; refine ⟨_, rfl, ?_⟩; have n0_ := Aside0.mk (Kd.R_below (by (with_reducible repeat (first | apply Kd.R_alloc | apply Kd.R_drewN | apply Kd.R_drew)); exact (Kd.R_mono (Kd.R_far (p := ⟨ab, 2, none⟩) (Kd.R_far (p := ⟨ab, 1, none⟩) (Kd.R_far (p := ⟨ab, 0, none⟩) (Kd.R_types ac.out ai.out (by decide)) (fun _ hk => hk.2) (.int .i64 t737)) (fun _ hk => hk.2) (.int .i64 t738)) (fun _ hk => hk.2) (.slice aq t739.length ao)) (fun _ h_ => h_.1))) hb); have n1_ := Aside0.mk (blk_below (g := ad) (o := .cells #[.int .i64 a1_0, .int .i64 a1_1, .slice A1_2 l1_2.length c1_2] 39 (0, 0)) (by (with_reducible repeat (first | refine blk_drewN ?_ _ | refine blk_drew ?_ | refine blk_alloc ?_ _ | refine blk_far ?_ af.out _)); exact aa.out) hb); have n2_ := Aside0.mk (blk_below (g := ab) (o := .cells #[.int .i64 t737, .int .i64 t738, .slice aq t739.length ao] 39 (0, 0)) (by (with_reducible repeat (first | refine blk_drewN ?_ _ | refine blk_drew ?_ | refine blk_alloc ?_ _)); refine blk_put (cs := #[.int .i64 t737, .int .i64 t738, .slice none 0 0]) ?_ 2 _ rfl; (with_reducible repeat (first | refine blk_drewN ?_ _ | refine blk_drew ?_ | refine blk_alloc ?_ _)); refine blk_put (cs := #[.int .i64 t737, .int .i64 0, .slice none 0 0]) ?_ 1 _ rfl; (with_reducible repeat (first | refine blk_drewN ?_ _ | refine blk_drew ?_ | refine blk_alloc ?_ _)); refine blk_put (cs := #[.int .i64 0, .int .i64 0, .slice none 0 0]) ?_ 0 _ rfl; (with_reducible repeat (first | refine blk_drewN ?_ _ | refine blk_drew ?_ | refine blk_alloc ?_ _)); exact ai.out) hb); have n3_ := Aside0.mk (below_step bw hb); clear ac; clear aa; clear ai; clear HB; have ac := n0_; have aa := n1_; have ai := n2_; have HB := n3_; clear n0_ n1_ n2_ n3_; (try clear hb)))
   go_ret
   exact ⟨er, bw⟩

-- NOT PRINTED: function 8 (carillonlaw14_CommandTorn)

end Go.Proofs.YtpgiagdpepkooaaDoor.P
