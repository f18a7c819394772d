-- Printed by this session's program wip/xp.py (a turned copy of the kit's printer): functions, their contracts.
import Derived.Test.YtpgiagdpepkooaaDoorPx0
import Derived.Test.YtpgiagdpepkooaaDoorPx17
import Derived.Test.YtpgiagdpepkooaaDoorPx20
import Derived.Test.YtpgiagdpepkooaaDoorPx21
namespace Go.Proofs.YtpgiagdpepkooaaDoor.P
open Go.RowKit Go.Proofs.YtpgiagdpepkooaaDoorW.PrintWords Go.Proofs.YtpgiagdpepkooaaDoorW.PrintLast Go.Proofs.YtpgiagdpepkooaaDoorW.PrintMore
attribute [local go_sem] max2_int min2_int max_two min_two max_three min_three max_four min_four   -- for this text's walks alone
set_option linter.unusedVariables false
set_option linter.unusedSimpArgs false

/-! ### carillonref14_Answered: function 26 -/
mutual
def carillonref14_Answered.j0 : Nat → List (S57) → Bool → Option (Int × Int × Int × (List (S48)) × Int)
 | 0, _, _ => none
 | k + 1, x8, x49 => if x49 = true then (some (0, 0, 0, ([] : List (S48)), 10)) else (if 1 < (x8.length : Int) then (if 2 < (x8.length : Int) then (carillonref14_Answered.l0 k x8 3 (wrap64 ((rd_T57 x8 1).f1)) (wrap64 ((wrap64 ((rd_T57 x8 2).f1)) - 1)) ([] : List (S48))) else (none)) else (none))
def carillonref14_Answered.l0 : Nat → List (S57) → Int → Int → Int → List (S48) → Option (Int × Int × Int × (List (S48)) × Int)
 | 0, _, _, _, _, _ => none
 | k + 1, x8, x11, x628000, x628001, x628002 => if x11 < (x8.length : Int) then (if 0 ≤ x11 then (if ((rd_T57 x8 x11).f1) > 9007199254740991 then (some (0, 0, 0, ([] : List (S48)), 10)) else (if 0 ≤ (wrap64 (x11 + 2)) then (if (wrap64 (x11 + 2)) < (x8.length : Int) then (if ((rd_T57 x8 (wrap64 (x11 + 2))).f1) > 9007199254740991 then (some (0, 0, 0, ([] : List (S48)), 10)) else (if 0 ≤ (wrap64 (x11 + 1)) then (if (wrap64 (x11 + 1)) < (x8.length : Int) then (if 0 ≤ (wrap64 (x11 + 3)) then (if (wrap64 (x11 + 3)) < (x8.length : Int) then (if 0 ≤ (wrap64 (x11 + 4)) then (if (wrap64 (x11 + 4)) < (x8.length : Int) then (if x628002.length < 2199023255552 then (carillonref14_Answered.l0 k x8 (wrap64 (x11 + 5)) x628000 x628001 (x628002 ++ [(⟨wrap64 ((rd_T57 x8 x11).f1), (rd_T57 x8 (wrap64 (x11 + 1))).f2, wrap64 ((rd_T57 x8 (wrap64 (x11 + 2))).f1), (rd_T57 x8 (wrap64 (x11 + 3))).f2, (rd_T57 x8 (wrap64 (x11 + 4))).f2⟩ : S48)])) else (none)) else (none)) else (none)) else (none)) else (none)) else (none)) else (none))) else (none)) else (none))) else (none)) else ((carillonref14_RightReply.f k x628000 x628001 x628002).bind fun t638 => (if t638 = true then (if 0 < (x8.length : Int) then (some (wrap64 ((rd_T57 x8 0).f1), x628000, x628001, x628002, 0)) else (none)) else (some (0, 0, 0, ([] : List (S48)), 10))))
end
def carillonref14_Answered.f (k : Nat) (a0 : ByteArray) : Option (Int × Int × Int × (List (S48)) × Int) := (carillonref02_Take.f k a0).bind fun bt616 => (if bt616.2.2 = 0 then ((carillonref01_Decode.f k (⟨#[108, 98, 108, 42, 108, 116, 108, 116, 116]⟩ : ByteArray) bt616.1).bind fun bt619 => (if bt619.2 = 0 then (if bt616.2.1 = (a0.size : Int) then (if 0 < (bt619.1.length : Int) then (if ((rd_T57 bt619.1 0).f1) > 9007199254740991 then (carillonref14_Answered.j0 k bt619.1 true) else (if 2 < (bt619.1.length : Int) then (carillonref14_Answered.j0 k bt619.1 (decide (((rd_T57 bt619.1 2).f1) > 9007199254740992))) else (none))) else (none)) else (carillonref14_Answered.j0 k bt619.1 true)) else (carillonref14_Answered.j0 k bt619.1 true))) else (some (0, 0, 0, ([] : List (S48)), bt616.2.2)))
def carillonref14_Answered.T7 : Bool × List (List Nat × List Nat) := (true, [([], []), ([0], [0]), ([1], [1]), ([2], [2]), ([3], [3]), ([], []), ([5], [5]), ([6], [6]), ([7], [7]), ([8], [8]), ([9], [9]), ([4, 10], [4, 10]), ([], []), ([12, 11, 0, 1, 2, 3, 4, 5, 6, 7, 8, 9, 10, 11, 12], [11, 12])])
def carillonref14_Answered.B7 : List Nat := [0, 1, 3, 7, 15, 0, 32, 96, 224, 480, 992, 2047, 0, 8191]
theorem carillonref14_Answered.tab7 : rtab .any (opsOf Tryd.f26 7) = carillonref14_Answered.T7 := by kernel_rfl
theorem carillonref14_Answered.bits7 : waitsOk carillonref14_Answered.T7.2 carillonref14_Answered.B7 = true := by kernel_rfl
def carillonref14_Answered.T13 : Bool × List (List Nat × List Nat) := (true, [([], []), ([0], [0]), ([], []), ([], []), ([2, 3], [2, 3]), ([4], [4]), ([5], [5]), ([6], [6]), ([], []), ([], []), ([9], [9]), ([8, 10], [8, 10]), ([11], [11]), ([12], [12]), ([], []), ([], []), ([15], [15]), ([14, 16], [14, 16]), ([17], [17]), ([18], [18]), ([19], [19]), ([], []), ([], []), ([22], [22]), ([21, 23], [21, 23]), ([24], [24]), ([25], [25]), ([], []), ([], []), ([28], [28]), ([27, 29], [27, 29]), ([30], [30]), ([31], [31]), ([7, 13, 20, 26, 32], [7, 13, 20, 26, 32]), ([33], [33]), ([1, 34], [1, 34]), ([0, 1, 2, 3, 4, 5, 6, 7, 8, 9, 10, 11, 12, 13, 14, 15, 16, 17, 18, 19, 20, 21, 22, 23, 24, 25, 26, 27, 28, 29, 30, 31, 32, 33, 34, 35], []), ([36, 35, 35, 0, 1, 2, 3, 4, 5, 6, 7, 8, 9, 10, 11, 12, 13, 14, 15, 16, 17, 18, 19, 20, 21, 22, 23, 24, 25, 26, 27, 28, 29, 30, 31, 32, 33, 34, 35], [35, 36])])
def carillonref14_Answered.B13 : List Nat := [0, 1, 0, 0, 12, 28, 60, 124, 0, 0, 512, 1792, 3840, 7936, 0, 0, 32768, 114688, 245760, 507904, 1032192, 0, 0, 4194304, 14680064, 31457280, 65011712, 0, 0, 268435456, 939524096, 2013265920, 4160749568, 8589934588, 17179869180, 34359738367, 68719476735, 137438953471]
theorem carillonref14_Answered.tab13 : rtab .any (opsOf Tryd.f26 13) = carillonref14_Answered.T13 := by kernel_rfl
theorem carillonref14_Answered.bits13 : waitsOk carillonref14_Answered.T13.2 carillonref14_Answered.B13 = true := by kernel_rfl
def carillonref14_Answered.T17 : Bool × List (List Nat × List Nat) := (true, [([], []), ([0], [0]), ([1], [1]), ([2], [2]), ([3], [3]), ([], []), ([4, 0, 1, 2, 3, 4], [4]), ([5, 6, 0, 1, 2, 3, 4, 5, 6], [5]), ([7, 0, 1, 2, 3, 4, 5, 6, 7], [])])
def carillonref14_Answered.B17 : List Nat := [0, 1, 3, 7, 15, 0, 31, 127, 255]
theorem carillonref14_Answered.tab17 : rtab .any (opsOf Tryd.f26 17) = carillonref14_Answered.T17 := by kernel_rfl
theorem carillonref14_Answered.bits17 : waitsOk carillonref14_Answered.T17.2 carillonref14_Answered.B17 = true := by kernel_rfl
set_option maxHeartbeats 8000000 in
set_option maxRecDepth 100000 in
theorem carillonref14_Answered.calls (k : Nat) (a0 : ByteArray) (r1 : Int) (r2 : Int) (r3 : Int) (r4 : List (S48)) (r5 : Int) (w : World) (h : carillonref14_Answered.f k a0 = some (r1, r2, r3, r4, r5)) :
  Calls Tryd.prog 26 #[.string a0] w fun e w' => ∃ v3_ : Value, e = .returned (.tuple #[.int .i64 r1, .agg #[.int .i64 r2, .int .i64 r3, v3_], .int .i64 r5]) ∧ Kd.R k48 48 w' w.heap.size (fun _ => True) v3_ r4 ∧ Below w.heap.size w w' := by
 have hu39 := Tryd.underlying39
 have hu48 := Tryd.underlying48
 have HB := Aside0.mk (Below.refl w.heap.size w)
 have H := h
 unfold carillonref14_Answered.f at H
 clear h
 replace H := Option.bind_eq_some_iff.mp H
 obtain ⟨⟨t616, t617, t618⟩, A20, H⟩ := H
 replace H : (if t618 = 0 then ((carillonref01_Decode.f k (⟨#[108, 98, 108, 42, 108, 116, 108, 116, 116]⟩ : ByteArray) t616).bind fun bt619 => (if bt619.2 = 0 then (if t617 = (a0.size : Int) then (if 0 < (bt619.1.length : Int) then (if ((rd_T57 bt619.1 0).f1) > 9007199254740991 then (carillonref14_Answered.j0 k bt619.1 true) else (if 2 < (bt619.1.length : Int) then (carillonref14_Answered.j0 k bt619.1 (decide (((rd_T57 bt619.1 2).f1) > 9007199254740992))) else (none))) else (none)) else (carillonref14_Answered.j0 k bt619.1 true)) else (carillonref14_Answered.j0 k bt619.1 true))) else (some (0, 0, 0, ([] : List (S48)), t618))) = some (r1, r2, r3, r4, r5) := H
 have A2 := Aside0.mk A20
 clear A20
 by_cases c3 : t618 = 0; rotate_left
 ·rw [if_neg c3] at H
  have b2 : (t618 == 0) = false := beq_eq_false_iff_ne.mpr c3
  have b3 : (t618 != 0) = true := bne_iff_ne.mpr c3
  simp only [Option.some.injEq, Prod.mk.injEq] at H
  obtain ⟨rfl, rfl, rfl, rfl, rfl⟩ := H
  go_enter Tryd.func26, Tryd.ntmps26
  go_wp2_with (first | ((with_reducible refine gate_dst (N := 3) rfl ?_); (try (refine gate_guard (by rfl) ?_; dsimp only)); refine box_event ?hg (N := 3) ?hd (cs := #[.int .i64 0, .int .i64 0, .slice none 0 0]) (t := 39) ?hr ?_; (case hd => rfl); (case hg => rfl); (case hr => first | (go_simp; done) | (go_simp; rfl)); intro ag hg w66 hbox hb; have aa := Aside0.mk (hbox); have GW615 := Aside0.mk ((g1 hg bw : w.heap.size ≤ ag)); have GE615 := Aside0.mk ((g1 hg bw : w.heap.size ≤ ag)); replace HB := Aside0.mk (below_step bw hb); clear hb hbox hg) | ((with_reducible refine gate_callee (f := 50) rfl ?_); refine goesL_ (some 15) rfl rfl Tryd.func50 (by kernel_rfl) rfl #[.string a0] rfl am ?_; (with_reducible refine (carillonref02_Take.calls k a0 t616 t617 t618 _ A2.out).mono ?_); rintro e w' ⟨rfl, ⟨nd, rfl⟩⟩; refine ⟨_, rfl, ?_⟩; (try (rw [drewN_self w66]; generalize hq_ : World.drewN w66 _ = w66; have n0_ : Aside0 (w66.heap[ag]? = some (.cells #[.int .i64 0, .int .i64 0, .slice none 0 0] 39 (0, 0))) := ⟨by rw [← hq_]; exact (bk aa.out)⟩; have n1_ : Aside0 (Below w.heap.size w w66) := ⟨by rw [← hq_]; exact bw⟩; clear aa HB hq_; have aa := n0_; have HB := n1_; clear n0_ n1_)); obtain ⟨hcz67_0, hcz67_1, hcz67_2, hfz67_0, hfz67_1, hfz67_2⟩ := bx3 aa.out))
  refine bodyPost_ret (results_list (rs := [.tmp 2, .cell 3 39, .tmp 4]) rfl (by simp) (.tmp (.cell ag 39 #[.int .i64 0, .int .i64 0, .slice none 0 0] (0, 0) _ rfl (by (with_reducible repeat (first | refine blk_drewN ?_ _ | refine blk_drew ?_ | refine blk_alloc ?_ _)); refine blk_put (cs := #[.int .i64 0, .int .i64 0, .slice none 0 0]) ?_ 2 _ rfl; (with_reducible repeat (first | refine blk_drewN ?_ _ | refine blk_drew ?_ | refine blk_alloc ?_ _)); refine blk_put (cs := #[.int .i64 0, .int .i64 0, .slice none 0 0]) ?_ 1 _ rfl; (with_reducible repeat (first | refine blk_drewN ?_ _ | refine blk_drew ?_ | refine blk_alloc ?_ _)); refine blk_put (cs := #[.int .i64 0, .int .i64 0, .slice none 0 0]) ?_ 0 _ rfl; (with_reducible repeat (first | refine blk_drewN ?_ _ | refine blk_drew ?_ | refine blk_alloc ?_ _)); exact aa.out) Tryd.underlying39 rfl (by kernel_rfl) (.tmp .nil)))) rfl ?_
  exact ⟨_, er, by first | exact Kd.R_nil _ _ _ _ _ | exact Kd.N_nil _ _ _ _ _ | exact Kd.V_nil _ _ _ _ _ | exact Kd.Q_nil _ _ _ _ _ | exact Kd.S_nil _ _ _ _ _, bw⟩
 rw [if_pos c3] at H
 have b2 : (t618 == 0) = true := beq_iff_eq.mpr c3
 have b3 : (t618 != 0) = false := bne_eq_false_iff_eq.mpr c3
 clear c3
 replace H := Option.bind_eq_some_iff.mp H
 obtain ⟨⟨t619, t620⟩, A40, H⟩ := H
 replace H : (if t620 = 0 then (if t617 = (a0.size : Int) then (if 0 < (t619.length : Int) then (if ((rd_T57 t619 0).f1) > 9007199254740991 then (carillonref14_Answered.j0 k t619 true) else (if 2 < (t619.length : Int) then (carillonref14_Answered.j0 k t619 (decide (((rd_T57 t619 2).f1) > 9007199254740992))) else (none))) else (none)) else (carillonref14_Answered.j0 k t619 true)) else (carillonref14_Answered.j0 k t619 true)) = some (r1, r2, r3, r4, r5) := H
 have A4 := Aside0.mk A40
 clear A40
 have HC5 := Aside0.mk H
 clear H
 go_enter Tryd.func26, Tryd.ntmps26
 go_upto_region 5 with (first | ((with_reducible refine gate_dst (N := 3) rfl ?_); (try (refine gate_guard (by rfl) ?_; dsimp only)); refine box_event ?hg (N := 3) ?hd (cs := #[.int .i64 0, .int .i64 0, .slice none 0 0]) (t := 39) ?hr ?_; (case hd => rfl); (case hg => rfl); (case hr => first | (go_simp; done) | (go_simp; rfl)); intro ag hg w6 hbox hb; have aa := Aside0.mk (hbox); have GW615 := Aside0.mk ((g1 hg bw : w.heap.size ≤ ag)); have GE615 := Aside0.mk ((g1 hg bw : w.heap.size ≤ ag)); replace HB := Aside0.mk (below_step bw hb); clear hb hbox hg) | ((with_reducible refine gate_callee (f := 50) rfl ?_); refine goesL_ (some 15) rfl rfl Tryd.func50 (by kernel_rfl) rfl #[.string a0] rfl am ?_; (with_reducible refine (carillonref02_Take.calls k a0 t616 t617 t618 _ A2.out).mono ?_); rintro e w' ⟨rfl, ⟨nd, rfl⟩⟩; refine ⟨_, rfl, ?_⟩) | ((with_reducible refine gate_callee (f := 41) rfl ?_); refine goesL_ (some 25) rfl rfl Tryd.func41 (by kernel_rfl) rfl #[.string (⟨#[108, 98, 108, 42, 108, 116, 108, 116, 116]⟩ : ByteArray), .string t616] rfl am ?_; (with_reducible refine (carillonref01_Decode.calls k (⟨#[108, 98, 108, 42, 108, 116, 108, 116, 116]⟩ : ByteArray) t616 t619 t620 _ A4.out).mono ?_); rintro e w7 ⟨v621, rfl, ho0, hb⟩; refine ⟨_, rfl, ?_⟩; have av := Aside0.mk (Kd.R_lower ho0 (below_size bw)); replace aa := Aside0.mk (nb aa.out hb); replace HB := Aside0.mk (below_step bw hb); (try clear hb); (try clear ho0)))
 (try simp only [Act.put, sl1, sl2, sl3])
 go_cut [49] (fun v49 wc => ∃ (kq : Nat) (x49_4 : Bool), v49 = .bool x49_4 ∧ Aside0 (carillonref14_Answered.j0 kq t619 x49_4 = some (r1, r2, r3, r4, r5)) ∧ Aside0 (kq ≤ k) ∧ Aside0 (Kd.R k57 57 wc w.heap.size (fun _ => True) v621 t619) ∧ Aside0 (wc.heap[ag]? = some (.cells #[.int .i64 0, .int .i64 0, (.slice none 0 0)] 39 (0, 0))) ∧ Aside0 (Below w.heap.size w wc))
 case first =>
  have H := HC5.out
  clear HC5
  by_cases c8 : t620 = 0; rotate_left
  ·rw [if_neg c8] at H
   have a4 : (t620 == 0) = false := beq_eq_false_iff_ne.mpr c8
   have b4 : (t620 != 0) = true := bne_iff_ne.mpr c8
   (first | rw [a4] | (simp only [i64_w, i32_w]; rw [a4]) | skip)
   have H' := Aside0.mk H
   clear H
   go_wp2
   go_meet
   case rel => exact ⟨_, (true), (by first | rfl | (simp; done) | (simp [*]; done)), H', ⟨by first | omega | exact Nat.le_refl _⟩, ⟨r_ av.out⟩, ⟨by (with_reducible repeat (first | refine blk_drewN ?_ _ | refine blk_drew ?_ | refine blk_alloc ?_ _)); exact aa.out⟩, ⟨bw⟩⟩
  rw [if_pos c8] at H
  have a4 : (t620 == 0) = true := beq_iff_eq.mpr c8
  have b4 : (t620 != 0) = false := bne_eq_false_iff_eq.mpr c8
  clear c8
  (first | rw [a4] | (simp only [i64_w, i32_w]; rw [a4]) | skip)
  by_cases c9 : t617 = (a0.size : Int); rotate_left
  ·rw [if_neg c9] at H
   have b5 : (t617 == (a0.size : Int)) = false := beq_eq_false_iff_ne.mpr c9
   have b6 : (t617 != (a0.size : Int)) = true := bne_iff_ne.mpr c9
   have H' := Aside0.mk H
   clear H
   go_wp2
   go_meet
   case rel => exact ⟨_, (true), (by first | rfl | (simp; done) | (simp [*]; done)), H', ⟨by first | omega | exact Nat.le_refl _⟩, ⟨r_ av.out⟩, ⟨by (with_reducible repeat (first | refine blk_drewN ?_ _ | refine blk_drew ?_ | refine blk_alloc ?_ _)); exact aa.out⟩, ⟨bw⟩⟩
  rw [if_pos c9] at H
  have b5 : (t617 == (a0.size : Int)) = true := beq_iff_eq.mpr c9
  have b6 : (t617 != (a0.size : Int)) = false := bne_eq_false_iff_eq.mpr c9
  clear c9
  obtain ⟨c10, H⟩ := its H
  have bs : decide (0 < (t619.length : Int)) = true := decide_eq_true c10
  have bu : decide (0 < t619.length) = true := decide_eq_true (by omega)
  clear c10
  by_cases c11 : ((rd_T57 t619 0).f1) > 9007199254740991
  ·rw [if_pos c11] at H
   have bo : decide (9007199254740991 < ((rd_T57 t619 0).f1)) = true := decide_eq_true c11
   clear c11
   have H' := Aside0.mk H
   clear H
   obtain ⟨Ao12, co12, eo12⟩ := Kd.R_slice av.out
   subst eo12
   have p623 : 0 ≤ (0 : Int) := (by omega)
   have q623 : 0 < (t619.length : Int) := od
   obtain ⟨bv, e623, aj, ak, al⟩ := at_T57 (Kd.R_reads' av.out).2.2 0 p623 q623
   cases e623
   have qi623 : (0 < t619.length) = True := eq_true (by omega)
   (try rw [tn0] at aj)
   (try rw [show 0 * 3 = 0 from rfl] at aj)
   (try rw [Addr.add_zero'] at aj)
   (try rw [tn0] at ak)
   (try rw [show 0 * 3 = 0 from rfl] at ak)
   (try rw [Addr.add_zero'] at ak)
   (try rw [tn0] at al)
   (try rw [show 0 * 3 = 0 from rfl] at al)
   (try rw [Addr.add_zero'] at al)
   replace p623 := eq_true p623
   replace q623 := eq_true q623
   go_wp2
   go_meet
   case rel => exact ⟨_, (true), (by first | rfl | (simp; done) | (simp [*]; done)), H', ⟨by first | omega | exact Nat.le_refl _⟩, ⟨r_ av.out⟩, ⟨by (with_reducible repeat (first | refine blk_drewN ?_ _ | refine blk_drew ?_ | refine blk_alloc ?_ _)); exact aa.out⟩, ⟨bw⟩⟩
  rw [if_neg c11] at H
  have bo : decide (9007199254740991 < ((rd_T57 t619 0).f1)) = false := decide_eq_false c11
  clear c11
  obtain ⟨c13, H⟩ := its H
  have bx : decide (2 < (t619.length : Int)) = true := decide_eq_true c13
  have b0 : decide (2 < t619.length) = true := decide_eq_true (by omega)
  clear c13
  have H' := Aside0.mk H
  clear H
  obtain ⟨Ao14, co14, eo14⟩ := Kd.R_slice av.out
  subst eo14
  have p623 : 0 ≤ (0 : Int) := (by omega)
  have q623 : 0 < (t619.length : Int) := od
  obtain ⟨bv, e623, aj, ak, al⟩ := at_T57 (Kd.R_reads' av.out).2.2 0 p623 q623
  cases e623
  have qi623 : (0 < t619.length) = True := eq_true (by omega)
  (try rw [tn0] at aj)
  (try rw [show 0 * 3 = 0 from rfl] at aj)
  (try rw [Addr.add_zero'] at aj)
  (try rw [tn0] at ak)
  (try rw [show 0 * 3 = 0 from rfl] at ak)
  (try rw [Addr.add_zero'] at ak)
  (try rw [tn0] at al)
  (try rw [show 0 * 3 = 0 from rfl] at al)
  (try rw [Addr.add_zero'] at al)
  replace p623 := eq_true p623
  replace q623 := eq_true q623
  have p624 : 0 ≤ (2 : Int) := (by omega)
  have q624 : 2 < (t619.length : Int) := od
  obtain ⟨ad624, e624, aw, ax, ay⟩ := at_T57 (Kd.R_reads' av.out).2.2 2 p624 q624
  obtain rfl : bv = ad624 := (by injection e624)
  (try simp only [tn2, Nat.reduceMul, Nat.reduceEqDiff, Go.Addr.add, ↓reduceIte] at aw)
  (try simp only [tn2, Nat.reduceMul, Nat.reduceEqDiff, Go.Addr.add, ↓reduceIte] at ax)
  (try simp only [tn2, Nat.reduceMul, Nat.reduceEqDiff, Go.Addr.add, ↓reduceIte] at ay)
  have qi624 : (2 < t619.length) = True := eq_true (by omega)
  (try rw [tn2] at aw)
  (try rw [show 2 * 3 = 6 from rfl] at aw)
  (try rw [tn2] at ax)
  (try rw [show 2 * 3 = 6 from rfl] at ax)
  (try rw [tn2] at ay)
  (try rw [show 2 * 3 = 6 from rfl] at ay)
  replace p624 := eq_true p624
  replace q624 := eq_true q624
  go_wp2
  go_meet
  case rel => exact ⟨_, (decide (((rd_T57 t619 2).f1) > 9007199254740992)), (by first | rfl | (simp; done) | (simp [*]; done)), H', ⟨by first | omega | exact Nat.le_refl _⟩, ⟨r_ av.out⟩, ⟨by (with_reducible repeat (first | refine blk_drewN ?_ _ | refine blk_drew ?_ | refine blk_alloc ?_ _)); exact aa.out⟩, ⟨bw⟩⟩
 case rest =>
  clear HC5
  try clear c1
  try clear c2
  try clear p2
  try clear c3
  try clear b2
  try clear b3
  try clear c4
  try clear c5
  try clear p6
  try clear q6
  try clear hx6
  try clear qi6
  try clear c8
  try clear a4
  try clear b4
  try clear c9
  try clear b5
  try clear b6
  try clear c10
  try clear bs
  try clear bu
  try clear c11
  try clear bo
  try clear c13
  try clear bx
  try clear b0
  try clear aj
  try clear ak
  try clear al
  try clear aw
  try clear ax
  try clear ay
  try clear p623
  try clear p624
  try clear q623
  try clear q624
  obtain ⟨kq, x49_4, rfl, HA, HJ4, af, aa, HB⟩ := hcut
  cases kq with
  | zero => exact absurd HA.out (by simp [carillonref14_Answered.j0])
  | succ kj4 =>
   have H := HA.out
   clear HA
   simp only [carillonref14_Answered.j0] at H
   by_cases c15 : x49_4 = true
   ·subst c15
    have H1 : (some (0, 0, 0, ([] : List (S48)), 10)) = some (r1, r2, r3, r4, r5) := by rw [if_pos rfl] at H; exact H
    clear H
    have H := H1
    clear H1
    simp only [Option.some.injEq, Prod.mk.injEq] at H
    obtain ⟨rfl, rfl, rfl, rfl, rfl⟩ := H
    obtain ⟨hcz16_0, hcz16_1, hcz16_2, hfz16_0, hfz16_1, hfz16_2⟩ := bx3 aa.out
    go_wp2
    refine bodyPost_ret (results_list (rs := [.tmp 2, .cell 3 39, .tmp 4]) rfl (by simp) (.tmp (.cell ag 39 #[.int .i64 0, .int .i64 0, .slice none 0 0] (0, 0) _ rfl (by (with_reducible repeat (first | refine blk_drewN ?_ _ | refine blk_drew ?_ | refine blk_alloc ?_ _)); refine blk_put (cs := #[.int .i64 0, .int .i64 0, .slice none 0 0]) ?_ 2 _ rfl; (with_reducible repeat (first | refine blk_drewN ?_ _ | refine blk_drew ?_ | refine blk_alloc ?_ _)); refine blk_put (cs := #[.int .i64 0, .int .i64 0, .slice none 0 0]) ?_ 1 _ rfl; (with_reducible repeat (first | refine blk_drewN ?_ _ | refine blk_drew ?_ | refine blk_alloc ?_ _)); refine blk_put (cs := #[.int .i64 0, .int .i64 0, .slice none 0 0]) ?_ 0 _ rfl; (with_reducible repeat (first | refine blk_drewN ?_ _ | refine blk_drew ?_ | refine blk_alloc ?_ _)); exact aa.out) Tryd.underlying39 rfl (by kernel_rfl) (.tmp .nil)))) rfl ?_
    exact ⟨_, er, by first | exact Kd.R_nil _ _ _ _ _ | exact Kd.N_nil _ _ _ _ _ | exact Kd.V_nil _ _ _ _ _ | exact Kd.Q_nil _ _ _ _ _ | exact Kd.S_nil _ _ _ _ _, bw⟩
   replace c15 := Bool.eq_false_iff.mpr c15
   subst c15
   have H1 : (if 1 < (t619.length : Int) then (if 2 < (t619.length : Int) then (carillonref14_Answered.l0 kj4 t619 3 (wrap64 ((rd_T57 t619 1).f1)) (wrap64 ((wrap64 ((rd_T57 t619 2).f1)) - 1)) ([] : List (S48))) else (none)) else (none)) = some (r1, r2, r3, r4, r5) := by rw [if_neg (show ¬ (false = true) by decide)] at H; exact H
   clear H
   have H := H1
   clear H1
   obtain ⟨c17, H⟩ := its H
   have c17b0 : decide (1 < (t619.length : Int)) = true := decide_eq_true c17
   have c17b1 : decide (1 < t619.length) = true := decide_eq_true (by omega)
   clear c17
   obtain ⟨c18, H⟩ := its H
   have c18b0 : decide (2 < (t619.length : Int)) = true := decide_eq_true c18
   have c18b1 : decide (2 < t619.length) = true := decide_eq_true (by omega)
   clear c18
   have H' := Aside0.mk H
   clear H
   try go_wp2
   replace af := Aside0.mk (Kd.R_drew af.out)
   replace aa := Aside0.mk (blk_drew aa.out)
   replace HB := Aside0.mk (below_drew1 HB.out)
   obtain ⟨Ao20, co20, b9⟩ := Kd.R_slice af.out
   (first | subst b9 | (injection b9 with f1_ f2_ f3_; have f4_ := f1_.symm; have f5_ := f3_.symm; clear f1_ f2_ f3_; subst f4_; subst f5_))
   have p625 : 0 ≤ (1 : Int) := (by omega)
   have q625 : 1 < (t619.length : Int) := od
   obtain ⟨ad, e625, an, ao, ap⟩ := at_T57 (Kd.R_reads' af.out).2.2 1 p625 q625
   cases e625
   (try simp only [tn1, Nat.reduceMul, Nat.reduceEqDiff, Go.Addr.add, ↓reduceIte] at an)
   (try simp only [tn1, Nat.reduceMul, Nat.reduceEqDiff, Go.Addr.add, ↓reduceIte] at ao)
   (try simp only [tn1, Nat.reduceMul, Nat.reduceEqDiff, Go.Addr.add, ↓reduceIte] at ap)
   have qi625 : (1 < t619.length) = True := eq_true (by omega)
   (try rw [tn1] at an)
   (try rw [show 1 * 3 = 3 from rfl] at an)
   (try rw [tn1] at ao)
   (try rw [show 1 * 3 = 3 from rfl] at ao)
   (try rw [tn1] at ap)
   (try rw [show 1 * 3 = 3 from rfl] at ap)
   replace p625 := eq_true p625
   replace q625 := eq_true q625
   have p626 : 0 ≤ (2 : Int) := (by omega)
   have q626 : 2 < (t619.length : Int) := od
   obtain ⟨ad626, e626, aq, ar, au⟩ := at_T57 (Kd.R_reads' af.out).2.2 2 p626 q626
   obtain rfl : ad = ad626 := (by injection e626)
   (try simp only [tn2, Nat.reduceMul, Nat.reduceEqDiff, Go.Addr.add, ↓reduceIte] at aq)
   (try simp only [tn2, Nat.reduceMul, Nat.reduceEqDiff, Go.Addr.add, ↓reduceIte] at ar)
   (try simp only [tn2, Nat.reduceMul, Nat.reduceEqDiff, Go.Addr.add, ↓reduceIte] at au)
   have qi626 : (2 < t619.length) = True := eq_true (by omega)
   (try rw [tn2] at aq)
   (try rw [show 2 * 3 = 6 from rfl] at aq)
   (try rw [tn2] at ar)
   (try rw [show 2 * 3 = 6 from rfl] at ar)
   (try rw [tn2] at au)
   (try rw [show 2 * 3 = 6 from rfl] at au)
   replace p626 := eq_true p626
   replace q626 := eq_true q626
   refine start_ (n := 14) (S := fun w' => w'.cell? ⟨ad.block, ad.off + 3, none⟩ = some (.int .i64 ((rd_T57 t619 1).f0)) ∧ w'.cell? ⟨ad.block, ad.off + 3 + 1, none⟩ = some (.int .u64 ((rd_T57 t619 1).f1)) ∧ w'.cell? ⟨ad.block, ad.off + 3 + 2, none⟩ = some (.string ((rd_T57 t619 1).f2)) ∧ w'.cell? ⟨ad.block, ad.off + 6, none⟩ = some (.int .i64 ((rd_T57 t619 2).f0)) ∧ w'.cell? ⟨ad.block, ad.off + 6 + 1, none⟩ = some (.int .u64 ((rd_T57 t619 2).f1)) ∧ w'.cell? ⟨ad.block, ad.off + 6 + 2, none⟩ = some (.string ((rd_T57 t619 2).f2))) (ds := []) (bz 14 0) (by kernel_rfl) rfl rfl ⟨an, ao, ap, aq, ar, au⟩ (fun hHeld => ?_); refine with_tabW carillonref14_Answered.tab7 carillonref14_Answered.bits7 (fun HT_ HW_ => ?_)
   generalize wc.drew = w19 at af aa HB an ao ap aq ar au hHeld ⊢
   refine pu_ 0 (some 51) (bz 14 1) HT_.out ?_
   refine pu_ 1 (some 52) (bz 14 3) HT_.out ?_
   refine pu_ 2 (some 53) (bz 14 7) HT_.out ?_
   refine pu_ 5 (some 56) (bz 14 39) HT_.out ?_
   refine pu_ 6 (some 57) (bz 14 103) HT_.out ?_
   refine pu_ 7 (some 58) (bz 14 231) HT_.out ?_
   refine take_ (i := 3) (N := some 54) (v := ?_) (a' := ?_) (bz 14 239) rfl rfl (take_ofW HT_.out HW_.out (by kernel_rfl)) (fun _ _ _ h => h) (Or.inl ⟨by rfl, ?_⟩) hHeld ?_ ?_
   rotate_left
   ·rintro w' ⟨s0, s1, s2, s3, s4, s5⟩
    go_simp
    with_reducible rfl
   rotate_left
   ·simp only [Act.put, sl1, sl2, sl3, i64_w, i32_w]
    rfl
   refine pu_ 4 (some 55) (bz 14 255) HT_.out ?_
   refine take_ (i := 8) (N := some 59) (v := ?_) (a' := ?_) (bz 14 511) rfl rfl (take_ofW HT_.out HW_.out (by kernel_rfl)) (fun _ _ _ h => h) (Or.inl ⟨by rfl, ?_⟩) hHeld ?_ ?_
   rotate_left
   ·rintro w' ⟨s0, s1, s2, s3, s4, s5⟩
    go_simp
    with_reducible rfl
   rotate_left
   ·simp only [Act.put, sl1, sl2, sl3, i64_w, i32_w]
    rfl
   refine pu_ 9 (some 60) (bz 14 1023) HT_.out ?_
   refine pu_ 10 (some 61) (bz 14 2047) HT_.out ?_
   refine pu_ 11 (some 62) (bz 14 4095) HT_.out ?_
   refine one_ (i := 12) (N := some 10) (bz 14 8191) rfl rfl (one_of HT_.out (by kernel_rfl)) (by decide) (fun K hK => ?_)
   refine box_step ?hg (N := 10) ?hd (cs := #[.int .i64 0, .int .i64 0, .slice none 0 0]) (t := 39) ?hr ?_; (case hd => rfl); (case hg => rfl); (case hr => first | (go_simp; done) | (go_simp; rfl))
   intro ah hg w21 hbox hb
   have HS0_ := (hb.cell (World.block_lt_of_cell? _ _ (hHeld.1))).trans (hHeld.1)
   have HS1_ := (hb.cell (World.block_lt_of_cell? _ _ (hHeld.2.1))).trans (hHeld.2.1)
   have HS2_ := (hb.cell (World.block_lt_of_cell? _ _ (hHeld.2.2.1))).trans (hHeld.2.2.1)
   have HS3_ := (hb.cell (World.block_lt_of_cell? _ _ (hHeld.2.2.2.1))).trans (hHeld.2.2.2.1)
   have HS4_ := (hb.cell (World.block_lt_of_cell? _ _ (hHeld.2.2.2.2.1))).trans (hHeld.2.2.2.2.1)
   have HS5_ := (hb.cell (World.block_lt_of_cell? _ _ (hHeld.2.2.2.2.2))).trans (hHeld.2.2.2.2.2)
   replace af := Aside0.mk (Kd.R_below (r_ af.out) hb)
   have ac := Aside0.mk (hbox)
   have GW627 := Aside0.mk ((g1 hg bw : w.heap.size ≤ ah))
   have GE627 := Aside0.mk ((g1 hg bw : w.heap.size ≤ ah))
   replace HB := Aside0.mk (below_step bw hb)
   have ai := Aside0.mk ((n1 hg aa.out : ag ≠ ah))
   have ae := Aside0.mk ((n2 hg aa.out : ah ≠ ag))
   replace aa := Aside0.mk (nb aa.out hb)
   clear hb hbox hg
   refine hK.out _ _ ⟨HS0_, HS1_, HS2_, HS3_, HS4_, HS5_⟩ (fun hHeld => ?_)
   clear hK K
   refine norm_ (a' := ?_) ?_ ?_
   rotate_left
   ·show Act.put _ (some 10) _ = _
    simp only [Act.put, sl1, sl2, sl3, i64_w, i32_w]
    rfl
   refine one_ (i := 13) (N := none) (bz 14 16383) rfl rfl (one_of HT_.out (by kernel_rfl)) (by decide) (fun K hK => ?_)
   have hs22 : w21.cell? ⟨ah, 0, none⟩ = some (.int .i64 0) := (blk_cell ac.out 0).trans rfl
   have hfs22 := blk_frozen ac.out 0
   have hns22_0 := ai.out
   have hms22_0 := ae.out
   have hs23 : w21.cell? ⟨ah, 1, none⟩ = some (.int .i64 0) := (blk_cell ac.out 1).trans rfl
   have hfs23 := blk_frozen ac.out 1
   have hns23_0 := ai.out
   have hms23_0 := ae.out
   have hs24 : w21.cell? ⟨ah, 2, none⟩ = some (.slice none 0 0) := (blk_cell ac.out 2).trans rfl
   have hfs24 := blk_frozen ac.out 2
   have hns24_0 := ai.out
   have hms24_0 := ae.out
   refine skip_ (w1 := ?_) (by rfl) rfl ?_ ?_
   rotate_left
   ·go_simp
    rfl
   refine hK.out _ _ ⟨(by (iterate 3 refine ((cf (p := ⟨ah, _, none⟩) (Kd.own_blk (Kd.R_ne af.out ac.out (by decide))))).trans ?_); exact hHeld.1), (by (iterate 3 refine ((cf (p := ⟨ah, _, none⟩) (Kd.own_blk (Kd.R_ne af.out ac.out (by decide))))).trans ?_); exact hHeld.2.1), (by (iterate 3 refine ((cf (p := ⟨ah, _, none⟩) (Kd.own_blk (Kd.R_ne af.out ac.out (by decide))))).trans ?_); exact hHeld.2.2.1), (by (iterate 3 refine ((cf (p := ⟨ah, _, none⟩) (Kd.own_blk (Kd.R_ne af.out ac.out (by decide))))).trans ?_); exact hHeld.2.2.2.1), (by (iterate 3 refine ((cf (p := ⟨ah, _, none⟩) (Kd.own_blk (Kd.R_ne af.out ac.out (by decide))))).trans ?_); exact hHeld.2.2.2.2.1), (by (iterate 3 refine ((cf (p := ⟨ah, _, none⟩) (Kd.own_blk (Kd.R_ne af.out ac.out (by decide))))).trans ?_); exact hHeld.2.2.2.2.2)⟩ (fun hHeld => ?_)
   clear hK K
   refine done_ (done_of HT_.out (by kernel_rfl)) ?_
   try go_wp2
   go_loopg [11] kj4 (fun kq v11 w' => ∃ (x11_2 : Int) (x616000_2 : Int) (x616001_2 : Int) (x628002_2 : List (S48)) (u628002 : Value), v11 = .int .i64 x11_2 ∧ Aside0 (carillonref14_Answered.l0 kq t619 x11_2 (wrap64 ((rd_T57 t619 1).f1)) (wrap64 ((wrap64 ((rd_T57 t619 2).f1)) - 1)) x628002_2 = some (r1, r2, r3, r4, r5)) ∧ Aside0 (kq ≤ kj4) ∧ Aside0 (Kd.R k57 57 w' w.heap.size (fun _ => True) (.slice (some ad) t619.length co20) t619) ∧ Aside0 (Kd.R k48 48 w' w.heap.size (fun _ => True) u628002 x628002_2) ∧ Aside0 (w'.heap[ag]? = some (.cells #[.int .i64 x616000_2, .int .i64 x616001_2, (.slice none 0 0)] 39 (0, 0))) ∧ Aside0 (w'.heap[ah]? = some (.cells #[.int .i64 (wrap64 ((rd_T57 t619 1).f1)), .int .i64 (wrap64 ((wrap64 ((rd_T57 t619 2).f1)) - 1)), u628002] 39 (0, 0))) ∧ Aside0 (Below w.heap.size w w'))
   case atStart => exact ⟨(3), (0), (0), (([] : List (S48))), (.slice none 0 0), (by first | rfl | (simp; done) | (simp [*]; done)), H', ⟨Nat.le_refl _⟩, ⟨by (with_reducible repeat (first | apply Kd.R_alloc | apply Kd.R_drewN | apply Kd.R_drew)); exact Kd.R_mono (Kd.R_far (p := ⟨ah, 2, none⟩) (Kd.R_far (p := ⟨ah, 1, none⟩) (Kd.R_far (p := ⟨ah, 0, none⟩) (Kd.R_types af.out ac.out (by decide)) (fun _ hk => hk.2) (.int .i64 (wrap64 ((rd_T57 t619 1).f1)))) (fun _ hk => hk.2) (.int .i64 (wrap64 ((wrap64 ((rd_T57 t619 2).f1)) - 1)))) (fun _ hk => hk.2) (.slice none 0 0)) (fun _ hk => trivial)⟩, ⟨by first | exact Kd.R_nil _ _ _ _ _ | exact Kd.N_nil _ _ _ _ _ | exact Kd.V_nil _ _ _ _ _ | exact Kd.Q_nil _ _ _ _ _ | exact Kd.S_nil _ _ _ _ _⟩, ⟨by (with_reducible repeat (first | refine blk_drewN ?_ _ | refine blk_drew ?_ | refine blk_alloc ?_ _ | refine blk_far ?_ ai.out _)); exact aa.out⟩, ⟨by (with_reducible repeat (first | refine blk_drewN ?_ _ | refine blk_drew ?_ | refine blk_alloc ?_ _)); refine blk_put (cs := #[.int .i64 (wrap64 ((rd_T57 t619 1).f1)), .int .i64 (wrap64 ((wrap64 ((rd_T57 t619 2).f1)) - 1)), .slice none 0 0]) ?_ 2 _ rfl; (with_reducible repeat (first | refine blk_drewN ?_ _ | refine blk_drew ?_ | refine blk_alloc ?_ _)); refine blk_put (cs := #[.int .i64 (wrap64 ((rd_T57 t619 1).f1)), .int .i64 0, .slice none 0 0]) ?_ 1 _ rfl; (with_reducible repeat (first | refine blk_drewN ?_ _ | refine blk_drew ?_ | refine blk_alloc ?_ _)); refine blk_put (cs := #[.int .i64 0, .int .i64 0, .slice none 0 0]) ?_ 0 _ rfl; (with_reducible repeat (first | refine blk_drewN ?_ _ | refine blk_drew ?_ | refine blk_alloc ?_ _)); exact ac.out⟩, ⟨bw⟩⟩
   case round =>
    clear H'
    try clear c1
    try clear c2
    try clear p2
    try clear c3
    try clear b2
    try clear b3
    try clear c4
    try clear c5
    try clear p6
    try clear q6
    try clear hx6
    try clear qi6
    try clear c8
    try clear a4
    try clear b4
    try clear c9
    try clear b5
    try clear b6
    try clear c10
    try clear bs
    try clear bu
    try clear c11
    try clear bo
    try clear c13
    try clear bx
    try clear b0
    try clear c15
    try clear c17
    try clear c17b0
    try clear c17b1
    try clear c18
    try clear c18b0
    try clear c18b1
    try clear hcz16_0 hcz16_1 hcz16_2
    try clear hfz16_0 hfz16_1 hfz16_2
    try clear aj
    try clear ak
    try clear al
    try clear aw
    try clear ax
    try clear ay
    try clear an
    try clear ao
    try clear ap
    try clear aq
    try clear ar
    try clear au
    try clear p2
    try clear p6
    try clear p623
    try clear p624
    try clear p625
    try clear p626
    try clear q6
    try clear q623
    try clear q624
    try clear q625
    try clear q626
    obtain ⟨x11_2, x616000_2, x616001_2, x628002_2, u628002, rfl, HA, HK2, af, ab, aa, ac, HB⟩ := hrel
    cases gk with
    | zero => exact absurd HA.out (by simp [carillonref14_Answered.l0])
    | succ k2 =>
     have H := HA.out
     clear HA
     simp only [carillonref14_Answered.l0] at H
     by_cases c25 : x11_2 < (t619.length : Int); rotate_left
     ·rw [if_neg c25] at H
      have c25b0 : decide (x11_2 < (t619.length : Int)) = false := decide_eq_false c25
      clear c25
      replace H := Option.bind_eq_some_iff.mp H
      obtain ⟨t638, A500, H⟩ := H
      have A50 := Aside0.mk A500
      clear A500
      by_cases c51 : t638 = true; rotate_left
      ·replace c51 := Bool.eq_false_iff.mpr c51
       subst c51
       have H1 : (some (0, 0, 0, ([] : List (S48)), 10)) = some (r1, r2, r3, r4, r5) := by rw [if_neg (show ¬ (false = true) by decide)] at H; exact H
       clear H
       have H := H1
       clear H1
       simp only [Option.some.injEq, Prod.mk.injEq] at H
       obtain ⟨rfl, rfl, rfl, rfl, rfl⟩ := H
       have hnb61 := ae.out
       have hnc61 := ai.out
       obtain ⟨hcz62_0, hcz62_1, hcz62_2, hfz62_0, hfz62_1, hfz62_2⟩ := bx3 ac.out
       obtain ⟨Ao63, co63, eo63⟩ := Kd.R_slice ab.out
       subst eo63
       go_wp2_with (first | ((with_reducible refine gate_callee (f := 52) rfl ?_); refine goesL_ (some 123) rfl rfl Tryd.func52 (by kernel_rfl) rfl #[.agg #[.int .i64 (wrap64 ((rd_T57 t619 1).f1)), .int .i64 (wrap64 ((wrap64 ((rd_T57 t619 2).f1)) - 1)), .slice Ao63 x628002_2.length co63]] rfl am ?_; (with_reducible refine (carillonref14_RightReply.calls k2 (wrap64 ((rd_T57 t619 1).f1)) (wrap64 ((wrap64 ((rd_T57 t619 2).f1)) - 1)) _ _ x628002_2 false _ ?side1 ?side2 A50.out).mono ?_); (case side1 => repeat (first | exact (Kd.R_reads' ab.out).2.2 | (with_reducible refine Kd.C_alloc ?_ _) | (with_reducible refine Kd.C_drewN ?_ _) | (with_reducible refine Kd.C_drew ?_))); (case side2 => exact (Kd.R_reads' ab.out).2.1); rintro e w64 ⟨rfl, hb⟩; refine ⟨_, rfl, ?_⟩; replace af := Aside0.mk (Kd.R_below (r_ af.out) hb); replace ab := Aside0.mk (Kd.R_below (r_ ab.out) hb); replace aa := Aside0.mk (nb aa.out hb); replace ac := Aside0.mk (nb ac.out hb); replace HB := Aside0.mk (below_step bw hb); (try clear hb); obtain ⟨hcz65_0, hcz65_1, hcz65_2, hfz65_0, hfz65_1, hfz65_2⟩ := bx3 aa.out))
       refine bodyPost_ret (results_list (rs := [.tmp 2, .cell 3 39, .tmp 4]) rfl (by simp) (.tmp (.cell ag 39 #[.int .i64 0, .int .i64 0, .slice none 0 0] (0, 0) _ rfl (by (with_reducible repeat (first | refine blk_drewN ?_ _ | refine blk_drew ?_ | refine blk_alloc ?_ _)); refine blk_put (cs := #[.int .i64 0, .int .i64 0, .slice none 0 0]) ?_ 2 _ rfl; (with_reducible repeat (first | refine blk_drewN ?_ _ | refine blk_drew ?_ | refine blk_alloc ?_ _)); refine blk_put (cs := #[.int .i64 0, .int .i64 x616001_2, .slice none 0 0]) ?_ 1 _ rfl; (with_reducible repeat (first | refine blk_drewN ?_ _ | refine blk_drew ?_ | refine blk_alloc ?_ _)); refine blk_put (cs := #[.int .i64 x616000_2, .int .i64 x616001_2, .slice none 0 0]) ?_ 0 _ rfl; (with_reducible repeat (first | refine blk_drewN ?_ _ | refine blk_drew ?_ | refine blk_alloc ?_ _)); exact aa.out) Tryd.underlying39 rfl (by kernel_rfl) (.tmp .nil)))) rfl ?_
       exact ⟨_, er, by first | exact Kd.R_nil _ _ _ _ _ | exact Kd.N_nil _ _ _ _ _ | exact Kd.V_nil _ _ _ _ _ | exact Kd.Q_nil _ _ _ _ _ | exact Kd.S_nil _ _ _ _ _, bw⟩
      subst c51
      have H1 := H
      rw [if_pos rfl] at H1
      clear H
      have H := H1
      clear H1
      obtain ⟨c52, H⟩ := its H
      have c52b0 : decide (0 < (t619.length : Int)) = true := decide_eq_true c52
      have c52b1 : decide (0 < t619.length) = true := decide_eq_true (by omega)
      clear c52
      simp only [Option.some.injEq, Prod.mk.injEq] at H
      obtain ⟨rfl, rfl, rfl, rfl, rfl⟩ := H
      have hnb53 := ae.out
      have hnc53 := ai.out
      obtain ⟨hcz54_0, hcz54_1, hcz54_2, hfz54_0, hfz54_1, hfz54_2⟩ := bx3 ac.out
      obtain ⟨bq, br, eo55⟩ := Kd.R_slice ab.out
      subst eo55
      try go_wp2_with (first | ((with_reducible refine gate_callee (f := 52) rfl ?_); refine goesL_ (some 123) rfl rfl Tryd.func52 (by kernel_rfl) rfl #[.agg #[.int .i64 (wrap64 ((rd_T57 t619 1).f1)), .int .i64 (wrap64 ((wrap64 ((rd_T57 t619 2).f1)) - 1)), .slice bq x628002_2.length br]] rfl am ?_; (with_reducible refine (carillonref14_RightReply.calls k2 (wrap64 ((rd_T57 t619 1).f1)) (wrap64 ((wrap64 ((rd_T57 t619 2).f1)) - 1)) _ _ x628002_2 true _ ?side1 ?side2 A50.out).mono ?_); (case side1 => repeat (first | exact (Kd.R_reads' ab.out).2.2 | (with_reducible refine Kd.C_alloc ?_ _) | (with_reducible refine Kd.C_drewN ?_ _) | (with_reducible refine Kd.C_drew ?_))); (case side2 => exact (Kd.R_reads' ab.out).2.1); rintro e w56 ⟨rfl, hb⟩; refine ⟨_, rfl, ?_⟩; replace af := Aside0.mk (Kd.R_below (r_ af.out) hb); replace ab := Aside0.mk (Kd.R_below (r_ ab.out) hb); replace aa := Aside0.mk (nb aa.out hb); replace ac := Aside0.mk (nb ac.out hb); replace HB := Aside0.mk (below_step bw hb); (try clear hb)))
      replace af := Aside0.mk (Kd.R_drew af.out)
      replace ab := Aside0.mk (Kd.R_drew ab.out)
      replace aa := Aside0.mk (blk_drew aa.out)
      replace ac := Aside0.mk (blk_drew ac.out)
      replace HB := Aside0.mk (below_drew1 HB.out)
      have p639 : 0 ≤ (0 : Int) := (by omega)
      have q639 : 0 < (t619.length : Int) := od
      obtain ⟨ad639, e639, az, a1, a2⟩ := at_T57 (Kd.R_reads' af.out).2.2 0 p639 q639
      obtain rfl : ad = ad639 := (by injection e639)
      have qi639 : (0 < t619.length) = True := eq_true (by omega)
      (try rw [tn0] at az)
      (try rw [show 0 * 3 = 0 from rfl] at az)
      (try rw [Addr.add_zero'] at az)
      (try rw [tn0] at a1)
      (try rw [show 0 * 3 = 0 from rfl] at a1)
      (try rw [Addr.add_zero'] at a1)
      (try rw [tn0] at a2)
      (try rw [show 0 * 3 = 0 from rfl] at a2)
      (try rw [Addr.add_zero'] at a2)
      replace p639 := eq_true p639
      replace q639 := eq_true q639
      refine start_ (n := 9) (S := fun w' => w'.cell? ⟨ah, 0, none⟩ = some (.int .i64 (wrap64 ((rd_T57 t619 1).f1))) ∧ w'.cell? ⟨ah, 1, none⟩ = some (.int .i64 (wrap64 ((wrap64 ((rd_T57 t619 2).f1)) - 1))) ∧ w'.cell? ⟨ah, 2, none⟩ = some (.slice bq x628002_2.length br) ∧ w'.cell? ad = some (.int .i64 ((rd_T57 t619 0).f0)) ∧ w'.cell? ⟨ad.block, ad.off + 1, none⟩ = some (.int .u64 ((rd_T57 t619 0).f1)) ∧ w'.cell? ⟨ad.block, ad.off + 2, none⟩ = some (.string ((rd_T57 t619 0).f2))) (ds := []) (bz 9 0) (by kernel_rfl) rfl rfl ⟨(blk_cell ac.out 0).trans rfl, (blk_cell ac.out 1).trans rfl, (blk_cell ac.out 2).trans rfl, az, a1, a2⟩ (fun hHeld => ?_); refine with_tabW carillonref14_Answered.tab17 carillonref14_Answered.bits17 (fun HT_ HW_ => ?_)
      generalize w56.drew = w57 at af ab aa ac HB az a1 a2 hHeld ⊢
      refine pu_ 0 (some 127) (bz 9 1) HT_.out ?_
      refine pu_ 1 (some 128) (bz 9 3) HT_.out ?_
      refine pu_ 2 (some 129) (bz 9 7) HT_.out ?_
      refine take_ (i := 3) (N := some 130) (v := ?_) (a' := ?_) (bz 9 15) rfl rfl (take_ofW HT_.out HW_.out (by kernel_rfl)) (fun _ _ _ h => h) (Or.inl ⟨by rfl, ?_⟩) hHeld ?_ ?_
      rotate_left
      ·rintro w' ⟨s0, s1, s2, s3, s4, s5⟩
       go_simp
       with_reducible rfl
      rotate_left
      ·simp only [Act.put, sl1, sl2, sl3, i64_w, i32_w]
       rfl
      refine pu_ 4 (some 131) (bz 9 31) HT_.out ?_
      refine pu_ 6 (some 2) (bz 9 95) HT_.out ?_
      refine take_ (i := 5) (N := some 132) (v := ?_) (a' := ?_) (bz 9 127) rfl rfl (take_ofW HT_.out HW_.out (by kernel_rfl)) (fun _ _ _ h => h) (Or.inl ⟨by rfl, ?_⟩) hHeld ?_ ?_
      rotate_left
      ·rintro w' ⟨s0, s1, s2, s3, s4, s5⟩
       go_simp
       with_reducible rfl
      rotate_left
      ·simp only [Act.put, sl1, sl2, sl3, i64_w, i32_w]
       rfl
      refine one_ (i := 7) (N := none) (bz 9 255) rfl rfl (one_of HT_.out (by kernel_rfl)) (by decide) (fun K hK => ?_)
      have hs58 : w57.cell? ⟨ag, 0, none⟩ = some (.int .i64 x616000_2) := (blk_cell aa.out 0).trans rfl
      have hfs58 := blk_frozen aa.out 0
      have hns58_1 := ae.out
      have hms58_1 := ai.out
      have hs59 : w57.cell? ⟨ag, 1, none⟩ = some (.int .i64 x616001_2) := (blk_cell aa.out 1).trans rfl
      have hfs59 := blk_frozen aa.out 1
      have hns59_1 := ae.out
      have hms59_1 := ai.out
      have hs60 : w57.cell? ⟨ag, 2, none⟩ = some (.slice none 0 0) := (blk_cell aa.out 2).trans rfl
      have hfs60 := blk_frozen aa.out 2
      have hns60_1 := ae.out
      have hms60_1 := ai.out
      refine skip_ (w1 := ?_) (by rfl) rfl ?_ ?_
      rotate_left
      ·go_simp
       rfl
      refine hK.out _ _ ⟨((cell_far (p := ⟨ag, _, none⟩) ae.out _).trans (((cell_far (p := ⟨ag, _, none⟩) ae.out _).trans (((cell_far (p := ⟨ag, _, none⟩) ae.out _).trans (hHeld.1)))))), ((cell_far (p := ⟨ag, _, none⟩) ae.out _).trans (((cell_far (p := ⟨ag, _, none⟩) ae.out _).trans (((cell_far (p := ⟨ag, _, none⟩) ae.out _).trans (hHeld.2.1)))))), ((cell_far (p := ⟨ag, _, none⟩) ae.out _).trans (((cell_far (p := ⟨ag, _, none⟩) ae.out _).trans (((cell_far (p := ⟨ag, _, none⟩) ae.out _).trans (hHeld.2.2.1)))))), (by (iterate 3 refine ((cf (p := ⟨ag, _, none⟩) (Kd.own_blk (Kd.R_ne af.out aa.out (by decide))))).trans ?_); exact hHeld.2.2.2.1), (by (iterate 3 refine ((cf (p := ⟨ag, _, none⟩) (Kd.own_blk (Kd.R_ne af.out aa.out (by decide))))).trans ?_); exact hHeld.2.2.2.2.1), (by (iterate 3 refine ((cf (p := ⟨ag, _, none⟩) (Kd.own_blk (Kd.R_ne af.out aa.out (by decide))))).trans ?_); exact hHeld.2.2.2.2.2)⟩ (fun hHeld => ?_)
      clear hK K
      refine pu_ 8 (some 4) (bz 9 511) HT_.out ?_
      refine done_ (done_of HT_.out (by kernel_rfl)) ?_
      try go_wp2
      refine bodyPost_ret (results_list (rs := [.tmp 2, .cell 3 39, .tmp 4]) rfl (by simp) (.tmp (.cell ag 39 #[.int .i64 (wrap64 ((rd_T57 t619 1).f1)), .int .i64 (wrap64 ((wrap64 ((rd_T57 t619 2).f1)) - 1)), .slice bq x628002_2.length br] (0, 0) _ rfl (by (with_reducible repeat (first | refine blk_drewN ?_ _ | refine blk_drew ?_ | refine blk_alloc ?_ _)); refine blk_put (cs := #[.int .i64 (wrap64 ((rd_T57 t619 1).f1)), .int .i64 (wrap64 ((wrap64 ((rd_T57 t619 2).f1)) - 1)), .slice none 0 0]) ?_ 2 _ rfl; (with_reducible repeat (first | refine blk_drewN ?_ _ | refine blk_drew ?_ | refine blk_alloc ?_ _)); refine blk_put (cs := #[.int .i64 (wrap64 ((rd_T57 t619 1).f1)), .int .i64 x616001_2, .slice none 0 0]) ?_ 1 _ rfl; (with_reducible repeat (first | refine blk_drewN ?_ _ | refine blk_drew ?_ | refine blk_alloc ?_ _)); refine blk_put (cs := #[.int .i64 x616000_2, .int .i64 x616001_2, .slice none 0 0]) ?_ 0 _ rfl; (with_reducible repeat (first | refine blk_drewN ?_ _ | refine blk_drew ?_ | refine blk_alloc ?_ _)); exact aa.out) Tryd.underlying39 rfl (by kernel_rfl) (.tmp .nil)))) rfl ?_
      exact ⟨_, er, by (with_reducible repeat (first | apply Kd.R_alloc | apply Kd.R_drewN | apply Kd.R_drew)); exact Kd.R_mono (Kd.R_far (p := ⟨ag, 2, none⟩) (Kd.R_far (p := ⟨ag, 1, none⟩) (Kd.R_far (p := ⟨ag, 0, none⟩) (Kd.R_types ab.out aa.out (by decide)) (fun _ hk => hk.2) (.int .i64 (wrap64 ((rd_T57 t619 1).f1)))) (fun _ hk => hk.2) (.int .i64 (wrap64 ((wrap64 ((rd_T57 t619 2).f1)) - 1)))) (fun _ hk => hk.2) (.slice bq x628002_2.length br)) (fun _ hk => trivial), bw⟩
     rw [if_pos c25] at H
     have c25b0 : decide (x11_2 < (t619.length : Int)) = true := decide_eq_true c25
     clear c25
     obtain ⟨c26, H⟩ := its H
     have c26b0 : decide (0 ≤ x11_2) = true := decide_eq_true c26
     clear c26
     by_cases c27 : ((rd_T57 t619 x11_2).f1) > 9007199254740991
     ·rw [if_pos c27] at H
      have c27b0 : decide (9007199254740991 < ((rd_T57 t619 x11_2).f1)) = true := decide_eq_true c27
      clear c27
      simp only [Option.some.injEq, Prod.mk.injEq] at H
      obtain ⟨rfl, rfl, rfl, rfl, rfl⟩ := H
      have p628 : 0 ≤ (x11_2 : Int) := od
      have q628 : x11_2 < (t619.length : Int) := od
      obtain ⟨a3, e628, a5, a6, a7⟩ := at_T57 (Kd.R_reads' af.out).2.2 x11_2 p628 q628
      obtain rfl : ad = a3 := (by injection e628)
      replace p628 := eq_true p628
      replace q628 := eq_true q628
      have hnb28 := ai.out
      have hnc28 := ae.out
      obtain ⟨hcz29_0, hcz29_1, hcz29_2, hfz29_0, hfz29_1, hfz29_2⟩ := bx3 aa.out
      go_wp2
      refine bodyPost_ret (results_list (rs := [.tmp 2, .cell 3 39, .tmp 4]) rfl (by simp) (.tmp (.cell ag 39 #[.int .i64 0, .int .i64 0, .slice none 0 0] (0, 0) _ rfl (by (with_reducible repeat (first | refine blk_drewN ?_ _ | refine blk_drew ?_ | refine blk_alloc ?_ _)); refine blk_put (cs := #[.int .i64 0, .int .i64 0, .slice none 0 0]) ?_ 2 _ rfl; (with_reducible repeat (first | refine blk_drewN ?_ _ | refine blk_drew ?_ | refine blk_alloc ?_ _)); refine blk_put (cs := #[.int .i64 0, .int .i64 x616001_2, .slice none 0 0]) ?_ 1 _ rfl; (with_reducible repeat (first | refine blk_drewN ?_ _ | refine blk_drew ?_ | refine blk_alloc ?_ _)); refine blk_put (cs := #[.int .i64 x616000_2, .int .i64 x616001_2, .slice none 0 0]) ?_ 0 _ rfl; (with_reducible repeat (first | refine blk_drewN ?_ _ | refine blk_drew ?_ | refine blk_alloc ?_ _)); exact aa.out) Tryd.underlying39 rfl (by kernel_rfl) (.tmp .nil)))) rfl ?_
      exact ⟨_, er, by first | exact Kd.R_nil _ _ _ _ _ | exact Kd.N_nil _ _ _ _ _ | exact Kd.V_nil _ _ _ _ _ | exact Kd.Q_nil _ _ _ _ _ | exact Kd.S_nil _ _ _ _ _, bw⟩
     rw [if_neg c27] at H
     have c27b0 : decide (9007199254740991 < ((rd_T57 t619 x11_2).f1)) = false := decide_eq_false c27
     clear c27
     obtain ⟨ji30, hji30⟩ : ∃ j_ : Int, (wrap64 (x11_2 + 2)) = j_ := ⟨_, rfl⟩
     replace H : (if 0 ≤ (ji30) then (if (ji30) < (t619.length : Int) then (if ((rd_T57 t619 (ji30)).f1) > 9007199254740991 then (some (0, 0, 0, ([] : List (S48)), 10)) else (if 0 ≤ (wrap64 (x11_2 + 1)) then (if (wrap64 (x11_2 + 1)) < (t619.length : Int) then (if 0 ≤ (wrap64 (x11_2 + 3)) then (if (wrap64 (x11_2 + 3)) < (t619.length : Int) then (if 0 ≤ (wrap64 (x11_2 + 4)) then (if (wrap64 (x11_2 + 4)) < (t619.length : Int) then (if x628002_2.length < 2199023255552 then (carillonref14_Answered.l0 k2 t619 (wrap64 (x11_2 + 5)) (wrap64 ((rd_T57 t619 1).f1)) (wrap64 ((wrap64 ((rd_T57 t619 2).f1)) - 1)) (x628002_2 ++ [(⟨wrap64 ((rd_T57 t619 x11_2).f1), (rd_T57 t619 (wrap64 (x11_2 + 1))).f2, wrap64 ((rd_T57 t619 (ji30)).f1), (rd_T57 t619 (wrap64 (x11_2 + 3))).f2, (rd_T57 t619 (wrap64 (x11_2 + 4))).f2⟩ : S48)])) else (none)) else (none)) else (none)) else (none)) else (none)) else (none)) else (none))) else (none)) else (none)) = some (r1, r2, r3, r4, r5) := by first | (rw [hji30] at H; exact H) | (simp only [hji30] at H ⊢; exact H)
     have hji30w : (IntKind.i64.wrap (x11_2 + 2)) = ji30 := (i64_w _).trans hji30
     obtain ⟨c31, H⟩ := its H
     have c31b0 : decide (0 ≤ (ji30)) = true := decide_eq_true c31
     clear c31
     obtain ⟨c32, H⟩ := its H
     have c32b0 : decide ((ji30) < (t619.length : Int)) = true := decide_eq_true c32
     clear c32
     by_cases c33 : ((rd_T57 t619 (ji30)).f1) > 9007199254740991
     ·rw [if_pos c33] at H
      have c33b0 : decide (9007199254740991 < ((rd_T57 t619 (ji30)).f1)) = true := decide_eq_true c33
      clear c33
      simp only [Option.some.injEq, Prod.mk.injEq] at H
      obtain ⟨rfl, rfl, rfl, rfl, rfl⟩ := H
      have p628 : 0 ≤ (x11_2 : Int) := od
      have q628 : x11_2 < (t619.length : Int) := od
      obtain ⟨a3, e628, a5, a6, a7⟩ := at_T57 (Kd.R_reads' af.out).2.2 x11_2 p628 q628
      obtain rfl : ad = a3 := (by injection e628)
      replace p628 := eq_true p628
      replace q628 := eq_true q628
      have p629 : 0 ≤ ((ji30) : Int) := od
      have q629 : (ji30) < (t619.length : Int) := od
      obtain ⟨bp, e629, hx629_0, hx629_1, hx629_2⟩ := at_T57 (Kd.R_reads' af.out).2.2 (ji30) p629 q629
      obtain rfl : ad = bp := (by injection e629)
      replace p629 := eq_true p629
      replace q629 := eq_true q629
      have hnb34 := ai.out
      have hnc34 := ae.out
      obtain ⟨hcz35_0, hcz35_1, hcz35_2, hfz35_0, hfz35_1, hfz35_2⟩ := bx3 aa.out
      go_wp2
      refine bodyPost_ret (results_list (rs := [.tmp 2, .cell 3 39, .tmp 4]) rfl (by simp) (.tmp (.cell ag 39 #[.int .i64 0, .int .i64 0, .slice none 0 0] (0, 0) _ rfl (by (with_reducible repeat (first | refine blk_drewN ?_ _ | refine blk_drew ?_ | refine blk_alloc ?_ _)); refine blk_put (cs := #[.int .i64 0, .int .i64 0, .slice none 0 0]) ?_ 2 _ rfl; (with_reducible repeat (first | refine blk_drewN ?_ _ | refine blk_drew ?_ | refine blk_alloc ?_ _)); refine blk_put (cs := #[.int .i64 0, .int .i64 x616001_2, .slice none 0 0]) ?_ 1 _ rfl; (with_reducible repeat (first | refine blk_drewN ?_ _ | refine blk_drew ?_ | refine blk_alloc ?_ _)); refine blk_put (cs := #[.int .i64 x616000_2, .int .i64 x616001_2, .slice none 0 0]) ?_ 0 _ rfl; (with_reducible repeat (first | refine blk_drewN ?_ _ | refine blk_drew ?_ | refine blk_alloc ?_ _)); exact aa.out) Tryd.underlying39 rfl (by kernel_rfl) (.tmp .nil)))) rfl ?_
      exact ⟨_, by first | rfl | (simp [errW_none, errW_some] <;> rfl) | (simp only [← hji30]; first | rfl | (simp [errW_none, errW_some] <;> rfl)) | (simp [*, errW_none, errW_some] <;> first | rfl | (generalize ByteArray.toList _ = l_; cases l_ <;> rfl)), by first | exact Kd.R_nil _ _ _ _ _ | exact Kd.N_nil _ _ _ _ _ | exact Kd.V_nil _ _ _ _ _ | exact Kd.Q_nil _ _ _ _ _ | exact Kd.S_nil _ _ _ _ _, bw⟩
     rw [if_neg c33] at H
     have c33b0 : decide (9007199254740991 < ((rd_T57 t619 (ji30)).f1)) = false := decide_eq_false c33
     clear c33
     obtain ⟨ji36, hji36⟩ : ∃ j_ : Int, (wrap64 (x11_2 + 1)) = j_ := ⟨_, rfl⟩
     replace H : (if 0 ≤ (ji36) then (if (ji36) < (t619.length : Int) then (if 0 ≤ (wrap64 (x11_2 + 3)) then (if (wrap64 (x11_2 + 3)) < (t619.length : Int) then (if 0 ≤ (wrap64 (x11_2 + 4)) then (if (wrap64 (x11_2 + 4)) < (t619.length : Int) then (if x628002_2.length < 2199023255552 then (carillonref14_Answered.l0 k2 t619 (wrap64 (x11_2 + 5)) (wrap64 ((rd_T57 t619 1).f1)) (wrap64 ((wrap64 ((rd_T57 t619 2).f1)) - 1)) (x628002_2 ++ [(⟨wrap64 ((rd_T57 t619 x11_2).f1), (rd_T57 t619 (ji36)).f2, wrap64 ((rd_T57 t619 (ji30)).f1), (rd_T57 t619 (wrap64 (x11_2 + 3))).f2, (rd_T57 t619 (wrap64 (x11_2 + 4))).f2⟩ : S48)])) else (none)) else (none)) else (none)) else (none)) else (none)) else (none)) else (none)) = some (r1, r2, r3, r4, r5) := by first | (rw [hji36] at H; exact H) | (simp only [hji36] at H ⊢; exact H)
     have hji36w : (IntKind.i64.wrap (x11_2 + 1)) = ji36 := (i64_w _).trans hji36
     obtain ⟨c37, H⟩ := its H
     have c37b0 : decide (0 ≤ (ji36)) = true := decide_eq_true c37
     clear c37
     obtain ⟨c38, H⟩ := its H
     have c38b0 : decide ((ji36) < (t619.length : Int)) = true := decide_eq_true c38
     clear c38
     obtain ⟨ji39, hji39⟩ : ∃ j_ : Int, (wrap64 (x11_2 + 3)) = j_ := ⟨_, rfl⟩
     replace H : (if 0 ≤ (ji39) then (if (ji39) < (t619.length : Int) then (if 0 ≤ (wrap64 (x11_2 + 4)) then (if (wrap64 (x11_2 + 4)) < (t619.length : Int) then (if x628002_2.length < 2199023255552 then (carillonref14_Answered.l0 k2 t619 (wrap64 (x11_2 + 5)) (wrap64 ((rd_T57 t619 1).f1)) (wrap64 ((wrap64 ((rd_T57 t619 2).f1)) - 1)) (x628002_2 ++ [(⟨wrap64 ((rd_T57 t619 x11_2).f1), (rd_T57 t619 (ji36)).f2, wrap64 ((rd_T57 t619 (ji30)).f1), (rd_T57 t619 (ji39)).f2, (rd_T57 t619 (wrap64 (x11_2 + 4))).f2⟩ : S48)])) else (none)) else (none)) else (none)) else (none)) else (none)) = some (r1, r2, r3, r4, r5) := by first | (rw [hji39] at H; exact H) | (simp only [hji39] at H ⊢; exact H)
     have hji39w : (IntKind.i64.wrap (x11_2 + 3)) = ji39 := (i64_w _).trans hji39
     obtain ⟨c40, H⟩ := its H
     have c40b0 : decide (0 ≤ (ji39)) = true := decide_eq_true c40
     clear c40
     obtain ⟨c41, H⟩ := its H
     have c41b0 : decide ((ji39) < (t619.length : Int)) = true := decide_eq_true c41
     clear c41
     obtain ⟨ji42, hji42⟩ : ∃ j_ : Int, (wrap64 (x11_2 + 4)) = j_ := ⟨_, rfl⟩
     replace H : (if 0 ≤ (ji42) then (if (ji42) < (t619.length : Int) then (if x628002_2.length < 2199023255552 then (carillonref14_Answered.l0 k2 t619 (wrap64 (x11_2 + 5)) (wrap64 ((rd_T57 t619 1).f1)) (wrap64 ((wrap64 ((rd_T57 t619 2).f1)) - 1)) (x628002_2 ++ [(⟨wrap64 ((rd_T57 t619 x11_2).f1), (rd_T57 t619 (ji36)).f2, wrap64 ((rd_T57 t619 (ji30)).f1), (rd_T57 t619 (ji39)).f2, (rd_T57 t619 (ji42)).f2⟩ : S48)])) else (none)) else (none)) else (none)) = some (r1, r2, r3, r4, r5) := by first | (rw [hji42] at H; exact H) | (simp only [hji42] at H ⊢; exact H)
     have hji42w : (IntKind.i64.wrap (x11_2 + 4)) = ji42 := (i64_w _).trans hji42
     obtain ⟨c43, H⟩ := its H
     have c43b0 : decide (0 ≤ (ji42)) = true := decide_eq_true c43
     clear c43
     obtain ⟨c44, H⟩ := its H
     have c44b0 : decide ((ji42) < (t619.length : Int)) = true := decide_eq_true c44
     clear c44
     obtain ⟨c45, H⟩ := its H
     have LMc45 := Aside0.mk c45
     clear c45
     obtain ⟨y635, hy635⟩ : ∃ y_ : List (S48), y_ = (x628002_2 ++ [(⟨wrap64 ((rd_T57 t619 x11_2).f1), (rd_T57 t619 (ji36)).f2, wrap64 ((rd_T57 t619 (ji30)).f1), (rd_T57 t619 (ji39)).f2, (rd_T57 t619 (ji42)).f2⟩ : S48)]) := ⟨_, rfl⟩
     replace H : (carillonref14_Answered.l0 k2 t619 (wrap64 (x11_2 + 5)) (wrap64 ((rd_T57 t619 1).f1)) (wrap64 ((wrap64 ((rd_T57 t619 2).f1)) - 1)) y635) = some (r1, r2, r3, r4, r5) := by first | (rw [hy635]; with_reducible exact H) | (have H2_ := (Option.bind_some _ _).symm.trans H; rw [hy635]; with_reducible exact H2_) | (have H2_ := (Option.bind_some _ _).symm.trans H; with_reducible exact H2_) | with_reducible exact H | (rw [hy635]; exact H) | exact H
     have Ny635 := Aside0.mk hy635
     clear hy635
     have H' := Aside0.mk H
     clear H
     have p628 : 0 ≤ (x11_2 : Int) := od
     have q628 : x11_2 < (t619.length : Int) := od
     obtain ⟨a3, e628, a5, a6, a7⟩ := at_T57 (Kd.R_reads' af.out).2.2 x11_2 p628 q628
     obtain rfl : ad = a3 := (by injection e628)
     replace p628 := eq_true p628
     replace q628 := eq_true q628
     have p629 : 0 ≤ ((ji30) : Int) := od
     have q629 : (ji30) < (t619.length : Int) := od
     obtain ⟨bp, e629, hx629_0, hx629_1, hx629_2⟩ := at_T57 (Kd.R_reads' af.out).2.2 (ji30) p629 q629
     obtain rfl : ad = bp := (by injection e629)
     replace p629 := eq_true p629
     replace q629 := eq_true q629
     try go_wp2
     replace af := Aside0.mk (Kd.R_drew af.out)
     replace ab := Aside0.mk (Kd.R_drew ab.out)
     replace aa := Aside0.mk (blk_drew aa.out)
     replace ac := Aside0.mk (blk_drew ac.out)
     replace HB := Aside0.mk (below_drew1 HB.out)
     have p630 : 0 ≤ (x11_2 : Int) := od
     have q630 : x11_2 < (t619.length : Int) := od
     obtain ⟨ad630, e630, a8, a9, ba⟩ := at_T57 (Kd.R_reads' af.out).2.2 x11_2 p630 q630
     obtain rfl : ad = ad630 := (by injection e630)
     replace p630 := eq_true p630
     replace q630 := eq_true q630
     have p631 : 0 ≤ ((ji36) : Int) := od
     have q631 : (ji36) < (t619.length : Int) := od
     obtain ⟨ad631, e631, bb, bc, bd⟩ := at_T57 (Kd.R_reads' af.out).2.2 (ji36) p631 q631
     obtain rfl : ad = ad631 := (by injection e631)
     replace p631 := eq_true p631
     replace q631 := eq_true q631
     have p632 : 0 ≤ ((ji30) : Int) := od
     have q632 : (ji30) < (t619.length : Int) := od
     obtain ⟨ad632, e632, be, bf, bg⟩ := at_T57 (Kd.R_reads' af.out).2.2 (ji30) p632 q632
     obtain rfl : ad = ad632 := (by injection e632)
     replace p632 := eq_true p632
     replace q632 := eq_true q632
     have p633 : 0 ≤ ((ji39) : Int) := od
     have q633 : (ji39) < (t619.length : Int) := od
     obtain ⟨ad633, e633, bh, bi, bj⟩ := at_T57 (Kd.R_reads' af.out).2.2 (ji39) p633 q633
     obtain rfl : ad = ad633 := (by injection e633)
     replace p633 := eq_true p633
     replace q633 := eq_true q633
     have p634 : 0 ≤ ((ji42) : Int) := od
     have q634 : (ji42) < (t619.length : Int) := od
     obtain ⟨ad634, e634, bl, bm, bn⟩ := at_T57 (Kd.R_reads' af.out).2.2 (ji42) p634 q634
     obtain rfl : ad = ad634 := (by injection e634)
     replace p634 := eq_true p634
     replace q634 := eq_true q634
     refine start_ (n := 38) (S := fun w' => w'.cell? ⟨ah, 0, none⟩ = some (.int .i64 (wrap64 ((rd_T57 t619 1).f1))) ∧ w'.cell? ⟨ah, 1, none⟩ = some (.int .i64 (wrap64 ((wrap64 ((rd_T57 t619 2).f1)) - 1))) ∧ w'.cell? ⟨ah, 2, none⟩ = some (u628002) ∧ w'.cell? (ad.add ((x11_2).toNat * 3)) = some (.int .i64 ((rd_T57 t619 x11_2).f0)) ∧ w'.cell? ⟨(ad.add ((x11_2).toNat * 3)).block, (ad.add ((x11_2).toNat * 3)).off + 1, none⟩ = some (.int .u64 ((rd_T57 t619 x11_2).f1)) ∧ w'.cell? ⟨(ad.add ((x11_2).toNat * 3)).block, (ad.add ((x11_2).toNat * 3)).off + 2, none⟩ = some (.string ((rd_T57 t619 x11_2).f2)) ∧ w'.cell? (ad.add (((ji36)).toNat * 3)) = some (.int .i64 ((rd_T57 t619 (ji36)).f0)) ∧ w'.cell? ⟨(ad.add (((ji36)).toNat * 3)).block, (ad.add (((ji36)).toNat * 3)).off + 1, none⟩ = some (.int .u64 ((rd_T57 t619 (ji36)).f1)) ∧ w'.cell? ⟨(ad.add (((ji36)).toNat * 3)).block, (ad.add (((ji36)).toNat * 3)).off + 2, none⟩ = some (.string ((rd_T57 t619 (ji36)).f2)) ∧ w'.cell? (ad.add (((ji30)).toNat * 3)) = some (.int .i64 ((rd_T57 t619 (ji30)).f0)) ∧ w'.cell? ⟨(ad.add (((ji30)).toNat * 3)).block, (ad.add (((ji30)).toNat * 3)).off + 1, none⟩ = some (.int .u64 ((rd_T57 t619 (ji30)).f1)) ∧ w'.cell? ⟨(ad.add (((ji30)).toNat * 3)).block, (ad.add (((ji30)).toNat * 3)).off + 2, none⟩ = some (.string ((rd_T57 t619 (ji30)).f2)) ∧ w'.cell? (ad.add (((ji39)).toNat * 3)) = some (.int .i64 ((rd_T57 t619 (ji39)).f0)) ∧ w'.cell? ⟨(ad.add (((ji39)).toNat * 3)).block, (ad.add (((ji39)).toNat * 3)).off + 1, none⟩ = some (.int .u64 ((rd_T57 t619 (ji39)).f1)) ∧ w'.cell? ⟨(ad.add (((ji39)).toNat * 3)).block, (ad.add (((ji39)).toNat * 3)).off + 2, none⟩ = some (.string ((rd_T57 t619 (ji39)).f2)) ∧ w'.cell? (ad.add (((ji42)).toNat * 3)) = some (.int .i64 ((rd_T57 t619 (ji42)).f0)) ∧ w'.cell? ⟨(ad.add (((ji42)).toNat * 3)).block, (ad.add (((ji42)).toNat * 3)).off + 1, none⟩ = some (.int .u64 ((rd_T57 t619 (ji42)).f1)) ∧ w'.cell? ⟨(ad.add (((ji42)).toNat * 3)).block, (ad.add (((ji42)).toNat * 3)).off + 2, none⟩ = some (.string ((rd_T57 t619 (ji42)).f2))) (ds := [35, 37]) (bz 38 0) (by kernel_rfl) rfl rfl ⟨(blk_cell ac.out 0).trans rfl, (blk_cell ac.out 1).trans rfl, (blk_cell ac.out 2).trans rfl, a8, a9, ba, bb, bc, bd, be, bf, bg, bh, bi, bj, bl, bm, bn⟩ (fun hHeld => ?_); refine with_tabW carillonref14_Answered.tab13 carillonref14_Answered.bits13 (fun HT_ HW_ => ?_)
     generalize wr.drew = w46 at af ab aa ac HB a8 a9 ba bb bc bd be bf bg bh bi bj bl bm bn hHeld ⊢
     refine pu_ 0 (some 85) (bz 38 1) HT_.out ?_
     refine pu_ 2 (some 87) (bz 38 5) HT_.out ?_
     refine pu_ 3 (some 88) (bz 38 13) HT_.out ?_
     refine pu_ 4 (some 89) (bz 38 29) HT_.out ?_
     refine pu_ 5 (some 90) (bz 38 61) HT_.out ?_
     refine pu_ 8 (some 93) (bz 38 317) HT_.out ?_
     refine pu_ 9 (some 94) (bz 38 829) HT_.out ?_
     refine pu_ 10 (some 95) (bz 38 1853) HT_.out ?_
     refine pu_ 11 (some 96) (bz 38 3901) HT_.out ?_
     refine pu_ 12 (some 97) (bz 38 7997) HT_.out ?_
     refine pu_ 14 (some 99) (bz 38 24381) HT_.out ?_
     refine pu_ 15 (some 100) (bz 38 57149) HT_.out ?_
     refine pu_ 16 (some 101) (bz 38 122685) HT_.out ?_
     refine pu_ 17 (some 102) (bz 38 253757) HT_.out ?_
     refine pu_ 18 (some 103) (bz 38 515901) HT_.out ?_
     refine pu_ 21 (some 106) (bz 38 2613053) HT_.out ?_
     refine pu_ 22 (some 107) (bz 38 6807357) HT_.out ?_
     refine pu_ 23 (some 108) (bz 38 15195965) HT_.out ?_
     refine pu_ 24 (some 109) (bz 38 31973181) HT_.out ?_
     refine pu_ 25 (some 110) (bz 38 65527613) HT_.out ?_
     refine pu_ 27 (some 112) (bz 38 199745341) HT_.out ?_
     refine pu_ 28 (some 113) (bz 38 468180797) HT_.out ?_
     refine pu_ 29 (some 114) (bz 38 1005051709) HT_.out ?_
     refine pu_ 30 (some 115) (bz 38 2078793533) HT_.out ?_
     refine pu_ 31 (some 116) (bz 38 4226277181) HT_.out ?_
     refine take_ (i := 1) (N := some 86) (v := ?_) (a' := ?_) (bz 38 4226277183) rfl rfl (take_ofW HT_.out HW_.out (by kernel_rfl)) (fun _ _ _ h => h) (Or.inl ⟨by rfl, ?_⟩) hHeld ?_ ?_
     rotate_left
     ·rintro w' ⟨s0, s1, s2, s3, s4, s5, s6, s7, s8, s9, s10, s11, s12, s13, s14, s15, s16, s17⟩
      go_simp
      with_reducible rfl
     rotate_left
     ·simp only [Act.put, sl1, sl2, sl3, i64_w, i32_w]
      rfl
     refine take_ (i := 6) (N := some 91) (v := ?_) (a' := ?_) (bz 38 4226277247) rfl rfl (take_ofW HT_.out HW_.out (by kernel_rfl)) (fun _ _ _ h => h) (Or.inl ⟨by rfl, ?_⟩) hHeld ?_ ?_
     rotate_left
     ·rintro w' ⟨s0, s1, s2, s3, s4, s5, s6, s7, s8, s9, s10, s11, s12, s13, s14, s15, s16, s17⟩
      go_simp
      with_reducible rfl
     rotate_left
     ·simp only [Act.put, sl1, sl2, sl3, i64_w, i32_w]
      rfl
     refine pu_ 7 (some 92) (bz 38 4226277375) HT_.out ?_
     refine take_ (i := 13) (N := some 98) (v := ?_) (a' := ?_) (bz 38 4226285567) rfl rfl (take_ofW HT_.out HW_.out (by kernel_rfl)) (fun _ _ _ h => h) (Or.inl ⟨by rfl, ?_⟩) hHeld ?_ ?_
     rotate_left
     ·rintro w' ⟨s0, s1, s2, s3, s4, s5, s6, s7, s8, s9, s10, s11, s12, s13, s14, s15, s16, s17⟩
      go_simp
      with_reducible rfl
     rotate_left
     ·simp only [Act.put, sl1, sl2, sl3, i64_w, i32_w]
      rfl
     refine take_ (i := 19) (N := some 104) (v := ?_) (a' := ?_) (bz 38 4226809855) rfl rfl (take_ofW HT_.out HW_.out (by kernel_rfl)) (fun _ _ _ h => h) (Or.inl ⟨by rfl, ?_⟩) hHeld ?_ ?_
     rotate_left
     ·rintro w' ⟨s0, s1, s2, s3, s4, s5, s6, s7, s8, s9, s10, s11, s12, s13, s14, s15, s16, s17⟩
      go_simp
      with_reducible rfl
     rotate_left
     ·simp only [Act.put, sl1, sl2, sl3, i64_w, i32_w]
      rfl
     refine pu_ 20 (some 105) (bz 38 4227858431) HT_.out ?_
     refine take_ (i := 26) (N := some 111) (v := ?_) (a' := ?_) (bz 38 4294967295) rfl rfl (take_ofW HT_.out HW_.out (by kernel_rfl)) (fun _ _ _ h => h) (Or.inl ⟨by rfl, ?_⟩) hHeld ?_ ?_
     rotate_left
     ·rintro w' ⟨s0, s1, s2, s3, s4, s5, s6, s7, s8, s9, s10, s11, s12, s13, s14, s15, s16, s17⟩
      go_simp
      with_reducible rfl
     rotate_left
     ·simp only [Act.put, sl1, sl2, sl3, i64_w, i32_w]
      rfl
     refine take_ (i := 32) (N := some 117) (v := ?_) (a' := ?_) (bz 38 8589934591) rfl rfl (take_ofW HT_.out HW_.out (by kernel_rfl)) (fun _ _ _ h => h) (Or.inl ⟨by rfl, ?_⟩) hHeld ?_ ?_
     rotate_left
     ·rintro w' ⟨s0, s1, s2, s3, s4, s5, s6, s7, s8, s9, s10, s11, s12, s13, s14, s15, s16, s17⟩
      go_simp
      with_reducible rfl
     rotate_left
     ·simp only [Act.put, sl1, sl2, sl3, i64_w, i32_w]
      rfl
     refine pu_ 33 (some 118) (bz 38 17179869183) HT_.out ?_
     refine one_ (i := 34) (N := some 119) (bz 38 34359738367) rfl rfl (one_of HT_.out (by kernel_rfl)) (by decide) (fun K hK => ?_)
     refine value_ (w1 := ?_) (v := ?_) (by rfl) rfl ?_ ?_
     rotate_left 2
     ·go_simp
      constructor
      ·rfl
      ·rfl
     refine hK.out _ _ ⟨(blk_cell (blk_alloc ac.out _) 0).trans rfl, (blk_cell (blk_alloc ac.out _) 1).trans rfl, (blk_cell (blk_alloc ac.out _) 2).trans rfl, (World.cell?_alloc_lt _ _ _ (World.block_lt_of_cell? _ _ (hHeld.2.2.2.1))).trans (hHeld.2.2.2.1), (World.cell?_alloc_lt _ _ _ (World.block_lt_of_cell? _ _ (hHeld.2.2.2.2.1))).trans (hHeld.2.2.2.2.1), (World.cell?_alloc_lt _ _ _ (World.block_lt_of_cell? _ _ (hHeld.2.2.2.2.2.1))).trans (hHeld.2.2.2.2.2.1), (World.cell?_alloc_lt _ _ _ (World.block_lt_of_cell? _ _ (hHeld.2.2.2.2.2.2.1))).trans (hHeld.2.2.2.2.2.2.1), (World.cell?_alloc_lt _ _ _ (World.block_lt_of_cell? _ _ (hHeld.2.2.2.2.2.2.2.1))).trans (hHeld.2.2.2.2.2.2.2.1), (World.cell?_alloc_lt _ _ _ (World.block_lt_of_cell? _ _ (hHeld.2.2.2.2.2.2.2.2.1))).trans (hHeld.2.2.2.2.2.2.2.2.1), (World.cell?_alloc_lt _ _ _ (World.block_lt_of_cell? _ _ (hHeld.2.2.2.2.2.2.2.2.2.1))).trans (hHeld.2.2.2.2.2.2.2.2.2.1), (World.cell?_alloc_lt _ _ _ (World.block_lt_of_cell? _ _ (hHeld.2.2.2.2.2.2.2.2.2.2.1))).trans (hHeld.2.2.2.2.2.2.2.2.2.2.1), (World.cell?_alloc_lt _ _ _ (World.block_lt_of_cell? _ _ (hHeld.2.2.2.2.2.2.2.2.2.2.2.1))).trans (hHeld.2.2.2.2.2.2.2.2.2.2.2.1), (World.cell?_alloc_lt _ _ _ (World.block_lt_of_cell? _ _ (hHeld.2.2.2.2.2.2.2.2.2.2.2.2.1))).trans (hHeld.2.2.2.2.2.2.2.2.2.2.2.2.1), (World.cell?_alloc_lt _ _ _ (World.block_lt_of_cell? _ _ (hHeld.2.2.2.2.2.2.2.2.2.2.2.2.2.1))).trans (hHeld.2.2.2.2.2.2.2.2.2.2.2.2.2.1), (World.cell?_alloc_lt _ _ _ (World.block_lt_of_cell? _ _ (hHeld.2.2.2.2.2.2.2.2.2.2.2.2.2.2.1))).trans (hHeld.2.2.2.2.2.2.2.2.2.2.2.2.2.2.1), (World.cell?_alloc_lt _ _ _ (World.block_lt_of_cell? _ _ (hHeld.2.2.2.2.2.2.2.2.2.2.2.2.2.2.2.1))).trans (hHeld.2.2.2.2.2.2.2.2.2.2.2.2.2.2.2.1), (World.cell?_alloc_lt _ _ _ (World.block_lt_of_cell? _ _ (hHeld.2.2.2.2.2.2.2.2.2.2.2.2.2.2.2.2.1))).trans (hHeld.2.2.2.2.2.2.2.2.2.2.2.2.2.2.2.2.1), (World.cell?_alloc_lt _ _ _ (World.block_lt_of_cell? _ _ (hHeld.2.2.2.2.2.2.2.2.2.2.2.2.2.2.2.2.2))).trans (hHeld.2.2.2.2.2.2.2.2.2.2.2.2.2.2.2.2.2)⟩ (fun hHeld => ?_)
     clear hK K
     refine norm_ (a' := ?_) ?_ ?_
     rotate_left
     ·show Act.put _ (some 119) _ = _
      simp only [Act.put, sl1, sl2, sl3, i64_w, i32_w]
      rfl
     refine last_ (i := 35) (N := some 120) (bz 38 68719476735) rfl rfl (one_of HT_.out (by kernel_rfl)) (by decide) (fun K hK => ?_)
     refine Kd.R_append_step k48 (w0 := w) w.heap.size (by rfl) (.tmp 86) (.tmp 119) 37 48 (.agg #[(.int .i64 0), (.string ⟨#[]⟩), (.int .i64 0), (.string ⟨#[]⟩), (.string ⟨#[]⟩)]) 64 rfl Tryd.underlying37 info48 rfl (by decide) (by omega) u628002 x628002_2 (⟨wrap64 ((rd_T57 t619 x11_2).f1), (rd_T57 t619 (ji36)).f2, wrap64 ((rd_T57 t619 (ji30)).f1), (rd_T57 t619 (ji39)).f2, (rd_T57 t619 (ji42)).f2⟩ : S48) [.int .i64 (wrap64 ((rd_T57 t619 x11_2).f1)), .string ((rd_T57 t619 (ji36)).f2), .int .i64 (wrap64 ((rd_T57 t619 (ji30)).f1)), .string ((rd_T57 t619 (ji39)).f2), .string ((rd_T57 t619 (ji42)).f2)] (fun _ => True) (fun _ => False) rfl rfl ?aP (fun _ hk => hk.elim) ?aF ?aO ?aB ?aS ?aL ?_
     (case aP => exact k48_mkM _ _ _ (⟨wrap64 ((rd_T57 t619 x11_2).f1), (rd_T57 t619 (ji36)).f2, wrap64 ((rd_T57 t619 (ji30)).f1), (rd_T57 t619 (ji39)).f2, (rd_T57 t619 (ji42)).f2⟩ : S48))
     (case aB => exact bw)
     (case aF => exact (fun _ _ => trivial))
     (case aO => exact (r_ ab.out))
     (case aS => exact (below_size bw))
     (case aL => have := LMc45.out; omega)
     intro v636 w47 ho hb hg hat
     rw [← Ny635.out] at ho
     replace af := Aside0.mk (Kd.R_over' (r_ af.out) (Kd.R_typed (r_ ab.out)) (by decide) hg)
     replace aa := Aside0.mk (blk_grown (g := ag) (o := .cells #[.int .i64 x616000_2, .int .i64 x616001_2, .slice none 0 0] 39 (0, 0)) (bk aa.out) hg (Kd.R_ne ab.out aa.out (by decide)))
     replace ac := Aside0.mk (blk_grown (g := ah) (o := .cells #[.int .i64 (wrap64 ((rd_T57 t619 1).f1)), .int .i64 (wrap64 ((wrap64 ((rd_T57 t619 2).f1)) - 1)), u628002] 39 (0, 0)) (bk ac.out) hg (Kd.R_ne ab.out ac.out (by decide)))
     replace HB := Aside0.mk (hb)
     have b1 := Aside0.mk (ho)
     clear ab
     clear ho hb hg hat
     obtain ⟨b7, b8, ca⟩ := Kd.R_slice b1.out
     (first | subst ca | (injection ca with f1_ f2_ f3_; have f4_ := f1_.symm; have f5_ := f3_.symm; clear f1_ f2_ f3_; subst f4_; subst f5_))
     refine hK.out _ _ ?_
     clear hK K
     refine norm_ (a' := ?_) ?_ ?_
     rotate_left
     ·show Act.put _ (some 120) _ = _
      simp only [Act.put, sl1, sl2, sl3, i64_w, i32_w]
      rfl
     refine pu_ 36 (some 121) (bz 38 137438953471) HT_.out ?_
     refine last_ (i := 37) (N := none) (bz 38 274877906943) rfl rfl (one_of HT_.out (by kernel_rfl)) (by decide) (fun K hK => ?_)
     have hs49 : w47.cell? ⟨ah, 2, none⟩ = some (u628002) := (blk_cell ac.out 2).trans rfl
     have hfs49 := blk_frozen ac.out 2
     have hns49_0 := ai.out
     have hms49_0 := ae.out
     refine skip_ (w1 := ?_) (by rfl) rfl ?_ ?_
     rotate_left
     ·go_simp
      rfl
     refine hK.out _ _ ?_
     clear hK K
     refine done_ (done_of HT_.out (by kernel_rfl)) ?_
     try go_wp2
     go_roundg k2
     case measure => have := HJ4.out; have := HK2.out; omega
     case rel => (try rw [hji30]); (try rw [hji36]); (try rw [hji39]); (try rw [hji42]); exact ⟨(wrap64 (x11_2 + 5)), (x616000_2), (x616001_2), (y635), (.slice b7 y635.length b8), (by first | rfl | (simp; done) | (simp [*]; done)), H', ⟨by have := HJ4.out; have := HK2.out; omega⟩, ⟨by (with_reducible repeat (first | apply Kd.R_alloc | apply Kd.R_drewN | apply Kd.R_drew)); exact Kd.R_mono (Kd.R_far (p := ⟨ah, 2, none⟩) (Kd.R_types af.out ac.out (by decide)) (fun _ hk => hk.2) (.slice b7 y635.length b8)) (fun _ hk => trivial)⟩, ⟨by (with_reducible repeat (first | apply Kd.R_alloc | apply Kd.R_drewN | apply Kd.R_drew)); exact Kd.R_mono (Kd.R_far (p := ⟨ah, 2, none⟩) (Kd.R_types b1.out ac.out (by decide)) (fun _ hk => hk.2) (.slice b7 y635.length b8)) (fun _ hk => trivial)⟩, ⟨by (with_reducible repeat (first | refine blk_drewN ?_ _ | refine blk_drew ?_ | refine blk_alloc ?_ _)); refine blk_far ?_ ai.out _; (with_reducible repeat (first | refine blk_drewN ?_ _ | refine blk_drew ?_ | refine blk_alloc ?_ _)); exact aa.out⟩, ⟨by (with_reducible repeat (first | refine blk_drewN ?_ _ | refine blk_drew ?_ | refine blk_alloc ?_ _)); refine blk_put (cs := #[.int .i64 (wrap64 ((rd_T57 t619 1).f1)), .int .i64 (wrap64 ((wrap64 ((rd_T57 t619 2).f1)) - 1)), u628002]) ?_ 2 _ rfl; (with_reducible repeat (first | refine blk_drewN ?_ _ | refine blk_drew ?_ | refine blk_alloc ?_ _)); exact ac.out⟩, ⟨bw⟩⟩

end Go.Proofs.YtpgiagdpepkooaaDoor.P
