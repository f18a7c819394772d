-- Printed by this session's program wip/xp.py (a turned copy of the kit's printer): functions, their contracts.
import Derived.Test.YtpgiagdpepkooaaDoorPx0
import Derived.Test.YtpgiagdpepkooaaDoorPx7
import Derived.Test.YtpgiagdpepkooaaDoorPx9
import Derived.Test.YtpgiagdpepkooaaDoorPx10
namespace Go.Proofs.YtpgiagdpepkooaaDoor.P
open Go.RowKit Go.Proofs.YtpgiagdpepkooaaDoorW.PrintWords Go.Proofs.YtpgiagdpepkooaaDoorW.PrintLast Go.Proofs.YtpgiagdpepkooaaDoorW.PrintMore
attribute [local go_sem] max2_int min2_int max_two min_two max_three min_three max_four min_four   -- for this text's walks alone
set_option linter.unusedVariables false
set_option linter.unusedSimpArgs false

/-! ### command_Answered: function 27 -/
mutual
def command_Answered.j0 : Nat → List (S57) → Bool → Option (Int × Int × Int × (List (S48)) × Int)
 | 0, _, _ => none
 | k + 1, x7, x39 => if x39 = true then (some (0, 0, 0, ([] : List (S48)), 10)) else (if 1 < (x7.length : Int) then (if 2 < (x7.length : Int) then ((command_less.f ((rd_T57 x7 2).f0) ((rd_T57 x7 2).f1) ((rd_T57 x7 2).f2)).bind fun t299 => (if 3 ≤ (x7.length : Int) then (command_Answered.l0 k x7 (x7.drop 3) (wrap64 ((rd_T57 x7 1).f1)) t299 ([] : List (S48))) else (none))) else (none)) else (none))
def command_Answered.l0 : Nat → List (S57) → List (S57) → Int → Int → List (S48) → Option (Int × Int × Int × (List (S48)) × Int)
 | 0, _, _, _, _, _ => none
 | k + 1, x7, x9, x301000, x301001, x301002 => if (x9.length : Int) > 0 then (if 0 < (x9.length : Int) then ((command_fits.f ((rd_T57 x9 0).f0) ((rd_T57 x9 0).f1) ((rd_T57 x9 0).f2)).bind fun t309 => (if t309 = true then (if 2 < (x9.length : Int) then ((command_fits.f ((rd_T57 x9 2).f0) ((rd_T57 x9 2).f1) ((rd_T57 x9 2).f2)).bind fun t311 => (if t311 = true then (if 1 < (x9.length : Int) then (if 3 < (x9.length : Int) then (if 4 < (x9.length : Int) then (if x301002.length < 2199023255552 then (if 5 ≤ (x9.length : Int) then (command_Answered.l0 k x7 (x9.drop 5) x301000 x301001 (x301002 ++ [(⟨wrap64 ((rd_T57 x9 0).f1), (rd_T57 x9 1).f2, wrap64 ((rd_T57 x9 2).f1), (rd_T57 x9 3).f2, (rd_T57 x9 4).f2⟩ : S48)])) else (none)) else (none)) else (none)) else (none)) else (none)) else (some (0, 0, 0, ([] : List (S48)), 10)))) else (none)) else (some (0, 0, 0, ([] : List (S48)), 10)))) else (none)) else ((command_told.f k x301000 x301001 x301002).bind fun t306 => (if t306 = true then (if 0 < (x7.length : Int) then (some (wrap64 ((rd_T57 x7 0).f1), x301000, x301001, x301002, 0)) else (none)) else (some (0, 0, 0, ([] : List (S48)), 10))))
end
def command_Answered.f (k : Nat) (a0 : ByteArray) : Option (Int × Int × Int × (List (S48)) × Int) := (command_framed.f a0).bind fun bt287 => (if bt287.2 = 0 then ((codec_Decode.f k (⟨#[108, 98, 108, 42, 108, 116, 108, 116, 116]⟩ : ByteArray) bt287.1).bind fun bt289 => (if bt289.2 = 0 then (if 0 < (bt289.1.length : Int) then ((command_fits.f ((rd_T57 bt289.1 0).f0) ((rd_T57 bt289.1 0).f1) ((rd_T57 bt289.1 0).f2)).bind fun t294 => (if t294 = true then (if 2 < (bt289.1.length : Int) then ((command_fitsOne.f ((rd_T57 bt289.1 2).f0) ((rd_T57 bt289.1 2).f1) ((rd_T57 bt289.1 2).f2)).bind fun t296 => (command_Answered.j0 k bt289.1 (!t296))) else (none)) else (command_Answered.j0 k bt289.1 true))) else (none)) else (command_Answered.j0 k bt289.1 true))) else (some (0, 0, 0, ([] : List (S48)), bt287.2)))
def command_Answered.T7 : Bool × List (List Nat × List Nat) := (true, [([], []), ([0], [0]), ([1], [1]), ([2], [2]), ([3], [3]), ([], []), ([5], [5]), ([6], [6]), ([7], [7]), ([4, 8], [4, 8]), ([], []), ([10, 9, 8, 0, 1, 2, 3, 4, 5, 6, 7, 8, 9, 10], [9, 10])])
def command_Answered.B7 : List Nat := [0, 1, 3, 7, 15, 0, 32, 96, 224, 511, 0, 2047]
theorem command_Answered.tab7 : rtab .any (opsOf Tryd.f27 7) = command_Answered.T7 := by kernel_rfl
theorem command_Answered.bits7 : waitsOk command_Answered.T7.2 command_Answered.B7 = true := by kernel_rfl
def command_Answered.T13 : Bool × List (List Nat × List Nat) := (true, [([], []), ([0], [0]), ([], []), ([2], [2]), ([3], [3]), ([4], [4]), ([5], [5]), ([], []), ([7], [7]), ([8], [8]), ([9], [9]), ([], []), ([11], [11]), ([12], [12]), ([13], [13]), ([14], [14]), ([], []), ([16], [16]), ([17], [17]), ([18], [18]), ([], []), ([20], [20]), ([21], [21]), ([22], [22]), ([6, 10, 15, 19, 23], [6, 10, 15, 19, 23]), ([24], [24]), ([1, 25], [1, 25]), ([0, 1, 2, 3, 4, 5, 6, 7, 8, 9, 10, 11, 12, 13, 14, 15, 16, 17, 18, 19, 20, 21, 22, 23, 24, 25, 26], []), ([27, 26, 26, 0, 1, 2, 3, 4, 5, 6, 7, 8, 9, 10, 11, 12, 13, 14, 15, 16, 17, 18, 19, 20, 21, 22, 23, 24, 25, 26], [26, 27])])
def command_Answered.B13 : List Nat := [0, 1, 0, 4, 12, 28, 60, 0, 128, 384, 896, 0, 2048, 6144, 14336, 30720, 0, 65536, 196608, 458752, 0, 1048576, 3145728, 7340032, 16777212, 33554428, 67108863, 134217727, 268435455]
theorem command_Answered.tab13 : rtab .any (opsOf Tryd.f27 13) = command_Answered.T13 := by kernel_rfl
theorem command_Answered.bits13 : waitsOk command_Answered.T13.2 command_Answered.B13 = true := by kernel_rfl
def command_Answered.T16 : Bool × List (List Nat × List Nat) := (true, [([], []), ([0], [0]), ([1], [1]), ([2], [2]), ([3], [3]), ([], []), ([4, 0, 1, 2, 3, 4], [4]), ([5, 6, 0, 1, 2, 3, 4, 5, 6], [5]), ([7, 0, 1, 2, 3, 4, 5, 6, 7], [])])
def command_Answered.B16 : List Nat := [0, 1, 3, 7, 15, 0, 31, 127, 255]
theorem command_Answered.tab16 : rtab .any (opsOf Tryd.f27 16) = command_Answered.T16 := by kernel_rfl
theorem command_Answered.bits16 : waitsOk command_Answered.T16.2 command_Answered.B16 = true := by kernel_rfl
set_option maxHeartbeats 8000000 in
set_option maxRecDepth 100000 in
theorem command_Answered.calls (k : Nat) (a0 : ByteArray) (r1 : Int) (r2 : Int) (r3 : Int) (r4 : List (S48)) (r5 : Int) (w : World) (HT_ : TabOk w) (h : command_Answered.f k a0 = some (r1, r2, r3, r4, r5)) :
  Calls Tryd.prog 27 #[.string a0] w fun e w' => ∃ v3_ : Value, e = .returned (.tuple #[.int .i64 r1, .agg #[.int .i64 r2, .int .i64 r3, v3_], .int .i64 r5]) ∧ Kd.R k48 48 w' w.heap.size (fun _ => True) v3_ r4 ∧ Below w.heap.size w w' := by
 have HT := Aside0.mk HT_
 clear HT_
 have hu39 := Tryd.underlying39
 have hu57 := Tryd.underlying57
 have hu48 := Tryd.underlying48
 have HB := Aside0.mk (Below.refl w.heap.size w)
 have H := h
 unfold command_Answered.f at H
 clear h
 replace H := Option.bind_eq_some_iff.mp H
 obtain ⟨⟨t287, t288⟩, A20, H⟩ := H
 replace H : (if t288 = 0 then ((codec_Decode.f k (⟨#[108, 98, 108, 42, 108, 116, 108, 116, 116]⟩ : ByteArray) t287).bind fun bt289 => (if bt289.2 = 0 then (if 0 < (bt289.1.length : Int) then ((command_fits.f ((rd_T57 bt289.1 0).f0) ((rd_T57 bt289.1 0).f1) ((rd_T57 bt289.1 0).f2)).bind fun t294 => (if t294 = true then (if 2 < (bt289.1.length : Int) then ((command_fitsOne.f ((rd_T57 bt289.1 2).f0) ((rd_T57 bt289.1 2).f1) ((rd_T57 bt289.1 2).f2)).bind fun t296 => (command_Answered.j0 k bt289.1 (!t296))) else (none)) else (command_Answered.j0 k bt289.1 true))) else (none)) else (command_Answered.j0 k bt289.1 true))) else (some (0, 0, 0, ([] : List (S48)), t288))) = some (r1, r2, r3, r4, r5) := H
 have A2 := Aside0.mk A20
 clear A20
 by_cases c3 : t288 = 0; rotate_left
 ·rw [if_neg c3] at H
  have cw : (t288 == 0) = false := beq_eq_false_iff_ne.mpr c3
  have cx : (t288 != 0) = true := bne_iff_ne.mpr c3
  simp only [Option.some.injEq, Prod.mk.injEq] at H
  obtain ⟨rfl, rfl, rfl, rfl, rfl⟩ := H
  go_enter Tryd.func27, Tryd.ntmps27
  go_wp2_with (first | ((with_reducible refine gate_dst (N := 3) rfl ?_); refine box_event ?hg (N := 3) ?hd (cs := #[.int .i64 0, .int .i64 0, .slice none 0 0]) (t := 39) ?hr ?_; (case hd => rfl); (case hg => rfl); (case hr => first | (go_simp; done) | (go_simp; rfl)); intro ai hg w83 hbox hb; have aa := Aside0.mk (hbox); have GW286 := Aside0.mk ((g1 hg bw : w.heap.size ≤ ai)); have GE286 := Aside0.mk ((g1 hg bw : w.heap.size ≤ ai)); replace HB := Aside0.mk (below_step bw hb); clear hb hbox hg) | ((with_reducible refine gate_callee (f := 49) rfl ?_); refine goesL_ (some 12) rfl rfl Tryd.func49 (by kernel_rfl) rfl #[.string a0] rfl am ?_; (with_reducible refine (command_framed.calls a0 t287 t288 _ tbk A2.out).mono ?_); rintro e w84 ⟨rfl, hb⟩; refine ⟨_, rfl, ?_⟩; replace aa := Aside0.mk (nb aa.out hb); replace HB := Aside0.mk (below_step bw hb); (try clear hb); obtain ⟨hcz85_0, hcz85_1, hcz85_2, hfz85_0, hfz85_1, hfz85_2⟩ := bx3 aa.out))
  refine bodyPost_ret (results_list (rs := [.tmp 2, .cell 3 39, .tmp 4]) rfl (by simp) (.tmp (.cell ai 39 #[.int .i64 0, .int .i64 0, .slice none 0 0] (0, 0) _ rfl (by (with_reducible repeat (first | refine blk_drewN ?_ _ | refine blk_drew ?_ | refine blk_alloc ?_ _)); refine blk_put (cs := #[.int .i64 0, .int .i64 0, .slice none 0 0]) ?_ 2 _ rfl; (with_reducible repeat (first | refine blk_drewN ?_ _ | refine blk_drew ?_ | refine blk_alloc ?_ _)); refine blk_put (cs := #[.int .i64 0, .int .i64 0, .slice none 0 0]) ?_ 1 _ rfl; (with_reducible repeat (first | refine blk_drewN ?_ _ | refine blk_drew ?_ | refine blk_alloc ?_ _)); refine blk_put (cs := #[.int .i64 0, .int .i64 0, .slice none 0 0]) ?_ 0 _ rfl; (with_reducible repeat (first | refine blk_drewN ?_ _ | refine blk_drew ?_ | refine blk_alloc ?_ _)); exact aa.out) Tryd.underlying39 rfl (by kernel_rfl) (.tmp .nil)))) rfl ?_
  exact ⟨_, er, by first | exact Kd.R_nil _ _ _ _ _ | exact Kd.N_nil _ _ _ _ _ | exact Kd.V_nil _ _ _ _ _ | exact Kd.Q_nil _ _ _ _ _ | exact Kd.S_nil _ _ _ _ _, bw⟩
 rw [if_pos c3] at H
 have cw : (t288 == 0) = true := beq_iff_eq.mpr c3
 have cx : (t288 != 0) = false := bne_eq_false_iff_eq.mpr c3
 clear c3
 replace H := Option.bind_eq_some_iff.mp H
 obtain ⟨⟨t289, t292⟩, A40, H⟩ := H
 replace H : (if t292 = 0 then (if 0 < (t289.length : Int) then ((command_fits.f ((rd_T57 t289 0).f0) ((rd_T57 t289 0).f1) ((rd_T57 t289 0).f2)).bind fun t294 => (if t294 = true then (if 2 < (t289.length : Int) then ((command_fitsOne.f ((rd_T57 t289 2).f0) ((rd_T57 t289 2).f1) ((rd_T57 t289 2).f2)).bind fun t296 => (command_Answered.j0 k t289 (!t296))) else (none)) else (command_Answered.j0 k t289 true))) else (none)) else (command_Answered.j0 k t289 true)) = some (r1, r2, r3, r4, r5) := H
 have A4 := Aside0.mk A40
 clear A40
 have HC5 := Aside0.mk H
 clear H
 go_enter Tryd.func27, Tryd.ntmps27
 go_upto_region 5 with (first | ((with_reducible refine gate_dst (N := 3) rfl ?_); refine box_event ?hg (N := 3) ?hd (cs := #[.int .i64 0, .int .i64 0, .slice none 0 0]) (t := 39) ?hr ?_; (case hd => rfl); (case hg => rfl); (case hr => first | (go_simp; done) | (go_simp; rfl)); intro ai hg w6 hbox hb; have aa := Aside0.mk (hbox); have GW286 := Aside0.mk ((g1 hg bw : w.heap.size ≤ ai)); have GE286 := Aside0.mk ((g1 hg bw : w.heap.size ≤ ai)); replace HB := Aside0.mk (below_step bw hb); clear hb hbox hg) | ((with_reducible refine gate_callee (f := 49) rfl ?_); refine goesL_ (some 12) rfl rfl Tryd.func49 (by kernel_rfl) rfl #[.string a0] rfl am ?_; (with_reducible refine (command_framed.calls a0 t287 t288 _ tbk A2.out).mono ?_); rintro e w7 ⟨rfl, hb⟩; refine ⟨_, rfl, ?_⟩; replace aa := Aside0.mk (nb aa.out hb); replace HB := Aside0.mk (below_step bw hb); (try clear hb)) | ((with_reducible refine gate_callee (f := 37) rfl ?_); refine goesL_ (some 21) rfl rfl Tryd.func37 (by kernel_rfl) rfl #[.string (⟨#[108, 98, 108, 42, 108, 116, 108, 116, 116]⟩ : ByteArray), .string t287] rfl am ?_; (with_reducible refine (codec_Decode.calls k (⟨#[108, 98, 108, 42, 108, 116, 108, 116, 116]⟩ : ByteArray) t287 t289 t292 _ tbk A4.out).mono ?_); rintro e w8 ⟨v290, rfl, ho0, hb⟩; refine ⟨_, rfl, ?_⟩; have a3 := Aside0.mk (Kd.V_lower (Kd.V_mono (ok' := fun k_ => k_ ≠ ai) ho0 (fun k_ hk_ => (Kd.freshB (g := ai) (o := .cells #[.int .i64 0, .int .i64 0, .slice none 0 0] 39 (0, 0)) (bk aa.out) k_ hk_))) (below_size bw)); replace aa := Aside0.mk (nb aa.out hb); replace HB := Aside0.mk (below_step bw hb); (try clear hb); (try clear ho0)))
 (try simp only [Act.put, sl1, sl2, sl3])
 go_cut [39] (fun v39 wc => ∃ (kq : Nat) (x39_4 : Bool), v39 = .bool x39_4 ∧ Aside0 (command_Answered.j0 kq t289 x39_4 = some (r1, r2, r3, r4, r5)) ∧ Aside0 (kq ≤ k) ∧ Aside0 (Kd.V k57 57 wc w.heap.size (fun k_ => k_ ≠ ai) v290 t289) ∧ Aside0 (wc.heap[ai]? = some (.cells #[.int .i64 0, .int .i64 0, (.slice none 0 0)] 39 (0, 0))) ∧ Aside0 (Below w.heap.size w wc))
 case first =>
  have H := HC5.out
  clear HC5
  by_cases c9 : t292 = 0; rotate_left
  ·rw [if_neg c9] at H
   have cc : (t292 == 0) = false := beq_eq_false_iff_ne.mpr c9
   have cy : (t292 != 0) = true := bne_iff_ne.mpr c9
   (first | rw [cc] | (simp only [i64_w, i32_w]; rw [cc]) | skip)
   have H' := Aside0.mk H
   clear H
   go_wp2
   go_meet
   case rel => exact ⟨_, (true), (by first | rfl | (simp; done) | (simp [*]; done)), H', ⟨by first | omega | exact Nat.le_refl _⟩, ⟨v_ a3.out⟩, ⟨by (with_reducible repeat (first | refine blk_drewN ?_ _ | refine blk_drew ?_ | refine blk_alloc ?_ _)); exact aa.out⟩, ⟨bw⟩⟩
  rw [if_pos c9] at H
  have cc : (t292 == 0) = true := beq_iff_eq.mpr c9
  have cy : (t292 != 0) = false := bne_eq_false_iff_eq.mpr c9
  clear c9
  (first | rw [cc] | (simp only [i64_w, i32_w]; rw [cc]) | skip)
  obtain ⟨c10, H⟩ := its H
  have cm : decide (0 < (t289.length : Int)) = true := decide_eq_true c10
  have cn : decide (0 < t289.length) = true := decide_eq_true (by omega)
  clear c10
  replace H := Option.bind_eq_some_iff.mp H
  obtain ⟨t294, A110, H⟩ := H
  have A11 := Aside0.mk A110
  clear A110
  by_cases c12 : t294 = true; rotate_left
  ·replace c12 := Bool.eq_false_iff.mpr c12
   subst c12
   have H1 : (command_Answered.j0 k t289 true) = some (r1, r2, r3, r4, r5) := by rw [if_neg (show ¬ (false = true) by decide)] at H; exact H
   clear H
   have H := H1
   clear H1
   have H' := Aside0.mk H
   clear H
   obtain ⟨Ao18, co18, eo18⟩ := Kd.V_slice a3.out
   subst eo18
   have p293 : 0 ≤ (0 : Int) := (by omega)
   have q293 : 0 < (t289.length : Int) := od
   obtain ⟨cq, e293, a4, a5, a6⟩ := at_T57 (Kd.V_reads' a3.out).2.2 0 p293 q293
   cases e293
   have qi293 : (0 < t289.length) = True := eq_true (by omega)
   (try rw [tn0] at a4)
   (try rw [show 0 * 3 = 0 from rfl] at a4)
   (try rw [Addr.add_zero'] at a4)
   (try rw [tn0] at a5)
   (try rw [show 0 * 3 = 0 from rfl] at a5)
   (try rw [Addr.add_zero'] at a5)
   (try rw [tn0] at a6)
   (try rw [show 0 * 3 = 0 from rfl] at a6)
   (try rw [Addr.add_zero'] at a6)
   replace p293 := eq_true p293
   replace q293 := eq_true q293
   go_wp2_with (first | (go_at_call 38; (with_reducible refine (command_fits.calls ((rd_T57 t289 0).f0) ((rd_T57 t289 0).f1) ((rd_T57 t289 0).f2) false _ A11.out).mono ?_); rintro e w19 ⟨rfl, hb⟩; replace a3 := Aside0.mk (Kd.V_below (v_ a3.out) hb); replace aa := Aside0.mk (nb aa.out hb); replace HB := Aside0.mk (below_step bw hb); (try clear hb)))
   go_meet
   case rel => exact ⟨_, (true), (by first | rfl | (simp; done) | (simp [*]; done)), H', ⟨by first | omega | exact Nat.le_refl _⟩, ⟨v_ a3.out⟩, ⟨by (with_reducible repeat (first | refine blk_drewN ?_ _ | refine blk_drew ?_ | refine blk_alloc ?_ _)); exact aa.out⟩, ⟨bw⟩⟩
  subst c12
  have H1 := H
  rw [if_pos rfl] at H1
  clear H
  have H := H1
  clear H1
  obtain ⟨c13, H⟩ := its H
  have co : decide (2 < (t289.length : Int)) = true := decide_eq_true c13
  have cp : decide (2 < t289.length) = true := decide_eq_true (by omega)
  clear c13
  replace H := Option.bind_eq_some_iff.mp H
  obtain ⟨t296, A140, H⟩ := H
  have A14 := Aside0.mk A140
  clear A140
  have H' := Aside0.mk H
  clear H
  obtain ⟨Ao15, co15, eo15⟩ := Kd.V_slice a3.out
  subst eo15
  have p293 : 0 ≤ (0 : Int) := (by omega)
  have q293 : 0 < (t289.length : Int) := od
  obtain ⟨cq, e293, a4, a5, a6⟩ := at_T57 (Kd.V_reads' a3.out).2.2 0 p293 q293
  cases e293
  have qi293 : (0 < t289.length) = True := eq_true (by omega)
  (try rw [tn0] at a4)
  (try rw [show 0 * 3 = 0 from rfl] at a4)
  (try rw [Addr.add_zero'] at a4)
  (try rw [tn0] at a5)
  (try rw [show 0 * 3 = 0 from rfl] at a5)
  (try rw [Addr.add_zero'] at a5)
  (try rw [tn0] at a6)
  (try rw [show 0 * 3 = 0 from rfl] at a6)
  (try rw [Addr.add_zero'] at a6)
  replace p293 := eq_true p293
  replace q293 := eq_true q293
  go_wp2_with (first | (go_at_call 38; (with_reducible refine (command_fits.calls ((rd_T57 t289 0).f0) ((rd_T57 t289 0).f1) ((rd_T57 t289 0).f2) true _ A11.out).mono ?_); rintro e w16 ⟨rfl, hb⟩; replace a3 := Aside0.mk (Kd.V_below (v_ a3.out) hb); replace aa := Aside0.mk (nb aa.out hb); replace HB := Aside0.mk (below_step bw hb); (try clear hb); have p295 : 0 ≤ (2 : Int) := (by omega); have q295 : 2 < (t289.length : Int) := od; obtain ⟨ad295, e295, bc, bd, be⟩ := at_T57 (Kd.V_reads' a3.out).2.2 2 p295 q295; obtain rfl : cq = ad295 := (by injection e295); (try simp only [tn2, Nat.reduceMul, Nat.reduceEqDiff, Go.Addr.add, ↓reduceIte] at bc); (try simp only [tn2, Nat.reduceMul, Nat.reduceEqDiff, Go.Addr.add, ↓reduceIte] at bd); (try simp only [tn2, Nat.reduceMul, Nat.reduceEqDiff, Go.Addr.add, ↓reduceIte] at be); have qi295 : (2 < t289.length) = True := eq_true (by omega); (try rw [tn2] at bc); (try rw [show 2 * 3 = 6 from rfl] at bc); (try rw [tn2] at bd); (try rw [show 2 * 3 = 6 from rfl] at bd); (try rw [tn2] at be); (try rw [show 2 * 3 = 6 from rfl] at be); replace p295 := eq_true p295; replace q295 := eq_true q295) | (go_at_call 39; (with_reducible refine (command_fitsOne.calls ((rd_T57 t289 2).f0) ((rd_T57 t289 2).f1) ((rd_T57 t289 2).f2) t296 _ A14.out).mono ?_); rintro e w17 ⟨rfl, hb⟩; replace a3 := Aside0.mk (Kd.V_below (v_ a3.out) hb); replace aa := Aside0.mk (nb aa.out hb); replace HB := Aside0.mk (below_step bw hb); (try clear hb)))
  go_meet
  case rel => exact ⟨_, (!t296), (by first | rfl | (simp; done) | (simp [*]; done)), H', ⟨by first | omega | exact Nat.le_refl _⟩, ⟨v_ a3.out⟩, ⟨by (with_reducible repeat (first | refine blk_drewN ?_ _ | refine blk_drew ?_ | refine blk_alloc ?_ _)); exact aa.out⟩, ⟨bw⟩⟩
 case rest =>
  clear HC5
  try clear c1
  try clear c2
  try clear p2
  try clear q2
  try clear hx2
  try clear qi2
  try clear c3
  try clear cw
  try clear cx
  try clear c4
  try clear c9
  try clear cc
  try clear cy
  try clear c10
  try clear cm
  try clear cn
  try clear c12
  try clear c13
  try clear co
  try clear cp
  try clear a4
  try clear a5
  try clear a6
  try clear bc
  try clear bd
  try clear be
  try clear p293
  try clear p295
  try clear q293
  try clear q295
  obtain ⟨kq, x39_4, rfl, HA, HJ4, al, aa, HB⟩ := hcut
  cases kq with
  | zero => exact absurd HA.out (by simp [command_Answered.j0])
  | succ kj4 =>
   have H := HA.out
   clear HA
   simp only [command_Answered.j0] at H
   by_cases c20 : x39_4 = true
   ·subst c20
    have H1 : (some (0, 0, 0, ([] : List (S48)), 10)) = some (r1, r2, r3, r4, r5) := by rw [if_pos rfl] at H; exact H
    clear H
    have H := H1
    clear H1
    simp only [Option.some.injEq, Prod.mk.injEq] at H
    obtain ⟨rfl, rfl, rfl, rfl, rfl⟩ := H
    obtain ⟨hcz21_0, hcz21_1, hcz21_2, hfz21_0, hfz21_1, hfz21_2⟩ := bx3 aa.out
    go_wp2
    refine bodyPost_ret (results_list (rs := [.tmp 2, .cell 3 39, .tmp 4]) rfl (by simp) (.tmp (.cell ai 39 #[.int .i64 0, .int .i64 0, .slice none 0 0] (0, 0) _ rfl (by (with_reducible repeat (first | refine blk_drewN ?_ _ | refine blk_drew ?_ | refine blk_alloc ?_ _)); refine blk_put (cs := #[.int .i64 0, .int .i64 0, .slice none 0 0]) ?_ 2 _ rfl; (with_reducible repeat (first | refine blk_drewN ?_ _ | refine blk_drew ?_ | refine blk_alloc ?_ _)); refine blk_put (cs := #[.int .i64 0, .int .i64 0, .slice none 0 0]) ?_ 1 _ rfl; (with_reducible repeat (first | refine blk_drewN ?_ _ | refine blk_drew ?_ | refine blk_alloc ?_ _)); refine blk_put (cs := #[.int .i64 0, .int .i64 0, .slice none 0 0]) ?_ 0 _ rfl; (with_reducible repeat (first | refine blk_drewN ?_ _ | refine blk_drew ?_ | refine blk_alloc ?_ _)); exact aa.out) Tryd.underlying39 rfl (by kernel_rfl) (.tmp .nil)))) rfl ?_
    exact ⟨_, er, by first | exact Kd.R_nil _ _ _ _ _ | exact Kd.N_nil _ _ _ _ _ | exact Kd.V_nil _ _ _ _ _ | exact Kd.Q_nil _ _ _ _ _ | exact Kd.S_nil _ _ _ _ _, bw⟩
   replace c20 := Bool.eq_false_iff.mpr c20
   subst c20
   have H1 : (if 1 < (t289.length : Int) then (if 2 < (t289.length : Int) then ((command_less.f ((rd_T57 t289 2).f0) ((rd_T57 t289 2).f1) ((rd_T57 t289 2).f2)).bind fun t299 => (if 3 ≤ (t289.length : Int) then (command_Answered.l0 kj4 t289 (t289.drop 3) (wrap64 ((rd_T57 t289 1).f1)) t299 ([] : List (S48))) else (none))) else (none)) else (none)) = some (r1, r2, r3, r4, r5) := by rw [if_neg (show ¬ (false = true) by decide)] at H; exact H
   clear H
   have H := H1
   clear H1
   obtain ⟨c22, H⟩ := its H
   have c22b0 : decide (1 < (t289.length : Int)) = true := decide_eq_true c22
   have c22b1 : decide (1 < t289.length) = true := decide_eq_true (by omega)
   clear c22
   obtain ⟨c23, H⟩ := its H
   have c23b0 : decide (2 < (t289.length : Int)) = true := decide_eq_true c23
   have c23b1 : decide (2 < t289.length) = true := decide_eq_true (by omega)
   clear c23
   replace H := Option.bind_eq_some_iff.mp H
   obtain ⟨t299, A240, H⟩ := H
   have A24 := Aside0.mk A240
   clear A240
   obtain ⟨c25, H⟩ := its H
   have c25b0 := eq_true c25
   have c25b1 : decide (3 ≤ (t289.length : Int)) = true := decide_eq_true c25
   clear c25
   obtain ⟨y301, hy301⟩ : ∃ y_ : List (S57), y_ = (t289.drop 3) := ⟨_, rfl⟩
   replace H : (command_Answered.l0 kj4 t289 y301 (wrap64 ((rd_T57 t289 1).f1)) t299 ([] : List (S48))) = some (r1, r2, r3, r4, r5) := by first | (rw [hy301]; with_reducible exact H) | (have H2_ := (Option.bind_some _ _).symm.trans H; rw [hy301]; with_reducible exact H2_) | (have H2_ := (Option.bind_some _ _).symm.trans H; with_reducible exact H2_) | with_reducible exact H | (rw [hy301]; exact H) | exact H
   have Ny301 := Aside0.mk hy301
   clear hy301
   have H' := Aside0.mk H
   clear H
   try go_wp2
   replace al := Aside0.mk (Kd.V_drew al.out)
   replace aa := Aside0.mk (blk_drew aa.out)
   replace HB := Aside0.mk (below_drew1 HB.out)
   obtain ⟨Ao27, b8, cz⟩ := Kd.V_slice al.out
   (first | subst cz | (injection cz with f1_ f2_ f3_; have f4_ := f1_.symm; have f5_ := f3_.symm; clear f1_ f2_ f3_; subst f4_; subst f5_))
   have p297 : 0 ≤ (1 : Int) := (by omega)
   have q297 : 1 < (t289.length : Int) := od
   obtain ⟨ak, e297, bf, bg, bh⟩ := at_T57 (Kd.V_reads' al.out).2.2 1 p297 q297
   cases e297
   (try simp only [tn1, Nat.reduceMul, Nat.reduceEqDiff, Go.Addr.add, ↓reduceIte] at bf)
   (try simp only [tn1, Nat.reduceMul, Nat.reduceEqDiff, Go.Addr.add, ↓reduceIte] at bg)
   (try simp only [tn1, Nat.reduceMul, Nat.reduceEqDiff, Go.Addr.add, ↓reduceIte] at bh)
   have qi297 : (1 < t289.length) = True := eq_true (by omega)
   (try rw [tn1] at bf)
   (try rw [show 1 * 3 = 3 from rfl] at bf)
   (try rw [tn1] at bg)
   (try rw [show 1 * 3 = 3 from rfl] at bg)
   (try rw [tn1] at bh)
   (try rw [show 1 * 3 = 3 from rfl] at bh)
   replace p297 := eq_true p297
   replace q297 := eq_true q297
   have p298 : 0 ≤ (2 : Int) := (by omega)
   have q298 : 2 < (t289.length : Int) := od
   obtain ⟨ad298, e298, bi, bj, bl⟩ := at_T57 (Kd.V_reads' al.out).2.2 2 p298 q298
   obtain rfl : ak = ad298 := (by injection e298)
   (try simp only [tn2, Nat.reduceMul, Nat.reduceEqDiff, Go.Addr.add, ↓reduceIte] at bi)
   (try simp only [tn2, Nat.reduceMul, Nat.reduceEqDiff, Go.Addr.add, ↓reduceIte] at bj)
   (try simp only [tn2, Nat.reduceMul, Nat.reduceEqDiff, Go.Addr.add, ↓reduceIte] at bl)
   have qi298 : (2 < t289.length) = True := eq_true (by omega)
   (try rw [tn2] at bi)
   (try rw [show 2 * 3 = 6 from rfl] at bi)
   (try rw [tn2] at bj)
   (try rw [show 2 * 3 = 6 from rfl] at bj)
   (try rw [tn2] at bl)
   (try rw [show 2 * 3 = 6 from rfl] at bl)
   replace p298 := eq_true p298
   replace q298 := eq_true q298
   refine start_ (n := 12) (S := fun w' => True) (ds := []) (bz 12 0) (by kernel_rfl) rfl rfl trivial (fun hHeld => ?_); refine with_tabW command_Answered.tab7 command_Answered.bits7 (fun HT_ HW_ => ?_)
   generalize wc.drew = w26 at al aa HB bf bg bh bi bj bl hHeld ⊢
   refine pu_ 0 (some 41) (bz 12 1) HT_.out ?_
   refine pu_ 5 (some 46) (bz 12 33) HT_.out ?_
   refine inv_at [1, 2, 3, 4, 6, 7, 8, 9, 10, 11] (fun a0_ b a w' => ∃ (ac : Nat) (m10_ : Value), a = putSel a0_ b [(1, 42, .pointer (some (ak.add 3))), (2, 43, .pointer (some ⟨(ak.add 3).block, (ak.add 3).off + 1, none⟩)), (3, 44, .int .u64 ((rd_T57 t289 1).f1)), (4, 45, .int .i64 (wrap64 ((rd_T57 t289 1).f1))), (6, 47, .pointer (some (ak.add 6))), (7, 48, .agg #[.int .i64 ((rd_T57 t289 2).f0), .int .u64 ((rd_T57 t289 2).f1), .string ((rd_T57 t289 2).f2)]), (8, 49, .int .i64 t299), (9, 50, .agg #[.int .i64 (wrap64 ((rd_T57 t289 1).f1)), .int .i64 t299, .slice none 0 0]), (10, 8, m10_)] ∧ (b 10 = false → Kd.V k57 57 w' w.heap.size (fun k_ => k_ ≠ ai) (.slice (some ak) t289.length b8) t289) ∧ (w'.heap[ai]? = some (.cells #[.int .i64 0, .int .i64 0, .slice none 0 0] 39 (0, 0))) ∧ (Below w.heap.size w w') ∧ (b 10 = true → Kd.V k57 57 w' w.heap.size (fun k_ => k_ ≠ ai ∧ k_ ≠ ac) (.slice (some ak) t289.length b8) t289) ∧ (b 10 = true → b 11 = false → w'.heap[ac]? = some (.cells #[.int .i64 0, .int .i64 0, .slice none 0 0] 39 (0, 0))) ∧ (b 10 = true → w.heap.size ≤ ac) ∧ (b 10 = true → w.heap.size ≤ ac) ∧ (b 10 = true → ai ≠ ac) ∧ (b 10 = true → ac ≠ ai) ∧ (b 11 = true → w'.heap[ac]? = some (.cells #[.int .i64 (wrap64 ((rd_T57 t289 1).f1)), .int .i64 t299, .slice none 0 0] 39 (0, 0))) ∧ (b 10 = true → (m10_ : Value) = .pointer (some ⟨ac, 0, none⟩))) HT_.out HW_.out (by kernel_rfl) (by kernel_rfl) ?_ ?_ ?_
   ·exact ⟨0, .bool false, by simp only [putSel, Bool.false_eq_true, if_false], fun _ => al.out, aa.out, HB.out, fun h_ => absurd h_ (by decide), fun h_ => absurd h_ (by decide), fun h_ => absurd h_ (by decide), fun h_ => absurd h_ (by decide), fun h_ => absurd h_ (by decide), fun h_ => absurd h_ (by decide), fun h_ => absurd h_ (by decide), fun h_ => absurd h_ (by decide)⟩
   ·skip
    clear aa HB al
    refine steps_cons ?_ ?_
    ·rintro b a w' ⟨ac, m10_, ha, aw, aj, ay, ad, av, aq, ar, ae, af, ap, ax⟩ hb_ hon hoff
     refine ⟨_, rfl, fun K hK => ?_⟩
     have e41 : a.tmps[41]? = some (.slice (some ak) t289.length b8) := by rw [ha]; exact (putSel_off rfl).trans rfl
     replace ha := Aside0.mk ha
     have aa := Aside0.mk aj
     have HB := Aside0.mk ay
     refine value_ (w1 := w') (v := .pointer (some (ak.add 3))) (by rfl) rfl ?_ ?_
     ·go_simp
      (try simp only [i64_w])
      try rfl
     refine hK.out _ _ ⟨ac, m10_, (by rw [ha.out]; exact putSel_upk 0 hb_ rfl rfl rfl), aw, aj, ay, ad, av, aq, ar, ae, af, fun h0_ => absurd ((hoff 11 (by kernel_rfl)).symm.trans h0_) (by decide), ax⟩
    refine steps_cons ?_ ?_
    ·rintro b a w' ⟨ac, m10_, ha, aw, aj, ay, ad, av, aq, ar, ae, af, ap, ax⟩ hb_ hon hoff
     refine ⟨_, rfl, fun K hK => ?_⟩
     have e42 : a.tmps[42]? = some (.pointer (some (ak.add 3))) := by rw [ha]; exact putSel_on (e := (1, 42, .pointer (some (ak.add 3)))) 0 rfl rfl (hon 1 (by kernel_rfl)) rfl
     replace ha := Aside0.mk ha
     have aa := Aside0.mk aj
     have HB := Aside0.mk ay
     refine value_ (w1 := w') (v := .pointer (some ⟨(ak.add 3).block, (ak.add 3).off + 1, none⟩)) (by rfl) rfl ?_ ?_
     ·go_simp
      (try simp only [i64_w])
      try rfl
     refine hK.out _ _ ⟨ac, m10_, (by rw [ha.out]; exact putSel_upk 1 hb_ rfl rfl rfl), aw, aj, ay, ad, av, aq, ar, ae, af, fun h0_ => absurd ((hoff 11 (by kernel_rfl)).symm.trans h0_) (by decide), ax⟩
    refine steps_cons ?_ ?_
    ·rintro b a w' ⟨ac, m10_, ha, aw, aj, ay, ad, av, aq, ar, ae, af, ap, ax⟩ hb_ hon hoff
     refine ⟨_, rfl, fun K hK => ?_⟩
     have e43 : a.tmps[43]? = some (.pointer (some ⟨(ak.add 3).block, (ak.add 3).off + 1, none⟩)) := by rw [ha]; exact putSel_on (e := (2, 43, .pointer (some ⟨(ak.add 3).block, (ak.add 3).off + 1, none⟩))) 1 rfl rfl (hon 2 (by kernel_rfl)) rfl
     replace ha := Aside0.mk ha
     have aa := Aside0.mk aj
     have HB := Aside0.mk ay
     obtain ⟨ad297_z, e297_z, hx297_0_z, hx297_1_z, hx297_2_z⟩ := at_T57 (vc aw ad) 1 (of_eq_true p297) (of_eq_true q297)
     cases e297_z
     have hs0_ : w'.cell? ⟨ak.block, ak.off + 3, none⟩ = some (.int .i64 ((rd_T57 t289 1).f0)) := hq hx297_0_z
     have hs1_ : w'.cell? ⟨ak.block, ak.off + 3 + 1, none⟩ = some (.int .u64 ((rd_T57 t289 1).f1)) := hq hx297_1_z
     have hs2_ : w'.cell? ⟨ak.block, ak.off + 3 + 2, none⟩ = some (.string ((rd_T57 t289 1).f2)) := hq hx297_2_z
     refine value_ (w1 := w') (v := .int .u64 ((rd_T57 t289 1).f1)) (by rfl) rfl ?_ ?_
     ·go_simp
      (try simp only [i64_w])
      try rfl
     refine hK.out _ _ ⟨ac, m10_, (by rw [ha.out]; exact putSel_upk 2 hb_ rfl rfl rfl), aw, aj, ay, ad, av, aq, ar, ae, af, fun h0_ => absurd ((hoff 11 (by kernel_rfl)).symm.trans h0_) (by decide), ax⟩
    refine steps_cons ?_ ?_
    ·rintro b a w' ⟨ac, m10_, ha, aw, aj, ay, ad, av, aq, ar, ae, af, ap, ax⟩ hb_ hon hoff
     refine ⟨_, rfl, fun K hK => ?_⟩
     have e44 : a.tmps[44]? = some (.int .u64 ((rd_T57 t289 1).f1)) := by rw [ha]; exact putSel_on (e := (3, 44, .int .u64 ((rd_T57 t289 1).f1))) 2 rfl rfl (hon 3 (by kernel_rfl)) rfl
     replace ha := Aside0.mk ha
     have aa := Aside0.mk aj
     have HB := Aside0.mk ay
     refine value_ (w1 := w') (v := .int .i64 (wrap64 ((rd_T57 t289 1).f1))) (by rfl) rfl ?_ ?_
     ·go_simp
      (try simp only [i64_w])
      try rfl
     refine hK.out _ _ ⟨ac, m10_, (by rw [ha.out]; exact putSel_upk 3 hb_ rfl rfl rfl), aw, aj, ay, ad, av, aq, ar, ae, af, fun h0_ => absurd ((hoff 11 (by kernel_rfl)).symm.trans h0_) (by decide), ax⟩
    refine steps_cons ?_ ?_
    ·rintro b a w' ⟨ac, m10_, ha, aw, aj, ay, ad, av, aq, ar, ae, af, ap, ax⟩ hb_ hon hoff
     refine ⟨_, rfl, fun K hK => ?_⟩
     have e46 : a.tmps[46]? = some (.slice (some ak) t289.length b8) := by rw [ha]; exact (putSel_off rfl).trans rfl
     replace ha := Aside0.mk ha
     have aa := Aside0.mk aj
     have HB := Aside0.mk ay
     refine value_ (w1 := w') (v := .pointer (some (ak.add 6))) (by rfl) rfl ?_ ?_
     ·go_simp
      (try simp only [i64_w])
      try rfl
     refine hK.out _ _ ⟨ac, m10_, (by rw [ha.out]; exact putSel_upk 4 hb_ rfl rfl rfl), aw, aj, ay, ad, av, aq, ar, ae, af, fun h0_ => absurd ((hoff 11 (by kernel_rfl)).symm.trans h0_) (by decide), ax⟩
    refine steps_cons ?_ ?_
    ·rintro b a w' ⟨ac, m10_, ha, aw, aj, ay, ad, av, aq, ar, ae, af, ap, ax⟩ hb_ hon hoff
     refine ⟨_, rfl, fun K hK => ?_⟩
     have e47 : a.tmps[47]? = some (.pointer (some (ak.add 6))) := by rw [ha]; exact putSel_on (e := (6, 47, .pointer (some (ak.add 6)))) 4 rfl rfl (hon 6 (by kernel_rfl)) rfl
     replace ha := Aside0.mk ha
     have aa := Aside0.mk aj
     have HB := Aside0.mk ay
     obtain ⟨ad298_z, e298_z, hx298_0_z, hx298_1_z, hx298_2_z⟩ := at_T57 (vc aw ad) 2 (of_eq_true p298) (of_eq_true q298)
     cases e298_z
     have hs3_ : w'.cell? ⟨ak.block, ak.off + 6, none⟩ = some (.int .i64 ((rd_T57 t289 2).f0)) := hq hx298_0_z
     have hs4_ : w'.cell? ⟨ak.block, ak.off + 6 + 1, none⟩ = some (.int .u64 ((rd_T57 t289 2).f1)) := hq hx298_1_z
     have hs5_ : w'.cell? ⟨ak.block, ak.off + 6 + 2, none⟩ = some (.string ((rd_T57 t289 2).f2)) := hq hx298_2_z
     refine value_ (w1 := w') (v := .agg #[.int .i64 ((rd_T57 t289 2).f0), .int .u64 ((rd_T57 t289 2).f1), .string ((rd_T57 t289 2).f2)]) (by rfl) rfl ?_ ?_
     ·go_simp
      (try simp only [i64_w])
      try rfl
     refine hK.out _ _ ⟨ac, m10_, (by rw [ha.out]; exact putSel_upk 5 hb_ rfl rfl rfl), aw, aj, ay, ad, av, aq, ar, ae, af, fun h0_ => absurd ((hoff 11 (by kernel_rfl)).symm.trans h0_) (by decide), ax⟩
    refine steps_cons ?_ ?_
    ·rintro b a w' ⟨ac, m10_, ha, aw, aj, ay, ad, av, aq, ar, ae, af, ap, ax⟩ hb_ hon hoff
     refine ⟨_, rfl, fun K hK => ?_⟩
     have e48 : a.tmps[48]? = some (.agg #[.int .i64 ((rd_T57 t289 2).f0), .int .u64 ((rd_T57 t289 2).f1), .string ((rd_T57 t289 2).f2)]) := by rw [ha]; exact putSel_on (e := (7, 48, .agg #[.int .i64 ((rd_T57 t289 2).f0), .int .u64 ((rd_T57 t289 2).f1), .string ((rd_T57 t289 2).f2)])) 5 rfl rfl (hon 7 (by kernel_rfl)) rfl
     replace ha := Aside0.mk ha
     have aa := Aside0.mk aj
     have HB := Aside0.mk ay
     refine goes_ Tryd.func40 (by kernel_rfl) rfl #[.agg #[.int .i64 ((rd_T57 t289 2).f0), .int .u64 ((rd_T57 t289 2).f1), .string ((rd_T57 t289 2).f2)]] (by rfl) rfl rfl (by first | (simp only [List.map_toArray, List.map_cons, List.map_nil, Act.eval, Array.getD_eq_getD_getElem?, Option.getD_some, e48]; done) | (simp only [List.map_toArray, List.map_cons, List.map_nil, Act.eval, Array.getD_eq_getD_getElem?, Option.getD_some, e48]; rfl)) ?_
     with_reducible refine (command_less.calls ((rd_T57 t289 2).f0) ((rd_T57 t289 2).f1) ((rd_T57 t289 2).f2) t299 _ A24.out).mono ?_
     rintro e w28 ⟨rfl, hb⟩
     refine ⟨_, rfl, ?_⟩
     have n1_ := Aside0.mk (nb aa.out hb)
     have n2_ := Aside0.mk (below_step bw hb)
     have z_HO_7 := fun (h0_ : b 10 = false) => (show Kd.V k57 57 w28 w.heap.size (fun k_ => k_ ≠ ai) (.slice (some ak) t289.length b8) t289 from by first | exact (Kd.V_below (by (with_reducible repeat (first | apply Kd.V_alloc | apply Kd.V_drewN | apply Kd.V_drew)); exact (aw h0_)) hb) | exact Kd.V_mono (Kd.V_below (by (with_reducible repeat (first | apply Kd.V_alloc | apply Kd.V_drewN | apply Kd.V_drew)); exact (aw h0_)) hb) (fun _ h_ => by first | trivial | exact h_ | exact h_.1))
     have z_HO_7_e10 := fun (h0_ : b 10 = true) => (show Kd.V k57 57 w28 w.heap.size (fun k_ => k_ ≠ ai ∧ k_ ≠ ac) (.slice (some ak) t289.length b8) t289 from by first | exact (Kd.V_below (by (with_reducible repeat (first | apply Kd.V_alloc | apply Kd.V_drewN | apply Kd.V_drew)); exact (ad h0_)) hb) | exact Kd.V_mono (Kd.V_below (by (with_reducible repeat (first | apply Kd.V_alloc | apply Kd.V_drewN | apply Kd.V_drew)); exact (ad h0_)) hb) (fun _ h_ => by first | trivial | exact h_ | exact h_.1))
     have z_BK300 := fun (h0_ : b 10 = true) (h1_ : b 11 = false) => (show w28.heap[ac]? = some (.cells #[.int .i64 0, .int .i64 0, .slice none 0 0] 39 (0, 0)) from by first | exact (blk_below (g := ac) (o := .cells #[.int .i64 0, .int .i64 0, .slice none 0 0] 39 (0, 0)) (by (with_reducible repeat (first | refine blk_drewN ?_ _ | refine blk_drew ?_ | refine blk_alloc ?_ _)); exact (av h0_ h1_)) hb))
     clear aa
     clear HB
     have aa := n1_
     have HB := n2_
     clear n1_ n2_
     (try clear hb)
     (try clear hb2)
     (try clear hk)
     (try clear hi)
     refine hK.out _ _ ⟨ac, m10_, (by rw [ha.out]; exact putSel_upk 6 hb_ rfl rfl rfl), z_HO_7, (bk aa.out), bw, z_HO_7_e10, z_BK300, aq, ar, ae, af, fun h0_ => absurd ((hoff 11 (by kernel_rfl)).symm.trans h0_) (by decide), ax⟩
    refine steps_cons ?_ ?_
    ·rintro b a w' ⟨ac, m10_, ha, aw, aj, ay, ad, av, aq, ar, ae, af, ap, ax⟩ hb_ hon hoff
     refine ⟨_, rfl, fun K hK => ?_⟩
     have e45 : a.tmps[45]? = some (.int .i64 (wrap64 ((rd_T57 t289 1).f1))) := by rw [ha]; exact putSel_on (e := (4, 45, .int .i64 (wrap64 ((rd_T57 t289 1).f1)))) 3 rfl rfl (hon 4 (by kernel_rfl)) rfl
     have e49 : a.tmps[49]? = some (.int .i64 t299) := by rw [ha]; exact putSel_on (e := (8, 49, .int .i64 t299)) 6 rfl rfl (hon 8 (by kernel_rfl)) rfl
     replace ha := Aside0.mk ha
     have aa := Aside0.mk aj
     have HB := Aside0.mk ay
     refine value_ (w1 := w') (v := .agg #[.int .i64 (wrap64 ((rd_T57 t289 1).f1)), .int .i64 t299, .slice none 0 0]) (by rfl) rfl ?_ ?_
     ·go_simp
      (try simp only [i64_w])
      try rfl
     refine hK.out _ _ ⟨ac, m10_, (by rw [ha.out]; exact putSel_upk 7 hb_ rfl rfl rfl), aw, aj, ay, ad, av, aq, ar, ae, af, fun h0_ => absurd ((hoff 11 (by kernel_rfl)).symm.trans h0_) (by decide), ax⟩
    refine steps_cons ?_ ?_
    ·rintro b a w' ⟨ac, m10_, ha, aw, aj, ay, ad, av, aq, ar, ae, af, ap, ax⟩ hb_ hon hoff
     refine ⟨_, rfl, fun K hK => ?_⟩
     replace ha := Aside0.mk ha
     have al := Aside0.mk (aw hb_)
     have aa := Aside0.mk aj
     have HB := Aside0.mk ay
     refine box_step ?hg (N := 8) ?hd (cs := #[.int .i64 0, .int .i64 0, .slice none 0 0]) (t := 39) ?hr ?_; (case hd => rfl); (case hg => rfl); (case hr => first | (go_simp; done) | (go_simp; rfl))
     intro ac hg w28 hbox hb
     replace al := Aside0.mk (Kd.V_below (Kd.V_elderB (v_ al.out) ac (Nat.le_of_eq hg.symm)) hb)
     have ag := Aside0.mk (hbox)
     have cd := Aside0.mk ((g1 hg bw : w.heap.size ≤ ac))
     have ce := Aside0.mk ((g1 hg bw : w.heap.size ≤ ac))
     replace HB := Aside0.mk (below_step bw hb)
     have ao := Aside0.mk ((n1 hg aa.out : ai ≠ ac))
     have ah := Aside0.mk ((n2 hg aa.out : ac ≠ ai))
     replace aa := Aside0.mk (nb aa.out hb)
     clear hb hbox hg
     refine hK.out _ _ ⟨ac, (.pointer (some ⟨ac, 0, none⟩)), (by rw [ha.out]; exact putSel_upk 8 hb_ rfl rfl rfl), fun h0_ => absurd ((up_self b 10).symm.trans h0_) (by decide), (bk aa.out), bw, fun _ => (v_ al.out), fun _ _ => (bk ag.out), fun _ => cd.out, fun _ => ce.out, fun _ => ao.out, fun _ => ah.out, fun h0_ => absurd ((hoff 11 (by kernel_rfl)).symm.trans h0_) (by decide), fun _ => rfl⟩
    refine steps_cons ?_ ?_
    ·rintro b a w' ⟨ac, m10_, ha, aw, aj, ay, ad, av, aq, ar, ae, af, ap, ax⟩ hb_ hon hoff
     refine ⟨_, rfl, fun K hK => ?_⟩
     have e8 : a.tmps[8]? = some (m10_) := by rw [ha]; exact putSel_on (e := (10, 8, m10_)) 8 rfl rfl (hon 10 (by kernel_rfl)) rfl
     rw [ax (hon 10 (by kernel_rfl))] at e8
     have e50 : a.tmps[50]? = some (.agg #[.int .i64 (wrap64 ((rd_T57 t289 1).f1)), .int .i64 t299, .slice none 0 0]) := by rw [ha]; exact putSel_on (e := (9, 50, .agg #[.int .i64 (wrap64 ((rd_T57 t289 1).f1)), .int .i64 t299, .slice none 0 0])) 7 rfl rfl (hon 9 (by kernel_rfl)) rfl
     replace ha := Aside0.mk ha
     have aa := Aside0.mk aj
     have HB := Aside0.mk ay
     have al := Aside0.mk (ad (hon 10 (by kernel_rfl)))
     have ag := Aside0.mk (av (hon 10 (by kernel_rfl)) hb_)
     have cd := Aside0.mk (aq (hon 10 (by kernel_rfl)))
     have ce := Aside0.mk (ar (hon 10 (by kernel_rfl)))
     have ao := Aside0.mk (ae (hon 10 (by kernel_rfl)))
     have ah := Aside0.mk (af (hon 10 (by kernel_rfl)))
     have hs31 : w'.cell? ⟨ac, 0, none⟩ = some (.int .i64 0) := (blk_cell ag.out 0).trans rfl
     have hfs31 := blk_frozen ag.out 0
     have hns31_0 := ao.out
     have hms31_0 := ah.out
     have hs32 : w'.cell? ⟨ac, 1, none⟩ = some (.int .i64 0) := (blk_cell ag.out 1).trans rfl
     have hfs32 := blk_frozen ag.out 1
     have hns32_0 := ao.out
     have hms32_0 := ah.out
     have hs33 : w'.cell? ⟨ac, 2, none⟩ = some (.slice none 0 0) := (blk_cell ag.out 2).trans rfl
     have hfs33 := blk_frozen ag.out 2
     have hns33_0 := ao.out
     have hms33_0 := ah.out
     refine skip_ (w1 := ?_) (by rfl) rfl ?_ ?_
     rotate_left
     ·go_simp
      rfl
     refine hK.out _ _ ⟨ac, m10_, (by rw [ha.out]; exact putSel_none (v := undef) rfl), fun h0_ => absurd ((hon 10 (by kernel_rfl)).symm.trans h0_) (by decide), (by (with_reducible repeat (first | refine blk_drewN ?_ _ | refine blk_drew ?_ | refine blk_alloc ?_ _ | refine blk_far ?_ ao.out _)); exact aa.out), bw, fun _ => (by (with_reducible repeat (first | apply Kd.V_alloc | apply Kd.V_drewN | apply Kd.V_drew)); exact Kd.V_mono (Kd.V_far (p := ⟨ac, 2, none⟩) (Kd.V_far (p := ⟨ac, 1, none⟩) (Kd.V_far (p := ⟨ac, 0, none⟩) (Kd.V_mono al.out (fun k_ hk => (⟨hk, hk.2⟩ : _ ∧ k_ ≠ ac))) (fun _ hk => hk.2) (.int .i64 (wrap64 ((rd_T57 t289 1).f1)))) (fun _ hk => hk.2) (.int .i64 t299)) (fun _ hk => hk.2) (.slice none 0 0)) (fun _ hk => ⟨hk.1.1, hk.1.2⟩)), fun _ h1_ => absurd ((up_self b 11).symm.trans h1_) (by decide), fun _ => cd.out, fun _ => ce.out, fun _ => ao.out, fun _ => ah.out, fun _ => (by (with_reducible repeat (first | refine blk_drewN ?_ _ | refine blk_drew ?_ | refine blk_alloc ?_ _)); refine blk_put (cs := #[.int .i64 (wrap64 ((rd_T57 t289 1).f1)), .int .i64 t299, .slice none 0 0]) ?_ 2 _ rfl; (with_reducible repeat (first | refine blk_drewN ?_ _ | refine blk_drew ?_ | refine blk_alloc ?_ _)); refine blk_put (cs := #[.int .i64 (wrap64 ((rd_T57 t289 1).f1)), .int .i64 0, .slice none 0 0]) ?_ 1 _ rfl; (with_reducible repeat (first | refine blk_drewN ?_ _ | refine blk_drew ?_ | refine blk_alloc ?_ _)); refine blk_put (cs := #[.int .i64 0, .int .i64 0, .slice none 0 0]) ?_ 0 _ rfl; (with_reducible repeat (first | refine blk_drewN ?_ _ | refine blk_drew ?_ | refine blk_alloc ?_ _)); exact ag.out), ax⟩
    exact steps_nil
   rintro b a w33 hall ⟨ac, m10_, ha, aw, aj, ay, ad, av, aq, ar, ae, af, ap, ax⟩
   clear aa HB al
   have hb1_ := hall 1 (by kernel_rfl)
   have hb2_ := hall 2 (by kernel_rfl)
   have hb3_ := hall 3 (by kernel_rfl)
   have hb4_ := hall 4 (by kernel_rfl)
   have hb6_ := hall 6 (by kernel_rfl)
   have hb7_ := hall 7 (by kernel_rfl)
   have hb8_ := hall 8 (by kernel_rfl)
   have hb9_ := hall 9 (by kernel_rfl)
   have hb10_ := hall 10 (by kernel_rfl)
   have hb11_ := hall 11 (by kernel_rfl)
   subst ha
   obtain rfl := ax hb10_
   simp only [putSel, hb1_, hb2_, hb3_, hb4_, hb6_, hb7_, hb8_, hb9_, hb10_, hb11_, if_true, Act.put, sl1, sl2, sl3]
   clear aw
   have aa := Aside0.mk aj
   clear aj
   have HB := Aside0.mk ay
   clear ay
   have al := Aside0.mk (ad hb10_)
   clear ad
   clear av
   have cd := Aside0.mk (aq hb10_)
   clear aq
   have ce := Aside0.mk (ar hb10_)
   clear ar
   have ao := Aside0.mk (ae hb10_)
   clear ae
   have ah := Aside0.mk (af hb10_)
   clear af
   have ag := Aside0.mk (ap hb11_)
   clear ap
   clear hall hb1_ hb2_ hb3_ hb4_ hb6_ hb7_ hb8_ hb9_ hb10_ hb11_
   have q34 : (3 : Int) ≤ ((t289.length : Int) : Int) := od
   obtain ⟨i034, cr, _, ct, _⟩ := info_parts info57
   have b9 : t289.length ≤ b8 := (Kd.V_reads' al.out).2.1
   have c0 : Kd.F k57 _ _ (some ak) t289.length t289 := (Kd.V_at (base := w.heap.size) al.out).2.2
   have hcut34 := cut_from (P := Tryd.prog) 60 57 .i64 Tryd.underlying60 cr 3 ct (some ak) t289.length b8 3 (by omega) q34
   have ch := Kd.F_cut (m := (3 : Int).toNat) (c := b8) c0 (by omega) b9
   obtain ⟨A34, hA34⟩ : ∃ A1, A1 = (if b8 = (3 : Int).toNat then (some ak) else ((some ak) : Option Addr).map (·.add ((3 : Int).toNat * 3))) := ⟨_, rfl⟩
   obtain ⟨c34, hc34⟩ : ∃ c1, c1 = b8 - (3 : Int).toNat := ⟨_, rfl⟩
   have hy34 : y301.length = t289.length - (3 : Int).toNat := (by rw [Ny301.out, List.length_drop] <;> omega)
   rw [show (t289).drop (3 : Int).toNat = y301 from Ny301.out.symm] at ch
   replace ch : Kd.F k57 _ _ A34 y301.length y301 := (by rw [hA34]; exact ch)
   rw [← hy34, ← hA34, ← hc34] at hcut34
   have HO305 := Aside0.mk (show Kd.V k57 57 _ w.heap.size _ (.slice A34 y301.length c34) y301 from Kd.V_mk (by rw [hy34, hc34]; exact Nat.sub_le_sub_right b9 _) ch)
   have HC305 := Aside0.mk (show y301.length ≤ c34 from by rw [hy34, hc34]; exact Nat.sub_le_sub_right b9 _)
   clear ch c0 b9 cr ct hc34
   have KY34 := Aside0.mk hy34
   have KA34 := Aside0.mk hA34
   clear hy34 hA34
   replace q34 := eq_true q34
   try go_wp2
   go_loopg [9] kj4 (fun kq v9 w' => ∃ (x9_2 : List (S57)) (x287000_2 : Int) (x287001_2 : Int) (x301002_2 : List (S48)) (u301002 : Value), Aside0 (command_Answered.l0 kq t289 x9_2 (wrap64 ((rd_T57 t289 1).f1)) t299 x301002_2 = some (r1, r2, r3, r4, r5)) ∧ Aside0 (kq ≤ kj4) ∧ Aside0 (Kd.V k57 57 w' w.heap.size (fun k_ => some k_ ≠ (u301002 : Value).ownBlock ∧ k_ ≠ ai ∧ k_ ≠ ac) (.slice (some ak) t289.length b8) t289) ∧ Aside0 (Kd.V k57 57 w' w.heap.size (fun k_ => some k_ ≠ (u301002 : Value).ownBlock ∧ k_ ≠ ai ∧ k_ ≠ ac) v9 x9_2) ∧ Aside0 (Kd.R k48 48 w' w.heap.size (fun _ => True) u301002 x301002_2) ∧ Aside0 (w'.heap[ai]? = some (.cells #[.int .i64 x287000_2, .int .i64 x287001_2, (.slice none 0 0)] 39 (0, 0))) ∧ Aside0 (w'.heap[ac]? = some (.cells #[.int .i64 (wrap64 ((rd_T57 t289 1).f1)), .int .i64 t299, u301002] 39 (0, 0))) ∧ Aside0 (Below w.heap.size w w'))
   case atStart => exact ⟨(y301), (0), (0), (([] : List (S48))), (.slice none 0 0), H', ⟨Nat.le_refl _⟩, ⟨by (with_reducible repeat (first | apply Kd.V_alloc | apply Kd.V_drewN | apply Kd.V_drew)); exact Kd.V_mono al.out (fun _ hk => ⟨(by simp [Value.ownBlock]), ⟨hk.1, hk.2⟩⟩)⟩, ⟨by (with_reducible repeat (first | apply Kd.V_alloc | apply Kd.V_drewN | apply Kd.V_drew)); exact Kd.V_mono HO305.out (fun _ hk => ⟨(by simp [Value.ownBlock]), ⟨hk.1, hk.2⟩⟩)⟩, ⟨by first | exact Kd.R_nil _ _ _ _ _ | exact Kd.N_nil _ _ _ _ _ | exact Kd.V_nil _ _ _ _ _ | exact Kd.Q_nil _ _ _ _ _ | exact Kd.S_nil _ _ _ _ _⟩, ⟨by (with_reducible repeat (first | refine blk_drewN ?_ _ | refine blk_drew ?_ | refine blk_alloc ?_ _)); exact aa.out⟩, ⟨by (with_reducible repeat (first | refine blk_drewN ?_ _ | refine blk_drew ?_ | refine blk_alloc ?_ _)); exact ag.out⟩, ⟨bw⟩⟩
   case round =>
    clear H'
    try clear c1
    try clear c2
    try clear p2
    try clear q2
    try clear hx2
    try clear qi2
    try clear c3
    try clear cw
    try clear cx
    try clear q3
    try clear c4
    try clear p6
    try clear c9
    try clear cc
    try clear cy
    try clear c10
    try clear cm
    try clear cn
    try clear c12
    try clear c13
    try clear co
    try clear cp
    try clear c20
    try clear c22
    try clear c22b0
    try clear c22b1
    try clear c23
    try clear c23b0
    try clear c23b1
    try clear c25
    try clear c25b0
    try clear c25b1
    try clear c27
    try clear p29
    try clear q29
    try clear hx29
    try clear qi29
    try clear c34
    try clear q34
    try clear hcz21_0 hcz21_1 hcz21_2
    try clear hfz21_0 hfz21_1 hfz21_2
    try clear a4
    try clear a5
    try clear a6
    try clear bc
    try clear bd
    try clear be
    try clear bf
    try clear bg
    try clear bh
    try clear bi
    try clear bj
    try clear bl
    try clear p2
    try clear p293
    try clear p295
    try clear p297
    try clear p298
    try clear q2
    try clear q293
    try clear q295
    try clear q297
    try clear q298
    try clear q34
    obtain ⟨x9_2, x287000_2, x287001_2, x301002_2, u301002, HA, HK2, al, au, ab, aa, ag, HB⟩ := hrel
    cases gk with
    | zero => exact absurd HA.out (by simp [command_Answered.l0])
    | succ k2 =>
     have H := HA.out
     clear HA
     simp only [command_Answered.l0] at H
     by_cases c35 : (x9_2.length : Int) > 0; rotate_left
     ·rw [if_neg c35] at H
      have c35b0 : decide (0 < (x9_2.length : Int)) = false := decide_eq_false c35
      have c35b1 : decide (0 < x9_2.length) = false := decide_eq_false (by omega)
      clear c35
      replace H := Option.bind_eq_some_iff.mp H
      obtain ⟨t306, A650, H⟩ := H
      have A65 := Aside0.mk A650
      clear A650
      by_cases c66 : t306 = true; rotate_left
      ·replace c66 := Bool.eq_false_iff.mpr c66
       subst c66
       have H1 : (some (0, 0, 0, ([] : List (S48)), 10)) = some (r1, r2, r3, r4, r5) := by rw [if_neg (show ¬ (false = true) by decide)] at H; exact H
       clear H
       have H := H1
       clear H1
       simp only [Option.some.injEq, Prod.mk.injEq] at H
       obtain ⟨rfl, rfl, rfl, rfl, rfl⟩ := H
       obtain ⟨Ao77, co77, eo77⟩ := Kd.V_slice au.out
       subst eo77
       have hnb78 := ah.out
       have hnc78 := ao.out
       obtain ⟨hcz79_0, hcz79_1, hcz79_2, hfz79_0, hfz79_1, hfz79_2⟩ := bx3 ag.out
       obtain ⟨Ao80, co80, eo80⟩ := Kd.R_slice ab.out
       subst eo80
       go_wp2_with (first | ((with_reducible refine gate_callee (f := 51) rfl ?_); refine goesL_ (some 100) rfl rfl Tryd.func51 (by kernel_rfl) rfl #[.agg #[.int .i64 (wrap64 ((rd_T57 t289 1).f1)), .int .i64 t299, .slice Ao80 x301002_2.length co80]] rfl am ?_; (with_reducible refine (command_told.calls k2 (wrap64 ((rd_T57 t289 1).f1)) t299 _ _ x301002_2 false _ ?side1 ?side2 A65.out).mono ?_); (case side1 => repeat (first | exact (Kd.R_reads' ab.out).2.2 | (with_reducible refine Kd.C_alloc ?_ _) | (with_reducible refine Kd.C_drewN ?_ _) | (with_reducible refine Kd.C_drew ?_))); (case side2 => exact (Kd.R_reads' ab.out).2.1); rintro e w81 ⟨rfl, hb⟩; refine ⟨_, rfl, ?_⟩; replace al := Aside0.mk (Kd.V_below (v_ al.out) hb); replace au := Aside0.mk (Kd.V_below (v_ au.out) hb); replace ab := Aside0.mk (Kd.R_below (r_ ab.out) hb); replace aa := Aside0.mk (nb aa.out hb); replace ag := Aside0.mk (nb ag.out hb); replace HB := Aside0.mk (below_step bw hb); (try clear hb); obtain ⟨hcz82_0, hcz82_1, hcz82_2, hfz82_0, hfz82_1, hfz82_2⟩ := bx3 aa.out))
       refine bodyPost_ret (results_list (rs := [.tmp 2, .cell 3 39, .tmp 4]) rfl (by simp) (.tmp (.cell ai 39 #[.int .i64 0, .int .i64 0, .slice none 0 0] (0, 0) _ rfl (by (with_reducible repeat (first | refine blk_drewN ?_ _ | refine blk_drew ?_ | refine blk_alloc ?_ _)); refine blk_put (cs := #[.int .i64 0, .int .i64 0, .slice none 0 0]) ?_ 2 _ rfl; (with_reducible repeat (first | refine blk_drewN ?_ _ | refine blk_drew ?_ | refine blk_alloc ?_ _)); refine blk_put (cs := #[.int .i64 0, .int .i64 x287001_2, .slice none 0 0]) ?_ 1 _ rfl; (with_reducible repeat (first | refine blk_drewN ?_ _ | refine blk_drew ?_ | refine blk_alloc ?_ _)); refine blk_put (cs := #[.int .i64 x287000_2, .int .i64 x287001_2, .slice none 0 0]) ?_ 0 _ rfl; (with_reducible repeat (first | refine blk_drewN ?_ _ | refine blk_drew ?_ | refine blk_alloc ?_ _)); exact aa.out) Tryd.underlying39 rfl (by kernel_rfl) (.tmp .nil)))) rfl ?_
       exact ⟨_, er, by first | exact Kd.R_nil _ _ _ _ _ | exact Kd.N_nil _ _ _ _ _ | exact Kd.V_nil _ _ _ _ _ | exact Kd.Q_nil _ _ _ _ _ | exact Kd.S_nil _ _ _ _ _, bw⟩
      subst c66
      have H1 := H
      rw [if_pos rfl] at H1
      clear H
      have H := H1
      clear H1
      obtain ⟨c67, H⟩ := its H
      have c67b0 : decide (0 < (t289.length : Int)) = true := decide_eq_true c67
      have c67b1 : decide (0 < t289.length) = true := decide_eq_true (by omega)
      clear c67
      simp only [Option.some.injEq, Prod.mk.injEq] at H
      obtain ⟨rfl, rfl, rfl, rfl, rfl⟩ := H
      obtain ⟨Ao68, co68, eo68⟩ := Kd.V_slice au.out
      subst eo68
      have hnb69 := ah.out
      have hnc69 := ao.out
      obtain ⟨hcz70_0, hcz70_1, hcz70_2, hfz70_0, hfz70_1, hfz70_2⟩ := bx3 ag.out
      obtain ⟨ck, cl, eo71⟩ := Kd.R_slice ab.out
      subst eo71
      try go_wp2_with (first | ((with_reducible refine gate_callee (f := 51) rfl ?_); refine goesL_ (some 100) rfl rfl Tryd.func51 (by kernel_rfl) rfl #[.agg #[.int .i64 (wrap64 ((rd_T57 t289 1).f1)), .int .i64 t299, .slice ck x301002_2.length cl]] rfl am ?_; (with_reducible refine (command_told.calls k2 (wrap64 ((rd_T57 t289 1).f1)) t299 _ _ x301002_2 true _ ?side1 ?side2 A65.out).mono ?_); (case side1 => repeat (first | exact (Kd.R_reads' ab.out).2.2 | (with_reducible refine Kd.C_alloc ?_ _) | (with_reducible refine Kd.C_drewN ?_ _) | (with_reducible refine Kd.C_drew ?_))); (case side2 => exact (Kd.R_reads' ab.out).2.1); rintro e w72 ⟨rfl, hb⟩; refine ⟨_, rfl, ?_⟩; replace al := Aside0.mk (Kd.V_below (v_ al.out) hb); replace au := Aside0.mk (Kd.V_below (v_ au.out) hb); replace ab := Aside0.mk (Kd.R_below (r_ ab.out) hb); replace aa := Aside0.mk (nb aa.out hb); replace ag := Aside0.mk (nb ag.out hb); replace HB := Aside0.mk (below_step bw hb); (try clear hb)))
      replace al := Aside0.mk (Kd.V_drew al.out)
      replace au := Aside0.mk (Kd.V_drew au.out)
      replace ab := Aside0.mk (Kd.R_drew ab.out)
      replace aa := Aside0.mk (blk_drew aa.out)
      replace ag := Aside0.mk (blk_drew ag.out)
      replace HB := Aside0.mk (below_drew1 HB.out)
      have p307 : 0 ≤ (0 : Int) := (by omega)
      have q307 : 0 < (t289.length : Int) := od
      obtain ⟨ad307, e307, b5, b6, b7⟩ := at_T57 (Kd.V_reads' al.out).2.2 0 p307 q307
      obtain rfl : ak = ad307 := (by injection e307)
      have qi307 : (0 < t289.length) = True := eq_true (by omega)
      (try rw [tn0] at b5)
      (try rw [show 0 * 3 = 0 from rfl] at b5)
      (try rw [Addr.add_zero'] at b5)
      (try rw [tn0] at b6)
      (try rw [show 0 * 3 = 0 from rfl] at b6)
      (try rw [Addr.add_zero'] at b6)
      (try rw [tn0] at b7)
      (try rw [show 0 * 3 = 0 from rfl] at b7)
      (try rw [Addr.add_zero'] at b7)
      replace p307 := eq_true p307
      replace q307 := eq_true q307
      refine start_ (n := 9) (S := fun w' => w'.cell? ⟨ac, 0, none⟩ = some (.int .i64 (wrap64 ((rd_T57 t289 1).f1))) ∧ w'.cell? ⟨ac, 1, none⟩ = some (.int .i64 t299) ∧ w'.cell? ⟨ac, 2, none⟩ = some (.slice ck x301002_2.length cl) ∧ w'.cell? ak = some (.int .i64 ((rd_T57 t289 0).f0)) ∧ w'.cell? ⟨ak.block, ak.off + 1, none⟩ = some (.int .u64 ((rd_T57 t289 0).f1)) ∧ w'.cell? ⟨ak.block, ak.off + 2, none⟩ = some (.string ((rd_T57 t289 0).f2))) (ds := []) (bz 9 0) (by kernel_rfl) rfl rfl ⟨(blk_cell ag.out 0).trans rfl, (blk_cell ag.out 1).trans rfl, (blk_cell ag.out 2).trans rfl, b5, b6, b7⟩ (fun hHeld => ?_); refine with_tabW command_Answered.tab16 command_Answered.bits16 (fun HT_ HW_ => ?_)
      generalize w72.drew = w73 at al au ab aa ag HB b5 b6 b7 hHeld ⊢
      refine pu_ 0 (some 103) (bz 9 1) HT_.out ?_
      refine pu_ 1 (some 104) (bz 9 3) HT_.out ?_
      refine pu_ 2 (some 105) (bz 9 7) HT_.out ?_
      refine take_ (i := 3) (N := some 106) (v := ?_) (a' := ?_) (bz 9 15) rfl rfl (take_ofW HT_.out HW_.out (by kernel_rfl)) (fun _ _ _ h => h) (Or.inl ⟨by rfl, ?_⟩) hHeld ?_ ?_
      rotate_left
      ·rintro w' ⟨s0, s1, s2, s3, s4, s5⟩
       go_simp
       with_reducible rfl
      rotate_left
      ·simp only [Act.put, sl1, sl2, sl3, i64_w, i32_w]
       rfl
      refine pu_ 4 (some 107) (bz 9 31) HT_.out ?_
      refine pu_ 6 (some 2) (bz 9 95) HT_.out ?_
      refine take_ (i := 5) (N := some 108) (v := ?_) (a' := ?_) (bz 9 127) rfl rfl (take_ofW HT_.out HW_.out (by kernel_rfl)) (fun _ _ _ h => h) (Or.inl ⟨by rfl, ?_⟩) hHeld ?_ ?_
      rotate_left
      ·rintro w' ⟨s0, s1, s2, s3, s4, s5⟩
       go_simp
       with_reducible rfl
      rotate_left
      ·simp only [Act.put, sl1, sl2, sl3, i64_w, i32_w]
       rfl
      refine one_ (i := 7) (N := none) (bz 9 255) rfl rfl (one_of HT_.out (by kernel_rfl)) (by decide) (fun K hK => ?_)
      have hs74 : w73.cell? ⟨ai, 0, none⟩ = some (.int .i64 x287000_2) := (blk_cell aa.out 0).trans rfl
      have hfs74 := blk_frozen aa.out 0
      have hns74_1 := ah.out
      have hms74_1 := ao.out
      have hs75 : w73.cell? ⟨ai, 1, none⟩ = some (.int .i64 x287001_2) := (blk_cell aa.out 1).trans rfl
      have hfs75 := blk_frozen aa.out 1
      have hns75_1 := ah.out
      have hms75_1 := ao.out
      have hs76 : w73.cell? ⟨ai, 2, none⟩ = some (.slice none 0 0) := (blk_cell aa.out 2).trans rfl
      have hfs76 := blk_frozen aa.out 2
      have hns76_1 := ah.out
      have hms76_1 := ao.out
      refine skip_ (w1 := ?_) (by rfl) rfl ?_ ?_
      rotate_left
      ·go_simp
       rfl
      refine hK.out _ _ ⟨((cell_far (p := ⟨ai, _, none⟩) ah.out _).trans (((cell_far (p := ⟨ai, _, none⟩) ah.out _).trans (((cell_far (p := ⟨ai, _, none⟩) ah.out _).trans (hHeld.1)))))), ((cell_far (p := ⟨ai, _, none⟩) ah.out _).trans (((cell_far (p := ⟨ai, _, none⟩) ah.out _).trans (((cell_far (p := ⟨ai, _, none⟩) ah.out _).trans (hHeld.2.1)))))), ((cell_far (p := ⟨ai, _, none⟩) ah.out _).trans (((cell_far (p := ⟨ai, _, none⟩) ah.out _).trans (((cell_far (p := ⟨ai, _, none⟩) ah.out _).trans (hHeld.2.2.1)))))), (by (iterate 3 refine ((cf (p := ⟨ai, _, none⟩) (Kd.own_blk (Kd.V_away al.out (fun _ hk => hk.2.1))))).trans ?_); exact hHeld.2.2.2.1), (by (iterate 3 refine ((cf (p := ⟨ai, _, none⟩) (Kd.own_blk (Kd.V_away al.out (fun _ hk => hk.2.1))))).trans ?_); exact hHeld.2.2.2.2.1), (by (iterate 3 refine ((cf (p := ⟨ai, _, none⟩) (Kd.own_blk (Kd.V_away al.out (fun _ hk => hk.2.1))))).trans ?_); exact hHeld.2.2.2.2.2)⟩ (fun hHeld => ?_)
      clear hK K
      refine pu_ 8 (some 4) (bz 9 511) HT_.out ?_
      refine done_ (done_of HT_.out (by kernel_rfl)) ?_
      try go_wp2
      refine bodyPost_ret (results_list (rs := [.tmp 2, .cell 3 39, .tmp 4]) rfl (by simp) (.tmp (.cell ai 39 #[.int .i64 (wrap64 ((rd_T57 t289 1).f1)), .int .i64 t299, .slice ck x301002_2.length cl] (0, 0) _ rfl (by (with_reducible repeat (first | refine blk_drewN ?_ _ | refine blk_drew ?_ | refine blk_alloc ?_ _)); refine blk_put (cs := #[.int .i64 (wrap64 ((rd_T57 t289 1).f1)), .int .i64 t299, .slice none 0 0]) ?_ 2 _ rfl; (with_reducible repeat (first | refine blk_drewN ?_ _ | refine blk_drew ?_ | refine blk_alloc ?_ _)); refine blk_put (cs := #[.int .i64 (wrap64 ((rd_T57 t289 1).f1)), .int .i64 x287001_2, .slice none 0 0]) ?_ 1 _ rfl; (with_reducible repeat (first | refine blk_drewN ?_ _ | refine blk_drew ?_ | refine blk_alloc ?_ _)); refine blk_put (cs := #[.int .i64 x287000_2, .int .i64 x287001_2, .slice none 0 0]) ?_ 0 _ rfl; (with_reducible repeat (first | refine blk_drewN ?_ _ | refine blk_drew ?_ | refine blk_alloc ?_ _)); exact aa.out) Tryd.underlying39 rfl (by kernel_rfl) (.tmp .nil)))) rfl ?_
      exact ⟨_, er, by (with_reducible repeat (first | apply Kd.R_alloc | apply Kd.R_drewN | apply Kd.R_drew)); exact Kd.R_mono (Kd.R_far (p := ⟨ai, 2, none⟩) (Kd.R_far (p := ⟨ai, 1, none⟩) (Kd.R_far (p := ⟨ai, 0, none⟩) (Kd.R_types ab.out aa.out (by decide)) (fun _ hk => hk.2) (.int .i64 (wrap64 ((rd_T57 t289 1).f1)))) (fun _ hk => hk.2) (.int .i64 t299)) (fun _ hk => hk.2) (.slice ck x301002_2.length cl)) (fun _ hk => trivial), bw⟩
     rw [if_pos c35] at H
     have c35b0 : decide (0 < (x9_2.length : Int)) = true := decide_eq_true c35
     have c35b1 : decide (0 < x9_2.length) = true := decide_eq_true (by omega)
     clear c35
     obtain ⟨c36, H⟩ := its H
     have c36b0 : decide (0 < (x9_2.length : Int)) = true := decide_eq_true c36
     have c36b1 : decide (0 < x9_2.length) = true := decide_eq_true (by omega)
     clear c36
     replace H := Option.bind_eq_some_iff.mp H
     obtain ⟨t309, A370, H⟩ := H
     have A37 := Aside0.mk A370
     clear A370
     by_cases c38 : t309 = true; rotate_left
     ·replace c38 := Bool.eq_false_iff.mpr c38
      subst c38
      have H1 : (some (0, 0, 0, ([] : List (S48)), 10)) = some (r1, r2, r3, r4, r5) := by rw [if_neg (show ¬ (false = true) by decide)] at H; exact H
      clear H
      have H := H1
      clear H1
      simp only [Option.some.injEq, Prod.mk.injEq] at H
      obtain ⟨rfl, rfl, rfl, rfl, rfl⟩ := H
      obtain ⟨Ao61, co61, eo61⟩ := Kd.V_slice au.out
      subst eo61
      have p308 : 0 ≤ (0 : Int) := (by omega)
      have q308 : 0 < (x9_2.length : Int) := od
      obtain ⟨an, e308, az, a1, a2⟩ := at_T57 (Kd.V_reads' au.out).2.2 0 p308 q308
      cases e308
      have qi308 : (0 < x9_2.length) = True := eq_true (by omega)
      (try rw [tn0] at az)
      (try rw [show 0 * 3 = 0 from rfl] at az)
      (try rw [Addr.add_zero'] at az)
      (try rw [tn0] at a1)
      (try rw [show 0 * 3 = 0 from rfl] at a1)
      (try rw [Addr.add_zero'] at a1)
      (try rw [tn0] at a2)
      (try rw [show 0 * 3 = 0 from rfl] at a2)
      (try rw [Addr.add_zero'] at a2)
      replace p308 := eq_true p308
      replace q308 := eq_true q308
      go_wp2_with (first | ((with_reducible refine gate_callee (f := 38) rfl ?_); refine goesL_ (some 61) rfl rfl Tryd.func38 (by kernel_rfl) rfl #[.agg #[.int .i64 ((rd_T57 x9_2 0).f0), .int .u64 ((rd_T57 x9_2 0).f1), .string ((rd_T57 x9_2 0).f2)]] rfl am ?_; (with_reducible refine (command_fits.calls ((rd_T57 x9_2 0).f0) ((rd_T57 x9_2 0).f1) ((rd_T57 x9_2 0).f2) false _ A37.out).mono ?_); rintro e w62 ⟨rfl, hb⟩; refine ⟨_, rfl, ?_⟩; replace al := Aside0.mk (Kd.V_below (v_ al.out) hb); replace au := Aside0.mk (Kd.V_below (v_ au.out) hb); replace ab := Aside0.mk (Kd.R_below (r_ ab.out) hb); replace aa := Aside0.mk (nb aa.out hb); replace ag := Aside0.mk (nb ag.out hb); replace HB := Aside0.mk (below_step bw hb); (try clear hb); have hnb63 := ao.out; have hnc63 := ah.out; obtain ⟨hcz64_0, hcz64_1, hcz64_2, hfz64_0, hfz64_1, hfz64_2⟩ := bx3 aa.out))
      refine bodyPost_ret (results_list (rs := [.tmp 2, .cell 3 39, .tmp 4]) rfl (by simp) (.tmp (.cell ai 39 #[.int .i64 0, .int .i64 0, .slice none 0 0] (0, 0) _ rfl (by (with_reducible repeat (first | refine blk_drewN ?_ _ | refine blk_drew ?_ | refine blk_alloc ?_ _)); refine blk_put (cs := #[.int .i64 0, .int .i64 0, .slice none 0 0]) ?_ 2 _ rfl; (with_reducible repeat (first | refine blk_drewN ?_ _ | refine blk_drew ?_ | refine blk_alloc ?_ _)); refine blk_put (cs := #[.int .i64 0, .int .i64 x287001_2, .slice none 0 0]) ?_ 1 _ rfl; (with_reducible repeat (first | refine blk_drewN ?_ _ | refine blk_drew ?_ | refine blk_alloc ?_ _)); refine blk_put (cs := #[.int .i64 x287000_2, .int .i64 x287001_2, .slice none 0 0]) ?_ 0 _ rfl; (with_reducible repeat (first | refine blk_drewN ?_ _ | refine blk_drew ?_ | refine blk_alloc ?_ _)); exact aa.out) Tryd.underlying39 rfl (by kernel_rfl) (.tmp .nil)))) rfl ?_
      exact ⟨_, er, by first | exact Kd.R_nil _ _ _ _ _ | exact Kd.N_nil _ _ _ _ _ | exact Kd.V_nil _ _ _ _ _ | exact Kd.Q_nil _ _ _ _ _ | exact Kd.S_nil _ _ _ _ _, bw⟩
     subst c38
     have H1 := H
     rw [if_pos rfl] at H1
     clear H
     have H := H1
     clear H1
     obtain ⟨c39, H⟩ := its H
     have c39b0 : decide (2 < (x9_2.length : Int)) = true := decide_eq_true c39
     have c39b1 : decide (2 < x9_2.length) = true := decide_eq_true (by omega)
     clear c39
     replace H := Option.bind_eq_some_iff.mp H
     obtain ⟨t311, A400, H⟩ := H
     have A40 := Aside0.mk A400
     clear A400
     by_cases c41 : t311 = true; rotate_left
     ·replace c41 := Bool.eq_false_iff.mpr c41
      subst c41
      have H1 : (some (0, 0, 0, ([] : List (S48)), 10)) = some (r1, r2, r3, r4, r5) := by rw [if_neg (show ¬ (false = true) by decide)] at H; exact H
      clear H
      have H := H1
      clear H1
      simp only [Option.some.injEq, Prod.mk.injEq] at H
      obtain ⟨rfl, rfl, rfl, rfl, rfl⟩ := H
      obtain ⟨Ao56, co56, eo56⟩ := Kd.V_slice au.out
      subst eo56
      have p308 : 0 ≤ (0 : Int) := (by omega)
      have q308 : 0 < (x9_2.length : Int) := od
      obtain ⟨an, e308, az, a1, a2⟩ := at_T57 (Kd.V_reads' au.out).2.2 0 p308 q308
      cases e308
      have qi308 : (0 < x9_2.length) = True := eq_true (by omega)
      (try rw [tn0] at az)
      (try rw [show 0 * 3 = 0 from rfl] at az)
      (try rw [Addr.add_zero'] at az)
      (try rw [tn0] at a1)
      (try rw [show 0 * 3 = 0 from rfl] at a1)
      (try rw [Addr.add_zero'] at a1)
      (try rw [tn0] at a2)
      (try rw [show 0 * 3 = 0 from rfl] at a2)
      (try rw [Addr.add_zero'] at a2)
      replace p308 := eq_true p308
      replace q308 := eq_true q308
      go_wp2_with (first | ((with_reducible refine gate_callee (f := 38) rfl ?_); refine goesL_ (some 61) rfl rfl Tryd.func38 (by kernel_rfl) rfl #[.agg #[.int .i64 ((rd_T57 x9_2 0).f0), .int .u64 ((rd_T57 x9_2 0).f1), .string ((rd_T57 x9_2 0).f2)]] rfl am ?_; (with_reducible refine (command_fits.calls ((rd_T57 x9_2 0).f0) ((rd_T57 x9_2 0).f1) ((rd_T57 x9_2 0).f2) true _ A37.out).mono ?_); rintro e w57 ⟨rfl, hb⟩; refine ⟨_, rfl, ?_⟩; replace al := Aside0.mk (Kd.V_below (v_ al.out) hb); replace au := Aside0.mk (Kd.V_below (v_ au.out) hb); replace ab := Aside0.mk (Kd.R_below (r_ ab.out) hb); replace aa := Aside0.mk (nb aa.out hb); replace ag := Aside0.mk (nb ag.out hb); replace HB := Aside0.mk (below_step bw hb); (try clear hb); have p310 : 0 ≤ (2 : Int) := (by omega); have q310 : 2 < (x9_2.length : Int) := od; obtain ⟨ci, e310, a7, a8, a9⟩ := at_T57 (Kd.V_reads' au.out).2.2 2 p310 q310; obtain rfl : an = ci := (by injection e310); (try simp only [tn2, Nat.reduceMul, Nat.reduceEqDiff, Go.Addr.add, ↓reduceIte] at a7); (try simp only [tn2, Nat.reduceMul, Nat.reduceEqDiff, Go.Addr.add, ↓reduceIte] at a8); (try simp only [tn2, Nat.reduceMul, Nat.reduceEqDiff, Go.Addr.add, ↓reduceIte] at a9); have qi310 : (2 < x9_2.length) = True := eq_true (by omega); (try rw [tn2] at a7); (try rw [show 2 * 3 = 6 from rfl] at a7); (try rw [tn2] at a8); (try rw [show 2 * 3 = 6 from rfl] at a8); (try rw [tn2] at a9); (try rw [show 2 * 3 = 6 from rfl] at a9); replace p310 := eq_true p310; replace q310 := eq_true q310) | (go_at_call 38; (with_reducible refine (command_fits.calls ((rd_T57 x9_2 2).f0) ((rd_T57 x9_2 2).f1) ((rd_T57 x9_2 2).f2) false _ A40.out).mono ?_); rintro e w58 ⟨rfl, hb⟩; replace al := Aside0.mk (Kd.V_below (v_ al.out) hb); replace au := Aside0.mk (Kd.V_below (v_ au.out) hb); replace ab := Aside0.mk (Kd.R_below (r_ ab.out) hb); replace aa := Aside0.mk (nb aa.out hb); replace ag := Aside0.mk (nb ag.out hb); replace HB := Aside0.mk (below_step bw hb); (try clear hb); have hnb59 := ao.out; have hnc59 := ah.out; obtain ⟨hcz60_0, hcz60_1, hcz60_2, hfz60_0, hfz60_1, hfz60_2⟩ := bx3 aa.out))
      refine bodyPost_ret (results_list (rs := [.tmp 2, .cell 3 39, .tmp 4]) rfl (by simp) (.tmp (.cell ai 39 #[.int .i64 0, .int .i64 0, .slice none 0 0] (0, 0) _ rfl (by (with_reducible repeat (first | refine blk_drewN ?_ _ | refine blk_drew ?_ | refine blk_alloc ?_ _)); refine blk_put (cs := #[.int .i64 0, .int .i64 0, .slice none 0 0]) ?_ 2 _ rfl; (with_reducible repeat (first | refine blk_drewN ?_ _ | refine blk_drew ?_ | refine blk_alloc ?_ _)); refine blk_put (cs := #[.int .i64 0, .int .i64 x287001_2, .slice none 0 0]) ?_ 1 _ rfl; (with_reducible repeat (first | refine blk_drewN ?_ _ | refine blk_drew ?_ | refine blk_alloc ?_ _)); refine blk_put (cs := #[.int .i64 x287000_2, .int .i64 x287001_2, .slice none 0 0]) ?_ 0 _ rfl; (with_reducible repeat (first | refine blk_drewN ?_ _ | refine blk_drew ?_ | refine blk_alloc ?_ _)); exact aa.out) Tryd.underlying39 rfl (by kernel_rfl) (.tmp .nil)))) rfl ?_
      exact ⟨_, er, by first | exact Kd.R_nil _ _ _ _ _ | exact Kd.N_nil _ _ _ _ _ | exact Kd.V_nil _ _ _ _ _ | exact Kd.Q_nil _ _ _ _ _ | exact Kd.S_nil _ _ _ _ _, bw⟩
     subst c41
     have H1 := H
     rw [if_pos rfl] at H1
     clear H
     have H := H1
     clear H1
     obtain ⟨c42, H⟩ := its H
     have c42b0 : decide (1 < (x9_2.length : Int)) = true := decide_eq_true c42
     have c42b1 : decide (1 < x9_2.length) = true := decide_eq_true (by omega)
     clear c42
     obtain ⟨c43, H⟩ := its H
     have c43b0 : decide (3 < (x9_2.length : Int)) = true := decide_eq_true c43
     have c43b1 : decide (3 < x9_2.length) = true := decide_eq_true (by omega)
     clear c43
     obtain ⟨c44, H⟩ := its H
     have c44b0 : decide (4 < (x9_2.length : Int)) = true := decide_eq_true c44
     have c44b1 : decide (4 < x9_2.length) = true := decide_eq_true (by omega)
     clear c44
     obtain ⟨c45, H⟩ := its H
     have LMc45 := Aside0.mk c45
     clear c45
     obtain ⟨y317, hy317⟩ : ∃ y_ : List (S48), y_ = (x301002_2 ++ [(⟨wrap64 ((rd_T57 x9_2 0).f1), (rd_T57 x9_2 1).f2, wrap64 ((rd_T57 x9_2 2).f1), (rd_T57 x9_2 3).f2, (rd_T57 x9_2 4).f2⟩ : S48)]) := ⟨_, rfl⟩
     replace H : (if 5 ≤ (x9_2.length : Int) then (command_Answered.l0 k2 t289 (x9_2.drop 5) (wrap64 ((rd_T57 t289 1).f1)) t299 y317) else (none)) = some (r1, r2, r3, r4, r5) := by first | (rw [hy317]; with_reducible exact H) | (have H2_ := (Option.bind_some _ _).symm.trans H; rw [hy317]; with_reducible exact H2_) | (have H2_ := (Option.bind_some _ _).symm.trans H; with_reducible exact H2_) | with_reducible exact H | (rw [hy317]; exact H) | exact H
     have Ny317 := Aside0.mk hy317
     clear hy317
     obtain ⟨c46, H⟩ := its H
     have c46b0 := eq_true c46
     have c46b1 : decide (5 ≤ (x9_2.length : Int)) = true := decide_eq_true c46
     clear c46
     obtain ⟨y320, hy320⟩ : ∃ y_ : List (S57), y_ = (x9_2.drop 5) := ⟨_, rfl⟩
     replace H : (command_Answered.l0 k2 t289 y320 (wrap64 ((rd_T57 t289 1).f1)) t299 y317) = some (r1, r2, r3, r4, r5) := by first | (rw [hy320]; with_reducible exact H) | (have H2_ := (Option.bind_some _ _).symm.trans H; rw [hy320]; with_reducible exact H2_) | (have H2_ := (Option.bind_some _ _).symm.trans H; with_reducible exact H2_) | with_reducible exact H | (rw [hy320]; exact H) | exact H
     have Ny320 := Aside0.mk hy320
     clear hy320
     have H' := Aside0.mk H
     clear H
     obtain ⟨Ao47, cg, eo47⟩ := Kd.V_slice au.out
     subst eo47
     have p308 : 0 ≤ (0 : Int) := (by omega)
     have q308 : 0 < (x9_2.length : Int) := od
     obtain ⟨an, e308, az, a1, a2⟩ := at_T57 (Kd.V_reads' au.out).2.2 0 p308 q308
     cases e308
     have qi308 : (0 < x9_2.length) = True := eq_true (by omega)
     (try rw [tn0] at az)
     (try rw [show 0 * 3 = 0 from rfl] at az)
     (try rw [Addr.add_zero'] at az)
     (try rw [tn0] at a1)
     (try rw [show 0 * 3 = 0 from rfl] at a1)
     (try rw [Addr.add_zero'] at a1)
     (try rw [tn0] at a2)
     (try rw [show 0 * 3 = 0 from rfl] at a2)
     (try rw [Addr.add_zero'] at a2)
     replace p308 := eq_true p308
     replace q308 := eq_true q308
     try go_wp2_with (first | ((with_reducible refine gate_callee (f := 38) rfl ?_); refine goesL_ (some 61) rfl rfl Tryd.func38 (by kernel_rfl) rfl #[.agg #[.int .i64 ((rd_T57 x9_2 0).f0), .int .u64 ((rd_T57 x9_2 0).f1), .string ((rd_T57 x9_2 0).f2)]] rfl am ?_; (with_reducible refine (command_fits.calls ((rd_T57 x9_2 0).f0) ((rd_T57 x9_2 0).f1) ((rd_T57 x9_2 0).f2) true _ A37.out).mono ?_); rintro e w48 ⟨rfl, hb⟩; refine ⟨_, rfl, ?_⟩; replace al := Aside0.mk (Kd.V_below (v_ al.out) hb); replace au := Aside0.mk (Kd.V_below (v_ au.out) hb); replace ab := Aside0.mk (Kd.R_below (r_ ab.out) hb); replace aa := Aside0.mk (nb aa.out hb); replace ag := Aside0.mk (nb ag.out hb); replace HB := Aside0.mk (below_step bw hb); (try clear hb); have p310 : 0 ≤ (2 : Int) := (by omega); have q310 : 2 < (x9_2.length : Int) := od; obtain ⟨ci, e310, a7, a8, a9⟩ := at_T57 (Kd.V_reads' au.out).2.2 2 p310 q310; obtain rfl : an = ci := (by injection e310); (try simp only [tn2, Nat.reduceMul, Nat.reduceEqDiff, Go.Addr.add, ↓reduceIte] at a7); (try simp only [tn2, Nat.reduceMul, Nat.reduceEqDiff, Go.Addr.add, ↓reduceIte] at a8); (try simp only [tn2, Nat.reduceMul, Nat.reduceEqDiff, Go.Addr.add, ↓reduceIte] at a9); have qi310 : (2 < x9_2.length) = True := eq_true (by omega); (try rw [tn2] at a7); (try rw [show 2 * 3 = 6 from rfl] at a7); (try rw [tn2] at a8); (try rw [show 2 * 3 = 6 from rfl] at a8); (try rw [tn2] at a9); (try rw [show 2 * 3 = 6 from rfl] at a9); replace p310 := eq_true p310; replace q310 := eq_true q310) | (go_at_call 38; (with_reducible refine (command_fits.calls ((rd_T57 x9_2 2).f0) ((rd_T57 x9_2 2).f1) ((rd_T57 x9_2 2).f2) true _ A40.out).mono ?_); rintro e w49 ⟨rfl, hb⟩; replace al := Aside0.mk (Kd.V_below (v_ al.out) hb); replace au := Aside0.mk (Kd.V_below (v_ au.out) hb); replace ab := Aside0.mk (Kd.R_below (r_ ab.out) hb); replace aa := Aside0.mk (nb aa.out hb); replace ag := Aside0.mk (nb ag.out hb); replace HB := Aside0.mk (below_step bw hb); (try clear hb)))
     replace al := Aside0.mk (Kd.V_drew al.out)
     replace au := Aside0.mk (Kd.V_drew au.out)
     replace ab := Aside0.mk (Kd.R_drew ab.out)
     replace aa := Aside0.mk (blk_drew aa.out)
     replace ag := Aside0.mk (blk_drew ag.out)
     replace HB := Aside0.mk (below_drew1 HB.out)
     have p312 : 0 ≤ (0 : Int) := (by omega)
     have q312 : 0 < (x9_2.length : Int) := od
     obtain ⟨ad312, e312, bm, bn, bo⟩ := at_T57 (Kd.V_reads' au.out).2.2 0 p312 q312
     obtain rfl : an = ad312 := (by injection e312)
     have qi312 : (0 < x9_2.length) = True := eq_true (by omega)
     (try rw [tn0] at bm)
     (try rw [show 0 * 3 = 0 from rfl] at bm)
     (try rw [Addr.add_zero'] at bm)
     (try rw [tn0] at bn)
     (try rw [show 0 * 3 = 0 from rfl] at bn)
     (try rw [Addr.add_zero'] at bn)
     (try rw [tn0] at bo)
     (try rw [show 0 * 3 = 0 from rfl] at bo)
     (try rw [Addr.add_zero'] at bo)
     replace p312 := eq_true p312
     replace q312 := eq_true q312
     have p313 : 0 ≤ (1 : Int) := (by omega)
     have q313 : 1 < (x9_2.length : Int) := od
     obtain ⟨ad313, e313, bp, bq, br⟩ := at_T57 (Kd.V_reads' au.out).2.2 1 p313 q313
     obtain rfl : an = ad313 := (by injection e313)
     (try simp only [tn1, Nat.reduceMul, Nat.reduceEqDiff, Go.Addr.add, ↓reduceIte] at bp)
     (try simp only [tn1, Nat.reduceMul, Nat.reduceEqDiff, Go.Addr.add, ↓reduceIte] at bq)
     (try simp only [tn1, Nat.reduceMul, Nat.reduceEqDiff, Go.Addr.add, ↓reduceIte] at br)
     have qi313 : (1 < x9_2.length) = True := eq_true (by omega)
     (try rw [tn1] at bp)
     (try rw [show 1 * 3 = 3 from rfl] at bp)
     (try rw [tn1] at bq)
     (try rw [show 1 * 3 = 3 from rfl] at bq)
     (try rw [tn1] at br)
     (try rw [show 1 * 3 = 3 from rfl] at br)
     replace p313 := eq_true p313
     replace q313 := eq_true q313
     have p314 : 0 ≤ (2 : Int) := (by omega)
     have q314 : 2 < (x9_2.length : Int) := od
     obtain ⟨ad314, e314, bs, bu, bv⟩ := at_T57 (Kd.V_reads' au.out).2.2 2 p314 q314
     obtain rfl : an = ad314 := (by injection e314)
     (try simp only [tn2, Nat.reduceMul, Nat.reduceEqDiff, Go.Addr.add, ↓reduceIte] at bs)
     (try simp only [tn2, Nat.reduceMul, Nat.reduceEqDiff, Go.Addr.add, ↓reduceIte] at bu)
     (try simp only [tn2, Nat.reduceMul, Nat.reduceEqDiff, Go.Addr.add, ↓reduceIte] at bv)
     have qi314 : (2 < x9_2.length) = True := eq_true (by omega)
     (try rw [tn2] at bs)
     (try rw [show 2 * 3 = 6 from rfl] at bs)
     (try rw [tn2] at bu)
     (try rw [show 2 * 3 = 6 from rfl] at bu)
     (try rw [tn2] at bv)
     (try rw [show 2 * 3 = 6 from rfl] at bv)
     replace p314 := eq_true p314
     replace q314 := eq_true q314
     have p315 : 0 ≤ (3 : Int) := (by omega)
     have q315 : 3 < (x9_2.length : Int) := od
     obtain ⟨ad315, e315, bx, b0, b1⟩ := at_T57 (Kd.V_reads' au.out).2.2 3 p315 q315
     obtain rfl : an = ad315 := (by injection e315)
     (try simp only [tn3, Nat.reduceMul, Nat.reduceEqDiff, Go.Addr.add, ↓reduceIte] at bx)
     (try simp only [tn3, Nat.reduceMul, Nat.reduceEqDiff, Go.Addr.add, ↓reduceIte] at b0)
     (try simp only [tn3, Nat.reduceMul, Nat.reduceEqDiff, Go.Addr.add, ↓reduceIte] at b1)
     have qi315 : (3 < x9_2.length) = True := eq_true (by omega)
     (try rw [tn3] at bx)
     (try rw [show 3 * 3 = 9 from rfl] at bx)
     (try rw [tn3] at b0)
     (try rw [show 3 * 3 = 9 from rfl] at b0)
     (try rw [tn3] at b1)
     (try rw [show 3 * 3 = 9 from rfl] at b1)
     replace p315 := eq_true p315
     replace q315 := eq_true q315
     have p316 : 0 ≤ (4 : Int) := (by omega)
     have q316 : 4 < (x9_2.length : Int) := od
     obtain ⟨ad316, e316, b2, b3, b4⟩ := at_T57 (Kd.V_reads' au.out).2.2 4 p316 q316
     obtain rfl : an = ad316 := (by injection e316)
     (try simp only [tn4, Nat.reduceMul, Nat.reduceEqDiff, Go.Addr.add, ↓reduceIte] at b2)
     (try simp only [tn4, Nat.reduceMul, Nat.reduceEqDiff, Go.Addr.add, ↓reduceIte] at b3)
     (try simp only [tn4, Nat.reduceMul, Nat.reduceEqDiff, Go.Addr.add, ↓reduceIte] at b4)
     have qi316 : (4 < x9_2.length) = True := eq_true (by omega)
     (try rw [tn4] at b2)
     (try rw [show 4 * 3 = 12 from rfl] at b2)
     (try rw [tn4] at b3)
     (try rw [show 4 * 3 = 12 from rfl] at b3)
     (try rw [tn4] at b4)
     (try rw [show 4 * 3 = 12 from rfl] at b4)
     replace p316 := eq_true p316
     replace q316 := eq_true q316
     refine start_ (n := 29) (S := fun w' => w'.cell? ⟨ac, 0, none⟩ = some (.int .i64 (wrap64 ((rd_T57 t289 1).f1))) ∧ w'.cell? ⟨ac, 1, none⟩ = some (.int .i64 t299) ∧ w'.cell? ⟨ac, 2, none⟩ = some (u301002) ∧ w'.cell? an = some (.int .i64 ((rd_T57 x9_2 0).f0)) ∧ w'.cell? ⟨an.block, an.off + 1, none⟩ = some (.int .u64 ((rd_T57 x9_2 0).f1)) ∧ w'.cell? ⟨an.block, an.off + 2, none⟩ = some (.string ((rd_T57 x9_2 0).f2)) ∧ w'.cell? ⟨an.block, an.off + 3, none⟩ = some (.int .i64 ((rd_T57 x9_2 1).f0)) ∧ w'.cell? ⟨an.block, an.off + 3 + 1, none⟩ = some (.int .u64 ((rd_T57 x9_2 1).f1)) ∧ w'.cell? ⟨an.block, an.off + 3 + 2, none⟩ = some (.string ((rd_T57 x9_2 1).f2)) ∧ w'.cell? ⟨an.block, an.off + 6, none⟩ = some (.int .i64 ((rd_T57 x9_2 2).f0)) ∧ w'.cell? ⟨an.block, an.off + 6 + 1, none⟩ = some (.int .u64 ((rd_T57 x9_2 2).f1)) ∧ w'.cell? ⟨an.block, an.off + 6 + 2, none⟩ = some (.string ((rd_T57 x9_2 2).f2)) ∧ w'.cell? ⟨an.block, an.off + 9, none⟩ = some (.int .i64 ((rd_T57 x9_2 3).f0)) ∧ w'.cell? ⟨an.block, an.off + 9 + 1, none⟩ = some (.int .u64 ((rd_T57 x9_2 3).f1)) ∧ w'.cell? ⟨an.block, an.off + 9 + 2, none⟩ = some (.string ((rd_T57 x9_2 3).f2)) ∧ w'.cell? ⟨an.block, an.off + 12, none⟩ = some (.int .i64 ((rd_T57 x9_2 4).f0)) ∧ w'.cell? ⟨an.block, an.off + 12 + 1, none⟩ = some (.int .u64 ((rd_T57 x9_2 4).f1)) ∧ w'.cell? ⟨an.block, an.off + 12 + 2, none⟩ = some (.string ((rd_T57 x9_2 4).f2))) (ds := [26, 28]) (bz 29 0) (by kernel_rfl) rfl rfl ⟨(blk_cell ag.out 0).trans rfl, (blk_cell ag.out 1).trans rfl, (blk_cell ag.out 2).trans rfl, bm, bn, bo, bp, bq, br, bs, bu, bv, bx, b0, b1, b2, b3, b4⟩ (fun hHeld => ?_); refine with_tabW command_Answered.tab13 command_Answered.bits13 (fun HT_ HW_ => ?_)
     generalize w49.drew = w50 at al au ab aa ag HB bm bn bo bp bq br bs bu bv bx b0 b1 b2 b3 b4 hHeld ⊢
     refine pu_ 0 (some 71) (bz 29 1) HT_.out ?_
     refine pu_ 2 (some 73) (bz 29 5) HT_.out ?_
     refine pu_ 3 (some 74) (bz 29 13) HT_.out ?_
     refine pu_ 4 (some 75) (bz 29 29) HT_.out ?_
     refine pu_ 7 (some 78) (bz 29 157) HT_.out ?_
     refine pu_ 8 (some 79) (bz 29 413) HT_.out ?_
     refine pu_ 9 (some 80) (bz 29 925) HT_.out ?_
     refine pu_ 11 (some 82) (bz 29 2973) HT_.out ?_
     refine pu_ 12 (some 83) (bz 29 7069) HT_.out ?_
     refine pu_ 13 (some 84) (bz 29 15261) HT_.out ?_
     refine pu_ 16 (some 87) (bz 29 80797) HT_.out ?_
     refine pu_ 17 (some 88) (bz 29 211869) HT_.out ?_
     refine pu_ 18 (some 89) (bz 29 474013) HT_.out ?_
     refine pu_ 20 (some 91) (bz 29 1522589) HT_.out ?_
     refine pu_ 21 (some 92) (bz 29 3619741) HT_.out ?_
     refine pu_ 22 (some 93) (bz 29 7814045) HT_.out ?_
     refine take_ (i := 1) (N := some 72) (v := ?_) (a' := ?_) (bz 29 7814047) rfl rfl (take_ofW HT_.out HW_.out (by kernel_rfl)) (fun _ _ _ h => h) (Or.inl ⟨by rfl, ?_⟩) hHeld ?_ ?_
     rotate_left
     ·rintro w' ⟨s0, s1, s2, s3, s4, s5, s6, s7, s8, s9, s10, s11, s12, s13, s14, s15, s16, s17⟩
      go_simp
      with_reducible rfl
     rotate_left
     ·simp only [Act.put, sl1, sl2, sl3, i64_w, i32_w]
      rfl
     refine take_ (i := 5) (N := some 76) (v := ?_) (a' := ?_) (bz 29 7814079) rfl rfl (take_ofW HT_.out HW_.out (by kernel_rfl)) (fun _ _ _ h => h) (Or.inl ⟨by rfl, ?_⟩) hHeld ?_ ?_
     rotate_left
     ·rintro w' ⟨s0, s1, s2, s3, s4, s5, s6, s7, s8, s9, s10, s11, s12, s13, s14, s15, s16, s17⟩
      go_simp
      with_reducible rfl
     rotate_left
     ·simp only [Act.put, sl1, sl2, sl3, i64_w, i32_w]
      rfl
     refine pu_ 6 (some 77) (bz 29 7814143) HT_.out ?_
     refine take_ (i := 10) (N := some 81) (v := ?_) (a' := ?_) (bz 29 7815167) rfl rfl (take_ofW HT_.out HW_.out (by kernel_rfl)) (fun _ _ _ h => h) (Or.inl ⟨by rfl, ?_⟩) hHeld ?_ ?_
     rotate_left
     ·rintro w' ⟨s0, s1, s2, s3, s4, s5, s6, s7, s8, s9, s10, s11, s12, s13, s14, s15, s16, s17⟩
      go_simp
      with_reducible rfl
     rotate_left
     ·simp only [Act.put, sl1, sl2, sl3, i64_w, i32_w]
      rfl
     refine take_ (i := 14) (N := some 85) (v := ?_) (a' := ?_) (bz 29 7831551) rfl rfl (take_ofW HT_.out HW_.out (by kernel_rfl)) (fun _ _ _ h => h) (Or.inl ⟨by rfl, ?_⟩) hHeld ?_ ?_
     rotate_left
     ·rintro w' ⟨s0, s1, s2, s3, s4, s5, s6, s7, s8, s9, s10, s11, s12, s13, s14, s15, s16, s17⟩
      go_simp
      with_reducible rfl
     rotate_left
     ·simp only [Act.put, sl1, sl2, sl3, i64_w, i32_w]
      rfl
     refine pu_ 15 (some 86) (bz 29 7864319) HT_.out ?_
     refine take_ (i := 19) (N := some 90) (v := ?_) (a' := ?_) (bz 29 8388607) rfl rfl (take_ofW HT_.out HW_.out (by kernel_rfl)) (fun _ _ _ h => h) (Or.inl ⟨by rfl, ?_⟩) hHeld ?_ ?_
     rotate_left
     ·rintro w' ⟨s0, s1, s2, s3, s4, s5, s6, s7, s8, s9, s10, s11, s12, s13, s14, s15, s16, s17⟩
      go_simp
      with_reducible rfl
     rotate_left
     ·simp only [Act.put, sl1, sl2, sl3, i64_w, i32_w]
      rfl
     refine take_ (i := 23) (N := some 94) (v := ?_) (a' := ?_) (bz 29 16777215) rfl rfl (take_ofW HT_.out HW_.out (by kernel_rfl)) (fun _ _ _ h => h) (Or.inl ⟨by rfl, ?_⟩) hHeld ?_ ?_
     rotate_left
     ·rintro w' ⟨s0, s1, s2, s3, s4, s5, s6, s7, s8, s9, s10, s11, s12, s13, s14, s15, s16, s17⟩
      go_simp
      with_reducible rfl
     rotate_left
     ·simp only [Act.put, sl1, sl2, sl3, i64_w, i32_w]
      rfl
     refine pu_ 24 (some 95) (bz 29 33554431) HT_.out ?_
     refine one_ (i := 25) (N := some 96) (bz 29 67108863) rfl rfl (one_of HT_.out (by kernel_rfl)) (by decide) (fun K hK => ?_)
     refine value_ (w1 := ?_) (v := ?_) (by rfl) rfl ?_ ?_
     rotate_left 2
     ·go_simp
      constructor
      ·rfl
      ·rfl
     refine hK.out _ _ ⟨(blk_cell (blk_alloc ag.out _) 0).trans rfl, (blk_cell (blk_alloc ag.out _) 1).trans rfl, (blk_cell (blk_alloc ag.out _) 2).trans rfl, (World.cell?_alloc_lt _ _ _ (World.block_lt_of_cell? _ _ (hHeld.2.2.2.1))).trans (hHeld.2.2.2.1), (World.cell?_alloc_lt _ _ _ (World.block_lt_of_cell? _ _ (hHeld.2.2.2.2.1))).trans (hHeld.2.2.2.2.1), (World.cell?_alloc_lt _ _ _ (World.block_lt_of_cell? _ _ (hHeld.2.2.2.2.2.1))).trans (hHeld.2.2.2.2.2.1), (World.cell?_alloc_lt _ _ _ (World.block_lt_of_cell? _ _ (hHeld.2.2.2.2.2.2.1))).trans (hHeld.2.2.2.2.2.2.1), (World.cell?_alloc_lt _ _ _ (World.block_lt_of_cell? _ _ (hHeld.2.2.2.2.2.2.2.1))).trans (hHeld.2.2.2.2.2.2.2.1), (World.cell?_alloc_lt _ _ _ (World.block_lt_of_cell? _ _ (hHeld.2.2.2.2.2.2.2.2.1))).trans (hHeld.2.2.2.2.2.2.2.2.1), (World.cell?_alloc_lt _ _ _ (World.block_lt_of_cell? _ _ (hHeld.2.2.2.2.2.2.2.2.2.1))).trans (hHeld.2.2.2.2.2.2.2.2.2.1), (World.cell?_alloc_lt _ _ _ (World.block_lt_of_cell? _ _ (hHeld.2.2.2.2.2.2.2.2.2.2.1))).trans (hHeld.2.2.2.2.2.2.2.2.2.2.1), (World.cell?_alloc_lt _ _ _ (World.block_lt_of_cell? _ _ (hHeld.2.2.2.2.2.2.2.2.2.2.2.1))).trans (hHeld.2.2.2.2.2.2.2.2.2.2.2.1), (World.cell?_alloc_lt _ _ _ (World.block_lt_of_cell? _ _ (hHeld.2.2.2.2.2.2.2.2.2.2.2.2.1))).trans (hHeld.2.2.2.2.2.2.2.2.2.2.2.2.1), (World.cell?_alloc_lt _ _ _ (World.block_lt_of_cell? _ _ (hHeld.2.2.2.2.2.2.2.2.2.2.2.2.2.1))).trans (hHeld.2.2.2.2.2.2.2.2.2.2.2.2.2.1), (World.cell?_alloc_lt _ _ _ (World.block_lt_of_cell? _ _ (hHeld.2.2.2.2.2.2.2.2.2.2.2.2.2.2.1))).trans (hHeld.2.2.2.2.2.2.2.2.2.2.2.2.2.2.1), (World.cell?_alloc_lt _ _ _ (World.block_lt_of_cell? _ _ (hHeld.2.2.2.2.2.2.2.2.2.2.2.2.2.2.2.1))).trans (hHeld.2.2.2.2.2.2.2.2.2.2.2.2.2.2.2.1), (World.cell?_alloc_lt _ _ _ (World.block_lt_of_cell? _ _ (hHeld.2.2.2.2.2.2.2.2.2.2.2.2.2.2.2.2.1))).trans (hHeld.2.2.2.2.2.2.2.2.2.2.2.2.2.2.2.2.1), (World.cell?_alloc_lt _ _ _ (World.block_lt_of_cell? _ _ (hHeld.2.2.2.2.2.2.2.2.2.2.2.2.2.2.2.2.2))).trans (hHeld.2.2.2.2.2.2.2.2.2.2.2.2.2.2.2.2.2)⟩ (fun hHeld => ?_)
     clear hK K
     refine norm_ (a' := ?_) ?_ ?_
     rotate_left
     ·show Act.put _ (some 96) _ = _
      simp only [Act.put, sl1, sl2, sl3, i64_w, i32_w]
      rfl
     refine last_ (i := 26) (N := some 97) (bz 29 134217727) rfl rfl (one_of HT_.out (by kernel_rfl)) (by decide) (fun K hK => ?_)
     refine Kd.R_append_step k48 (w0 := w) w.heap.size (by rfl) (.tmp 72) (.tmp 96) 37 48 (.agg #[(.int .i64 0), (.string ⟨#[]⟩), (.int .i64 0), (.string ⟨#[]⟩), (.string ⟨#[]⟩)]) 64 rfl Tryd.underlying37 info48 rfl (by decide) (by omega) u301002 x301002_2 (⟨wrap64 ((rd_T57 x9_2 0).f1), (rd_T57 x9_2 1).f2, wrap64 ((rd_T57 x9_2 2).f1), (rd_T57 x9_2 3).f2, (rd_T57 x9_2 4).f2⟩ : S48) [.int .i64 (wrap64 ((rd_T57 x9_2 0).f1)), .string ((rd_T57 x9_2 1).f2), .int .i64 (wrap64 ((rd_T57 x9_2 2).f1)), .string ((rd_T57 x9_2 3).f2), .string ((rd_T57 x9_2 4).f2)] (fun _ => True) (fun _ => False) rfl rfl ?aP (fun _ hk => hk.elim) ?aF ?aO ?aB ?aS ?aL ?_
     (case aP => exact k48_mkM _ _ _ (⟨wrap64 ((rd_T57 x9_2 0).f1), (rd_T57 x9_2 1).f2, wrap64 ((rd_T57 x9_2 2).f1), (rd_T57 x9_2 3).f2, (rd_T57 x9_2 4).f2⟩ : S48))
     (case aB => exact bw)
     (case aF => exact (fun _ _ => trivial))
     (case aO => exact (r_ ab.out))
     (case aS => exact (below_size bw))
     (case aL => have := LMc45.out; omega)
     intro v318 w51 ho hb hg hat
     rw [← Ny317.out] at ho
     replace al := Aside0.mk (Kd.V_afterv (ok := (fun k_ => k_ ≠ ai ∧ k_ ≠ ac)) (by (with_reducible repeat (first | apply Kd.V_alloc | apply Kd.V_drewN | apply Kd.V_drew)); exact Kd.V_mono al.out (fun _ hk => ⟨⟨hk.2.1, hk.2.2⟩, hk.1⟩)) hg hat)
     replace au := Aside0.mk (Kd.V_afterv (ok := (fun k_ => k_ ≠ ai ∧ k_ ≠ ac)) (by (with_reducible repeat (first | apply Kd.V_alloc | apply Kd.V_drewN | apply Kd.V_drew)); exact Kd.V_mono au.out (fun _ hk => ⟨⟨hk.2.1, hk.2.2⟩, hk.1⟩)) hg hat)
     replace aa := Aside0.mk (blk_grown (g := ai) (o := .cells #[.int .i64 x287000_2, .int .i64 x287001_2, .slice none 0 0] 39 (0, 0)) (bk aa.out) hg (Kd.R_ne ab.out aa.out (by decide)))
     replace ag := Aside0.mk (blk_grown (g := ac) (o := .cells #[.int .i64 (wrap64 ((rd_T57 t289 1).f1)), .int .i64 t299, u301002] 39 (0, 0)) (bk ag.out) hg (Kd.R_ne ab.out ag.out (by decide)))
     replace HB := Aside0.mk (hb)
     have cb := Aside0.mk (ho)
     clear ab
     clear ho hb hg hat
     obtain ⟨ba, bb, c5⟩ := Kd.R_slice cb.out
     (first | subst c5 | (injection c5 with f1_ f2_ f3_; have f4_ := f1_.symm; have f5_ := f3_.symm; clear f1_ f2_ f3_; subst f4_; subst f5_))
     refine hK.out _ _ ?_
     clear hK K
     refine norm_ (a' := ?_) ?_ ?_
     rotate_left
     ·show Act.put _ (some 97) _ = _
      simp only [Act.put, sl1, sl2, sl3, i64_w, i32_w]
      rfl
     refine pu_ 27 (some 98) (bz 29 268435455) HT_.out ?_
     refine last_ (i := 28) (N := none) (bz 29 536870911) rfl rfl (one_of HT_.out (by kernel_rfl)) (by decide) (fun K hK => ?_)
     have hs53 : w51.cell? ⟨ac, 2, none⟩ = some (u301002) := (blk_cell ag.out 2).trans rfl
     have hfs53 := blk_frozen ag.out 2
     have hns53_0 := ao.out
     have hms53_0 := ah.out
     refine skip_ (w1 := ?_) (by rfl) rfl ?_ ?_
     rotate_left
     ·go_simp
      rfl
     refine hK.out _ _ ?_
     clear hK K
     refine done_ (done_of HT_.out (by kernel_rfl)) ?_
     have n0_ : Aside0 (Kd.V k57 57 (w51.setCell ⟨ac, 2, none⟩ (.slice ba y317.length bb)) w.heap.size (fun k_ => some k_ ≠ (.slice ba y317.length bb : Value).ownBlock ∧ k_ ≠ ai ∧ k_ ≠ ac) (.slice (some ak) t289.length b8) t289) := ⟨by (with_reducible repeat (first | apply Kd.V_alloc | apply Kd.V_drewN | apply Kd.V_drew)); exact Kd.V_mono (Kd.V_far (p := ⟨ac, 2, none⟩) (Kd.V_mono al.out (fun k_ hk => (⟨hk, hk.1.2⟩ : _ ∧ k_ ≠ ac))) (fun _ hk => hk.2) (.slice ba y317.length bb)) (fun _ hk => ⟨hk.1.2, ⟨hk.1.1.1, hk.1.1.2⟩⟩)⟩
     have n1_ : Aside0 (Kd.V k57 57 (w51.setCell ⟨ac, 2, none⟩ (.slice ba y317.length bb)) w.heap.size (fun k_ => some k_ ≠ (.slice ba y317.length bb : Value).ownBlock ∧ k_ ≠ ai ∧ k_ ≠ ac) (.slice (some an) x9_2.length cg) x9_2) := ⟨by (with_reducible repeat (first | apply Kd.V_alloc | apply Kd.V_drewN | apply Kd.V_drew)); exact Kd.V_mono (Kd.V_far (p := ⟨ac, 2, none⟩) (Kd.V_mono au.out (fun k_ hk => (⟨hk, hk.1.2⟩ : _ ∧ k_ ≠ ac))) (fun _ hk => hk.2) (.slice ba y317.length bb)) (fun _ hk => ⟨hk.1.2, ⟨hk.1.1.1, hk.1.1.2⟩⟩)⟩
     have n2_ : Aside0 (Kd.R k48 48 (w51.setCell ⟨ac, 2, none⟩ (.slice ba y317.length bb)) w.heap.size (fun _ => True) (.slice ba y317.length bb) y317) := ⟨by (with_reducible repeat (first | apply Kd.R_alloc | apply Kd.R_drewN | apply Kd.R_drew)); exact Kd.R_mono (Kd.R_far (p := ⟨ac, 2, none⟩) (Kd.R_types cb.out ag.out (by decide)) (fun _ hk => hk.2) (.slice ba y317.length bb)) (fun _ hk => trivial)⟩
     have n3_ : Aside0 ((w51.setCell ⟨ac, 2, none⟩ (.slice ba y317.length bb)).heap[ai]? = some (.cells #[.int .i64 x287000_2, .int .i64 x287001_2, .slice none 0 0] 39 (0, 0))) := ⟨by (with_reducible repeat (first | refine blk_drewN ?_ _ | refine blk_drew ?_ | refine blk_alloc ?_ _)); refine blk_far ?_ ao.out _; (with_reducible repeat (first | refine blk_drewN ?_ _ | refine blk_drew ?_ | refine blk_alloc ?_ _)); exact aa.out⟩
     have n4_ : Aside0 ((w51.setCell ⟨ac, 2, none⟩ (.slice ba y317.length bb)).heap[ac]? = some (.cells #[.int .i64 (wrap64 ((rd_T57 t289 1).f1)), .int .i64 t299, .slice ba y317.length bb] 39 (0, 0))) := ⟨by (with_reducible repeat (first | refine blk_drewN ?_ _ | refine blk_drew ?_ | refine blk_alloc ?_ _)); refine blk_put (cs := #[.int .i64 (wrap64 ((rd_T57 t289 1).f1)), .int .i64 t299, u301002]) ?_ 2 _ rfl; (with_reducible repeat (first | refine blk_drewN ?_ _ | refine blk_drew ?_ | refine blk_alloc ?_ _)); exact ag.out⟩
     have n5_ : Aside0 (Below w.heap.size w (w51.setCell ⟨ac, 2, none⟩ (.slice ba y317.length bb))) := ⟨bw⟩
     (try clear al)
     (try clear au)
     (try clear cb)
     (try clear aa)
     (try clear ag)
     (try clear HB)
     generalize (w51.setCell ⟨ac, 2, none⟩ (.slice ba y317.length bb)) = w54 at n0_ n1_ n2_ n3_ n4_ n5_ ⊢
     have al := n0_
     have au := n1_
     have cb := n2_
     have aa := n3_
     have ag := n4_
     have HB := n5_
     clear n0_ n1_ n2_ n3_ n4_ n5_
     have q55 : (5 : Int) ≤ ((x9_2.length : Int) : Int) := od
     obtain ⟨i055, cu, _, cv, _⟩ := info_parts info57
     have ca : x9_2.length ≤ cg := (Kd.V_reads' au.out).2.1
     have c6 : Kd.F k57 _ _ (some an) x9_2.length x9_2 := (Kd.V_at (base := w.heap.size) au.out).2.2
     have hcut55 := cut_from (P := Tryd.prog) 60 57 .i64 Tryd.underlying60 cu 3 cv (some an) x9_2.length cg 5 (by omega) q55
     have cj := Kd.F_cut (m := (5 : Int).toNat) (c := cg) c6 (by omega) ca
     obtain ⟨A55, hA55⟩ : ∃ A1, A1 = (if cg = (5 : Int).toNat then (some an) else ((some an) : Option Addr).map (·.add ((5 : Int).toNat * 3))) := ⟨_, rfl⟩
     obtain ⟨c55, hc55⟩ : ∃ c1, c1 = cg - (5 : Int).toNat := ⟨_, rfl⟩
     have hy55 : y320.length = x9_2.length - (5 : Int).toNat := (by rw [Ny320.out, List.length_drop] <;> omega)
     rw [show (x9_2).drop (5 : Int).toNat = y320 from Ny320.out.symm] at cj
     replace cj : Kd.F k57 _ _ A55 y320.length y320 := (by rw [hA55]; exact cj)
     rw [← hy55, ← hA55, ← hc55] at hcut55
     have HO324 := Aside0.mk (show Kd.V k57 57 _ w.heap.size _ (.slice A55 y320.length c55) y320 from Kd.V_mk (by rw [hy55, hc55]; exact Nat.sub_le_sub_right ca _) cj)
     have HC324 := Aside0.mk (show y320.length ≤ c55 from by rw [hy55, hc55]; exact Nat.sub_le_sub_right ca _)
     clear cj c6 ca cu cv hc55
     have KY55 := Aside0.mk hy55
     have KA55 := Aside0.mk hA55
     clear hy55 hA55
     replace q55 := eq_true q55
     try go_wp2
     go_roundg k2
     case measure => have := HJ4.out; have := HK2.out; omega
     case rel => exact ⟨(y320), (x287000_2), (x287001_2), (y317), (.slice ba y317.length bb), H', ⟨by have := HJ4.out; have := HK2.out; omega⟩, ⟨v_ al.out⟩, ⟨v_ HO324.out⟩, ⟨r_ cb.out⟩, ⟨by (with_reducible repeat (first | refine blk_drewN ?_ _ | refine blk_drew ?_ | refine blk_alloc ?_ _)); exact aa.out⟩, ⟨by (with_reducible repeat (first | refine blk_drewN ?_ _ | refine blk_drew ?_ | refine blk_alloc ?_ _)); exact ag.out⟩, ⟨bw⟩⟩

end Go.Proofs.YtpgiagdpepkooaaDoor.P
