-- Printed by this session's program wip/xp.py (a turned copy of the kit's printer): functions, their contracts.
import Derived.Test.YtpgiagdpepkooaaDoorPx0
import Derived.Test.YtpgiagdpepkooaaDoorPx14
import Derived.Test.YtpgiagdpepkooaaDoorPx17
namespace Go.Proofs.YtpgiagdpepkooaaDoor.P
open Go.RowKit Go.Proofs.YtpgiagdpepkooaaDoorW.PrintWords Go.Proofs.YtpgiagdpepkooaaDoorW.PrintLast Go.Proofs.YtpgiagdpepkooaaDoorW.PrintMore
attribute [local go_sem] max2_int min2_int max_two min_two max_three min_three max_four min_four   -- for this text's walks alone
set_option linter.unusedVariables false
set_option linter.unusedSimpArgs false

/-! ### carillonref14_Decode: function 15 -/
def carillonref14_Decode.j0 : Nat → List (S57) → Bool → Option (Int × ByteArray × ByteArray × Int × ByteArray × ByteArray × Int × Int × Int × Int)
 | 0, _, _ => none
 | k + 1, x4, x35 => if x35 = true then (some (0, (⟨#[]⟩ : ByteArray), (⟨#[]⟩ : ByteArray), 0, (⟨#[]⟩ : ByteArray), (⟨#[]⟩ : ByteArray), 0, 0, 0, 10)) else (if 0 < (x4.length : Int) then (if 1 < (x4.length : Int) then (if 2 < (x4.length : Int) then (if 3 < (x4.length : Int) then (if 4 < (x4.length : Int) then (if 5 < (x4.length : Int) then (if 6 < (x4.length : Int) then (if 7 < (x4.length : Int) then (if 8 < (x4.length : Int) then ((carillonref14_Right.f k (wrap64 ((rd_T57 x4 0).f1)) ((rd_T57 x4 1).f2) ((rd_T57 x4 2).f2) (wrap64 ((rd_T57 x4 3).f1)) ((rd_T57 x4 4).f2) ((rd_T57 x4 5).f2) (wrap64 ((wrap64 ((rd_T57 x4 6).f1)) - 1)) (wrap64 ((rd_T57 x4 7).f1)) (wrap64 ((rd_T57 x4 8).f1))).bind fun t477 => (if t477 = true then (some (wrap64 ((rd_T57 x4 0).f1), (rd_T57 x4 1).f2, (rd_T57 x4 2).f2, wrap64 ((rd_T57 x4 3).f1), (rd_T57 x4 4).f2, (rd_T57 x4 5).f2, wrap64 ((wrap64 ((rd_T57 x4 6).f1)) - 1), wrap64 ((rd_T57 x4 7).f1), wrap64 ((rd_T57 x4 8).f1), 0)) else (some (0, (⟨#[]⟩ : ByteArray), (⟨#[]⟩ : ByteArray), 0, (⟨#[]⟩ : ByteArray), (⟨#[]⟩ : ByteArray), 0, 0, 0, 10)))) else (none)) else (none)) else (none)) else (none)) else (none)) else (none)) else (none)) else (none)) else (none))
def carillonref14_Decode.f (k : Nat) (a0 : ByteArray) : Option (Int × ByteArray × ByteArray × Int × ByteArray × ByteArray × Int × Int × Int × Int) := (carillonref01_Decode.f k (⟨#[98, 116, 116, 108, 116, 116, 108, 98, 108]⟩ : ByteArray) a0).bind fun bt460 => (if bt460.2 = 0 then (if 3 < (bt460.1.length : Int) then (if ((rd_T57 bt460.1 3).f1) > 9007199254740991 then (carillonref14_Decode.j0 k bt460.1 true) else (if 6 < (bt460.1.length : Int) then (if ((rd_T57 bt460.1 6).f1) > 9007199254740992 then (carillonref14_Decode.j0 k bt460.1 true) else (if 8 < (bt460.1.length : Int) then (carillonref14_Decode.j0 k bt460.1 (decide (((rd_T57 bt460.1 8).f1) > 9007199254740991))) else (none))) else (none))) else (none)) else (some (0, (⟨#[]⟩ : ByteArray), (⟨#[]⟩ : ByteArray), 0, (⟨#[]⟩ : ByteArray), (⟨#[]⟩ : ByteArray), 0, 0, 0, bt460.2)))
def carillonref14_Decode.T6 : Bool × List (List Nat × List Nat) := (true, [([], []), ([0], [0]), ([1], [1]), ([2], [2]), ([3], [3]), ([], []), ([5], [5]), ([6], [6]), ([7], [7]), ([], []), ([9], [9]), ([10], [10]), ([11], [11]), ([], []), ([13], [13]), ([14], [14]), ([15], [15]), ([16], [16]), ([], []), ([18], [18]), ([19], [19]), ([20], [20]), ([], []), ([22], [22]), ([23], [23]), ([24], [24]), ([], []), ([26], [26]), ([27], [27]), ([28], [28]), ([29], [29]), ([30], [30]), ([], []), ([32], [32]), ([33], [33]), ([34], [34]), ([35], [35]), ([], []), ([37], [37]), ([38], [38]), ([39], [39]), ([40], [40]), ([4, 8, 12, 17, 21, 25, 31, 36, 41], [4, 8, 12, 17, 21, 25, 31, 36, 41]), ([], []), ([43, 42, 0, 1, 2, 3, 4, 5, 6, 7, 8, 9, 10, 11, 12, 13, 14, 15, 16, 17, 18, 19, 20, 21, 22, 23, 24, 25, 26, 27, 28, 29, 30, 31, 32, 33, 34, 35, 36, 37, 38, 39, 40, 41, 42, 43], [42, 43])])
def carillonref14_Decode.B6 : List Nat := [0, 1, 3, 7, 15, 0, 32, 96, 224, 0, 512, 1536, 3584, 0, 8192, 24576, 57344, 122880, 0, 262144, 786432, 1835008, 0, 4194304, 12582912, 29360128, 0, 67108864, 201326592, 469762048, 1006632960, 2080374784, 0, 4294967296, 12884901888, 30064771072, 64424509440, 0, 137438953472, 412316860416, 962072674304, 2061584302080, 4398046511103, 0, 17592186044415]
theorem carillonref14_Decode.tab6 : rtab .any (opsOf Tryd.f15 6) = carillonref14_Decode.T6 := by kernel_rfl
theorem carillonref14_Decode.bits6 : waitsOk carillonref14_Decode.T6.2 carillonref14_Decode.B6 = true := by kernel_rfl
set_option maxHeartbeats 8000000 in
set_option maxRecDepth 100000 in
theorem carillonref14_Decode.calls (k : Nat) (a0 : ByteArray) (r1 : Int) (r2 : ByteArray) (r3 : ByteArray) (r4 : Int) (r5 : ByteArray) (r6 : ByteArray) (r7 : Int) (r8 : Int) (r9 : Int) (r10 : Int) (w : World) (h : carillonref14_Decode.f k a0 = some (r1, r2, r3, r4, r5, r6, r7, r8, r9, r10)) :
  Calls Tryd.prog 15 #[.string a0] w fun e w' => e = .returned (.tuple #[.agg #[.int .i64 r1, .string r2, .string r3, .int .i64 r4, .string r5, .string r6, .int .i64 r7, .int .i64 r8, .int .i64 r9], .int .i64 r10]) ∧ Below w.heap.size w w' := by
 have hu23 := Tryd.underlying23
 have HB := Aside0.mk (Below.refl w.heap.size w)
 have H := h
 unfold carillonref14_Decode.f at H
 clear h
 replace H := Option.bind_eq_some_iff.mp H
 obtain ⟨⟨t460, t461⟩, A20, H⟩ := H
 replace H : (if t461 = 0 then (if 3 < (t460.length : Int) then (if ((rd_T57 t460 3).f1) > 9007199254740991 then (carillonref14_Decode.j0 k t460 true) else (if 6 < (t460.length : Int) then (if ((rd_T57 t460 6).f1) > 9007199254740992 then (carillonref14_Decode.j0 k t460 true) else (if 8 < (t460.length : Int) then (carillonref14_Decode.j0 k t460 (decide (((rd_T57 t460 8).f1) > 9007199254740991))) else (none))) else (none))) else (none)) else (some (0, (⟨#[]⟩ : ByteArray), (⟨#[]⟩ : ByteArray), 0, (⟨#[]⟩ : ByteArray), (⟨#[]⟩ : ByteArray), 0, 0, 0, t461))) = some (r1, r2, r3, r4, r5, r6, r7, r8, r9, r10) := H
 have A2 := Aside0.mk A20
 clear A20
 by_cases c3 : t461 = 0; rotate_left
 ·rw [if_neg c3] at H
  have bs : (t461 == 0) = false := beq_eq_false_iff_ne.mpr c3
  have bu : (t461 != 0) = true := bne_iff_ne.mpr c3
  simp only [Option.some.injEq, Prod.mk.injEq] at H
  obtain ⟨rfl, rfl, rfl, rfl, rfl, rfl, rfl, rfl, rfl, rfl⟩ := H
  go_enter Tryd.func15, Tryd.ntmps15
  go_wp2_with (first | ((with_reducible refine gate_dst (N := 2) rfl ?_); refine box_event ?hg (N := 2) ?hd (cs := za1_) (t := 23) ?hr ?_; (case hd => rfl); (case hg => rfl); (case hr => first | (go_simp; done) | (go_simp; rfl)); intro ak hg w61 hbox hb; have ae := Aside0.mk (hbox); have GW459 := Aside0.mk ((g1 hg bw : w.heap.size ≤ ak)); have GE459 := Aside0.mk ((g1 hg bw : w.heap.size ≤ ak)); replace HB := Aside0.mk (below_step bw hb); clear hb hbox hg) | ((with_reducible refine gate_callee (f := 41) rfl ?_); refine goesL_ (some 10) rfl rfl Tryd.func41 (by kernel_rfl) rfl #[.string (⟨#[98, 116, 116, 108, 116, 116, 108, 98, 108]⟩ : ByteArray), .string a0] rfl am ?_; (with_reducible refine (carillonref01_Decode.calls k (⟨#[98, 116, 116, 108, 116, 116, 108, 98, 108]⟩ : ByteArray) a0 t460 t461 _ A2.out).mono ?_); rintro e w62 ⟨v462, rfl, ho0, hb⟩; refine ⟨_, rfl, ?_⟩; have ap := Aside0.mk (Kd.R_lower ho0 (below_size bw)); replace ae := Aside0.mk (nb ae.out hb); replace HB := Aside0.mk (below_step bw hb); (try clear hb); (try clear ho0); obtain ⟨hcz63_0, hcz63_1, hcz63_2, hcz63_3, hcz63_4, hcz63_5, hcz63_6, hcz63_7, hcz63_8, hfz63_0, hfz63_1, hfz63_2, hfz63_3, hfz63_4, hfz63_5, hfz63_6, hfz63_7, hfz63_8⟩ := bx9 ae.out))
  refine bodyPost_ret (results_ct rfl _ _ ak 23 #[.int .i64 0, .string (⟨#[]⟩ : ByteArray), .string (⟨#[]⟩ : ByteArray), .int .i64 0, .string (⟨#[]⟩ : ByteArray), .string (⟨#[]⟩ : ByteArray), .int .i64 0, .int .i64 0, .int .i64 0] (0, 0) _ rfl (by (iterate 9 ((with_reducible repeat (first | refine blk_drewN ?_ _ | refine blk_drew ?_ | refine blk_alloc ?_ _)); refine blk_put (cs := za1_) ?_ _ _ rfl)); (with_reducible repeat (first | refine blk_drewN ?_ _ | refine blk_drew ?_ | refine blk_alloc ?_ _)); exact ae.out) Tryd.underlying23 rfl (by kernel_rfl)) rfl ?_
  exact ⟨er, bw⟩
 rw [if_pos c3] at H
 have bs : (t461 == 0) = true := beq_iff_eq.mpr c3
 have bu : (t461 != 0) = false := bne_eq_false_iff_eq.mpr c3
 clear c3
 have HC4 := Aside0.mk H
 clear H
 go_enter Tryd.func15, Tryd.ntmps15
 go_upto_region 4 with (first | ((with_reducible refine gate_dst (N := 2) rfl ?_); refine box_event ?hg (N := 2) ?hd (cs := za1_) (t := 23) ?hr ?_; (case hd => rfl); (case hg => rfl); (case hr => first | (go_simp; done) | (go_simp; rfl)); intro ak hg w5 hbox hb; have ae := Aside0.mk (hbox); have GW459 := Aside0.mk ((g1 hg bw : w.heap.size ≤ ak)); have GE459 := Aside0.mk ((g1 hg bw : w.heap.size ≤ ak)); replace HB := Aside0.mk (below_step bw hb); clear hb hbox hg) | ((with_reducible refine gate_callee (f := 41) rfl ?_); refine goesL_ (some 10) rfl rfl Tryd.func41 (by kernel_rfl) rfl #[.string (⟨#[98, 116, 116, 108, 116, 116, 108, 98, 108]⟩ : ByteArray), .string a0] rfl am ?_; (with_reducible refine (carillonref01_Decode.calls k (⟨#[98, 116, 116, 108, 116, 116, 108, 98, 108]⟩ : ByteArray) a0 t460 t461 _ A2.out).mono ?_); rintro e w6 ⟨v462, rfl, ho0, hb⟩; refine ⟨_, rfl, ?_⟩; have ap := Aside0.mk (Kd.R_lower ho0 (below_size bw)); replace ae := Aside0.mk (nb ae.out hb); replace HB := Aside0.mk (below_step bw hb); (try clear hb); (try clear ho0)))
 (try simp only [Act.put, sl1, sl2, sl3])
 go_cut [35] (fun v35 wc => ∃ (kq : Nat) (x35_3 : Bool), v35 = .bool x35_3 ∧ Aside0 (carillonref14_Decode.j0 kq t460 x35_3 = some (r1, r2, r3, r4, r5, r6, r7, r8, r9, r10)) ∧ Aside0 (kq ≤ k) ∧ Aside0 (Kd.R k57 57 wc w.heap.size (fun _ => True) v462 t460) ∧ Aside0 (wc.heap[ak]? = some (.cells #[.int .i64 0, .string (⟨#[]⟩ : ByteArray), .string (⟨#[]⟩ : ByteArray), .int .i64 0, .string (⟨#[]⟩ : ByteArray), .string (⟨#[]⟩ : ByteArray), .int .i64 0, .int .i64 0, .int .i64 0] 23 (0, 0))) ∧ Aside0 (Below w.heap.size w wc))
 case first =>
  have H := HC4.out
  clear HC4
  obtain ⟨c7, H⟩ := its H
  have br : decide (3 < (t460.length : Int)) = true := decide_eq_true c7
  have c7b1 : decide (3 < t460.length) = true := decide_eq_true (by omega)
  clear c7
  (first | rw [br] | (simp only [i64_w, i32_w]; rw [br]) | skip)
  by_cases c8 : ((rd_T57 t460 3).f1) > 9007199254740991
  ·rw [if_pos c8] at H
   have bv : decide (9007199254740991 < ((rd_T57 t460 3).f1)) = true := decide_eq_true c8
   clear c8
   have H' := Aside0.mk H
   clear H
   obtain ⟨Ao9, co9, eo9⟩ := Kd.R_slice ap.out
   subst eo9
   have p464 : 0 ≤ (3 : Int) := (by omega)
   have q464 : 3 < (t460.length : Int) := od
   obtain ⟨bo, e464, ah, ai, aj⟩ := at_T57 (Kd.R_reads' ap.out).2.2 3 p464 q464
   cases e464
   (try simp only [tn3, Nat.reduceMul, Nat.reduceEqDiff, Go.Addr.add, ↓reduceIte] at ah)
   (try simp only [tn3, Nat.reduceMul, Nat.reduceEqDiff, Go.Addr.add, ↓reduceIte] at ai)
   (try simp only [tn3, Nat.reduceMul, Nat.reduceEqDiff, Go.Addr.add, ↓reduceIte] at aj)
   have qi464 : (3 < t460.length) = True := eq_true (by omega)
   (try rw [tn3] at ah)
   (try rw [show 3 * 3 = 9 from rfl] at ah)
   (try rw [tn3] at ai)
   (try rw [show 3 * 3 = 9 from rfl] at ai)
   (try rw [tn3] at aj)
   (try rw [show 3 * 3 = 9 from rfl] at aj)
   replace p464 := eq_true p464
   replace q464 := eq_true q464
   go_wp2
   go_meet
   case rel => exact ⟨_, (true), (by first | rfl | (simp; done) | (simp [*]; done)), H', ⟨by first | omega | exact Nat.le_refl _⟩, ⟨r_ ap.out⟩, ⟨by (with_reducible repeat (first | refine blk_drewN ?_ _ | refine blk_drew ?_ | refine blk_alloc ?_ _)); exact ae.out⟩, ⟨bw⟩⟩
  rw [if_neg c8] at H
  have bv : decide (9007199254740991 < ((rd_T57 t460 3).f1)) = false := decide_eq_false c8
  clear c8
  obtain ⟨c10, H⟩ := its H
  have c10b0 : decide (6 < (t460.length : Int)) = true := decide_eq_true c10
  have c10b1 : decide (6 < t460.length) = true := decide_eq_true (by omega)
  clear c10
  by_cases c11 : ((rd_T57 t460 6).f1) > 9007199254740992
  ·rw [if_pos c11] at H
   have bq : decide (9007199254740992 < ((rd_T57 t460 6).f1)) = true := decide_eq_true c11
   clear c11
   have H' := Aside0.mk H
   clear H
   obtain ⟨Ao12, co12, eo12⟩ := Kd.R_slice ap.out
   subst eo12
   have p464 : 0 ≤ (3 : Int) := (by omega)
   have q464 : 3 < (t460.length : Int) := od
   obtain ⟨bo, e464, ah, ai, aj⟩ := at_T57 (Kd.R_reads' ap.out).2.2 3 p464 q464
   cases e464
   (try simp only [tn3, Nat.reduceMul, Nat.reduceEqDiff, Go.Addr.add, ↓reduceIte] at ah)
   (try simp only [tn3, Nat.reduceMul, Nat.reduceEqDiff, Go.Addr.add, ↓reduceIte] at ai)
   (try simp only [tn3, Nat.reduceMul, Nat.reduceEqDiff, Go.Addr.add, ↓reduceIte] at aj)
   have qi464 : (3 < t460.length) = True := eq_true (by omega)
   (try rw [tn3] at ah)
   (try rw [show 3 * 3 = 9 from rfl] at ah)
   (try rw [tn3] at ai)
   (try rw [show 3 * 3 = 9 from rfl] at ai)
   (try rw [tn3] at aj)
   (try rw [show 3 * 3 = 9 from rfl] at aj)
   replace p464 := eq_true p464
   replace q464 := eq_true q464
   have p465 : 0 ≤ (6 : Int) := (by omega)
   have q465 : 6 < (t460.length : Int) := od
   obtain ⟨bp, e465, al, an, ao⟩ := at_T57 (Kd.R_reads' ap.out).2.2 6 p465 q465
   obtain rfl : bo = bp := (by injection e465)
   (try simp only [tn6, Nat.reduceMul, Nat.reduceEqDiff, Go.Addr.add, ↓reduceIte] at al)
   (try simp only [tn6, Nat.reduceMul, Nat.reduceEqDiff, Go.Addr.add, ↓reduceIte] at an)
   (try simp only [tn6, Nat.reduceMul, Nat.reduceEqDiff, Go.Addr.add, ↓reduceIte] at ao)
   have qi465 : (6 < t460.length) = True := eq_true (by omega)
   (try rw [tn6] at al)
   (try rw [show 6 * 3 = 18 from rfl] at al)
   (try rw [tn6] at an)
   (try rw [show 6 * 3 = 18 from rfl] at an)
   (try rw [tn6] at ao)
   (try rw [show 6 * 3 = 18 from rfl] at ao)
   replace p465 := eq_true p465
   replace q465 := eq_true q465
   go_wp2
   go_meet
   case rel => exact ⟨_, (true), (by first | rfl | (simp; done) | (simp [*]; done)), H', ⟨by first | omega | exact Nat.le_refl _⟩, ⟨r_ ap.out⟩, ⟨by (with_reducible repeat (first | refine blk_drewN ?_ _ | refine blk_drew ?_ | refine blk_alloc ?_ _)); exact ae.out⟩, ⟨bw⟩⟩
  rw [if_neg c11] at H
  have bq : decide (9007199254740992 < ((rd_T57 t460 6).f1)) = false := decide_eq_false c11
  clear c11
  obtain ⟨c13, H⟩ := its H
  have c13b0 : decide (8 < (t460.length : Int)) = true := decide_eq_true c13
  have c13b1 : decide (8 < t460.length) = true := decide_eq_true (by omega)
  clear c13
  have H' := Aside0.mk H
  clear H
  obtain ⟨Ao14, co14, eo14⟩ := Kd.R_slice ap.out
  subst eo14
  have p464 : 0 ≤ (3 : Int) := (by omega)
  have q464 : 3 < (t460.length : Int) := od
  obtain ⟨bo, e464, ah, ai, aj⟩ := at_T57 (Kd.R_reads' ap.out).2.2 3 p464 q464
  cases e464
  (try simp only [tn3, Nat.reduceMul, Nat.reduceEqDiff, Go.Addr.add, ↓reduceIte] at ah)
  (try simp only [tn3, Nat.reduceMul, Nat.reduceEqDiff, Go.Addr.add, ↓reduceIte] at ai)
  (try simp only [tn3, Nat.reduceMul, Nat.reduceEqDiff, Go.Addr.add, ↓reduceIte] at aj)
  have qi464 : (3 < t460.length) = True := eq_true (by omega)
  (try rw [tn3] at ah)
  (try rw [show 3 * 3 = 9 from rfl] at ah)
  (try rw [tn3] at ai)
  (try rw [show 3 * 3 = 9 from rfl] at ai)
  (try rw [tn3] at aj)
  (try rw [show 3 * 3 = 9 from rfl] at aj)
  replace p464 := eq_true p464
  replace q464 := eq_true q464
  have p465 : 0 ≤ (6 : Int) := (by omega)
  have q465 : 6 < (t460.length : Int) := od
  obtain ⟨bp, e465, al, an, ao⟩ := at_T57 (Kd.R_reads' ap.out).2.2 6 p465 q465
  obtain rfl : bo = bp := (by injection e465)
  (try simp only [tn6, Nat.reduceMul, Nat.reduceEqDiff, Go.Addr.add, ↓reduceIte] at al)
  (try simp only [tn6, Nat.reduceMul, Nat.reduceEqDiff, Go.Addr.add, ↓reduceIte] at an)
  (try simp only [tn6, Nat.reduceMul, Nat.reduceEqDiff, Go.Addr.add, ↓reduceIte] at ao)
  have qi465 : (6 < t460.length) = True := eq_true (by omega)
  (try rw [tn6] at al)
  (try rw [show 6 * 3 = 18 from rfl] at al)
  (try rw [tn6] at an)
  (try rw [show 6 * 3 = 18 from rfl] at an)
  (try rw [tn6] at ao)
  (try rw [show 6 * 3 = 18 from rfl] at ao)
  replace p465 := eq_true p465
  replace q465 := eq_true q465
  have p466 : 0 ≤ (8 : Int) := (by omega)
  have q466 : 8 < (t460.length : Int) := od
  obtain ⟨ad466, e466, bl, bm, bn⟩ := at_T57 (Kd.R_reads' ap.out).2.2 8 p466 q466
  obtain rfl : bo = ad466 := (by injection e466)
  (try simp only [tn8, Nat.reduceMul, Nat.reduceEqDiff, Go.Addr.add, ↓reduceIte] at bl)
  (try simp only [tn8, Nat.reduceMul, Nat.reduceEqDiff, Go.Addr.add, ↓reduceIte] at bm)
  (try simp only [tn8, Nat.reduceMul, Nat.reduceEqDiff, Go.Addr.add, ↓reduceIte] at bn)
  have qi466 : (8 < t460.length) = True := eq_true (by omega)
  (try rw [tn8] at bl)
  (try rw [show 8 * 3 = 24 from rfl] at bl)
  (try rw [tn8] at bm)
  (try rw [show 8 * 3 = 24 from rfl] at bm)
  (try rw [tn8] at bn)
  (try rw [show 8 * 3 = 24 from rfl] at bn)
  replace p466 := eq_true p466
  replace q466 := eq_true q466
  go_wp2
  go_meet
  case rel => exact ⟨_, (decide (((rd_T57 t460 8).f1) > 9007199254740991)), (by first | rfl | (simp; done) | (simp [*]; done)), H', ⟨by first | omega | exact Nat.le_refl _⟩, ⟨r_ ap.out⟩, ⟨by (with_reducible repeat (first | refine blk_drewN ?_ _ | refine blk_drew ?_ | refine blk_alloc ?_ _)); exact ae.out⟩, ⟨bw⟩⟩
 case rest =>
  clear HC4
  try clear c1
  try clear p2
  try clear c3
  try clear bs
  try clear bu
  try clear c4
  try clear p4
  try clear q4
  try clear hx4
  try clear qi4
  try clear c7
  try clear br
  try clear c7b1
  try clear c8
  try clear bv
  try clear c10
  try clear c10b0
  try clear c10b1
  try clear c11
  try clear bq
  try clear c13
  try clear c13b0
  try clear c13b1
  try clear ah
  try clear ai
  try clear aj
  try clear al
  try clear an
  try clear ao
  try clear bl
  try clear bm
  try clear bn
  try clear p464
  try clear p465
  try clear p466
  try clear q464
  try clear q465
  try clear q466
  obtain ⟨kq, x35_3, rfl, HA, HJ3, ac, ae, HB⟩ := hcut
  cases kq with
  | zero => exact absurd HA.out (by simp [carillonref14_Decode.j0])
  | succ kj3 =>
   have H := HA.out
   clear HA
   simp only [carillonref14_Decode.j0] at H
   by_cases c15 : x35_3 = true
   ·subst c15
    have H1 := H
    rw [if_pos rfl] at H1
    clear H
    have H := H1
    clear H1
    simp only [Option.some.injEq, Prod.mk.injEq] at H
    obtain ⟨rfl, rfl, rfl, rfl, rfl, rfl, rfl, rfl, rfl, rfl⟩ := H
    obtain ⟨hcz16_0, hcz16_1, hcz16_2, hcz16_3, hcz16_4, hcz16_5, hcz16_6, hcz16_7, hcz16_8, hfz16_0, hfz16_1, hfz16_2, hfz16_3, hfz16_4, hfz16_5, hfz16_6, hfz16_7, hfz16_8⟩ := bx9 ae.out
    go_wp2
    refine bodyPost_ret (results_ct rfl _ _ ak 23 #[.int .i64 0, .string (⟨#[]⟩ : ByteArray), .string (⟨#[]⟩ : ByteArray), .int .i64 0, .string (⟨#[]⟩ : ByteArray), .string (⟨#[]⟩ : ByteArray), .int .i64 0, .int .i64 0, .int .i64 0] (0, 0) _ rfl (by (iterate 9 ((with_reducible repeat (first | refine blk_drewN ?_ _ | refine blk_drew ?_ | refine blk_alloc ?_ _)); refine blk_put (cs := za1_) ?_ _ _ rfl)); (with_reducible repeat (first | refine blk_drewN ?_ _ | refine blk_drew ?_ | refine blk_alloc ?_ _)); exact ae.out) Tryd.underlying23 rfl (by kernel_rfl)) rfl ?_
    exact ⟨er, bw⟩
   replace c15 := Bool.eq_false_iff.mpr c15
   subst c15
   have H1 : (if 0 < (t460.length : Int) then (if 1 < (t460.length : Int) then (if 2 < (t460.length : Int) then (if 3 < (t460.length : Int) then (if 4 < (t460.length : Int) then (if 5 < (t460.length : Int) then (if 6 < (t460.length : Int) then (if 7 < (t460.length : Int) then (if 8 < (t460.length : Int) then ((carillonref14_Right.f kj3 (wrap64 ((rd_T57 t460 0).f1)) ((rd_T57 t460 1).f2) ((rd_T57 t460 2).f2) (wrap64 ((rd_T57 t460 3).f1)) ((rd_T57 t460 4).f2) ((rd_T57 t460 5).f2) (wrap64 ((wrap64 ((rd_T57 t460 6).f1)) - 1)) (wrap64 ((rd_T57 t460 7).f1)) (wrap64 ((rd_T57 t460 8).f1))).bind fun t477 => (if t477 = true then (some (wrap64 ((rd_T57 t460 0).f1), (rd_T57 t460 1).f2, (rd_T57 t460 2).f2, wrap64 ((rd_T57 t460 3).f1), (rd_T57 t460 4).f2, (rd_T57 t460 5).f2, wrap64 ((wrap64 ((rd_T57 t460 6).f1)) - 1), wrap64 ((rd_T57 t460 7).f1), wrap64 ((rd_T57 t460 8).f1), 0)) else (some (0, (⟨#[]⟩ : ByteArray), (⟨#[]⟩ : ByteArray), 0, (⟨#[]⟩ : ByteArray), (⟨#[]⟩ : ByteArray), 0, 0, 0, 10)))) else (none)) else (none)) else (none)) else (none)) else (none)) else (none)) else (none)) else (none)) else (none)) = some (r1, r2, r3, r4, r5, r6, r7, r8, r9, r10) := by rw [if_neg (show ¬ (false = true) by decide)] at H; exact H
   clear H
   have H := H1
   clear H1
   obtain ⟨c17, H⟩ := its H
   have c17b0 : decide (0 < (t460.length : Int)) = true := decide_eq_true c17
   have c17b1 : decide (0 < t460.length) = true := decide_eq_true (by omega)
   clear c17
   obtain ⟨c18, H⟩ := its H
   have c18b0 : decide (1 < (t460.length : Int)) = true := decide_eq_true c18
   have c18b1 : decide (1 < t460.length) = true := decide_eq_true (by omega)
   clear c18
   obtain ⟨c19, H⟩ := its H
   have c19b0 : decide (2 < (t460.length : Int)) = true := decide_eq_true c19
   have c19b1 : decide (2 < t460.length) = true := decide_eq_true (by omega)
   clear c19
   obtain ⟨c20, H⟩ := its H
   have c20b0 : decide (3 < (t460.length : Int)) = true := decide_eq_true c20
   have c20b1 : decide (3 < t460.length) = true := decide_eq_true (by omega)
   clear c20
   obtain ⟨c21, H⟩ := its H
   have c21b0 : decide (4 < (t460.length : Int)) = true := decide_eq_true c21
   have c21b1 : decide (4 < t460.length) = true := decide_eq_true (by omega)
   clear c21
   obtain ⟨c22, H⟩ := its H
   have c22b0 : decide (5 < (t460.length : Int)) = true := decide_eq_true c22
   have c22b1 : decide (5 < t460.length) = true := decide_eq_true (by omega)
   clear c22
   obtain ⟨c23, H⟩ := its H
   have c23b0 : decide (6 < (t460.length : Int)) = true := decide_eq_true c23
   have c23b1 : decide (6 < t460.length) = true := decide_eq_true (by omega)
   clear c23
   obtain ⟨c24, H⟩ := its H
   have c24b0 : decide (7 < (t460.length : Int)) = true := decide_eq_true c24
   have c24b1 : decide (7 < t460.length) = true := decide_eq_true (by omega)
   clear c24
   obtain ⟨c25, H⟩ := its H
   have c25b0 : decide (8 < (t460.length : Int)) = true := decide_eq_true c25
   have c25b1 : decide (8 < t460.length) = true := decide_eq_true (by omega)
   clear c25
   replace H := Option.bind_eq_some_iff.mp H
   obtain ⟨t477, A260, H⟩ := H
   have A26 := Aside0.mk A260
   clear A260
   have HhZ := Aside0.mk H
   clear H
   try go_wp2
   replace ac := Aside0.mk (Kd.R_drew ac.out)
   replace ae := Aside0.mk (blk_drew ae.out)
   replace HB := Aside0.mk (below_drew1 HB.out)
   obtain ⟨Ao29, co29, bx⟩ := Kd.R_slice ac.out
   (first | subst bx | (injection bx with f1_ f2_ f3_; have f4_ := f1_.symm; have f5_ := f3_.symm; clear f1_ f2_ f3_; subst f4_; subst f5_))
   have p467 : 0 ≤ (0 : Int) := (by omega)
   have q467 : 0 < (t460.length : Int) := od
   obtain ⟨ad, e467, aq, ar, au⟩ := at_T57 (Kd.R_reads' ac.out).2.2 0 p467 q467
   cases e467
   have qi467 : (0 < t460.length) = True := eq_true (by omega)
   (try rw [tn0] at aq)
   (try rw [show 0 * 3 = 0 from rfl] at aq)
   (try rw [Addr.add_zero'] at aq)
   (try rw [tn0] at ar)
   (try rw [show 0 * 3 = 0 from rfl] at ar)
   (try rw [Addr.add_zero'] at ar)
   (try rw [tn0] at au)
   (try rw [show 0 * 3 = 0 from rfl] at au)
   (try rw [Addr.add_zero'] at au)
   replace p467 := eq_true p467
   replace q467 := eq_true q467
   have p468 : 0 ≤ (1 : Int) := (by omega)
   have q468 : 1 < (t460.length : Int) := od
   obtain ⟨ad468, e468, av, aw, ax⟩ := at_T57 (Kd.R_reads' ac.out).2.2 1 p468 q468
   obtain rfl : ad = ad468 := (by injection e468)
   (try simp only [tn1, Nat.reduceMul, Nat.reduceEqDiff, Go.Addr.add, ↓reduceIte] at av)
   (try simp only [tn1, Nat.reduceMul, Nat.reduceEqDiff, Go.Addr.add, ↓reduceIte] at aw)
   (try simp only [tn1, Nat.reduceMul, Nat.reduceEqDiff, Go.Addr.add, ↓reduceIte] at ax)
   have qi468 : (1 < t460.length) = True := eq_true (by omega)
   (try rw [tn1] at av)
   (try rw [show 1 * 3 = 3 from rfl] at av)
   (try rw [tn1] at aw)
   (try rw [show 1 * 3 = 3 from rfl] at aw)
   (try rw [tn1] at ax)
   (try rw [show 1 * 3 = 3 from rfl] at ax)
   replace p468 := eq_true p468
   replace q468 := eq_true q468
   have p469 : 0 ≤ (2 : Int) := (by omega)
   have q469 : 2 < (t460.length : Int) := od
   obtain ⟨ad469, e469, ay, az, a1⟩ := at_T57 (Kd.R_reads' ac.out).2.2 2 p469 q469
   obtain rfl : ad = ad469 := (by injection e469)
   (try simp only [tn2, Nat.reduceMul, Nat.reduceEqDiff, Go.Addr.add, ↓reduceIte] at ay)
   (try simp only [tn2, Nat.reduceMul, Nat.reduceEqDiff, Go.Addr.add, ↓reduceIte] at az)
   (try simp only [tn2, Nat.reduceMul, Nat.reduceEqDiff, Go.Addr.add, ↓reduceIte] at a1)
   have qi469 : (2 < t460.length) = True := eq_true (by omega)
   (try rw [tn2] at ay)
   (try rw [show 2 * 3 = 6 from rfl] at ay)
   (try rw [tn2] at az)
   (try rw [show 2 * 3 = 6 from rfl] at az)
   (try rw [tn2] at a1)
   (try rw [show 2 * 3 = 6 from rfl] at a1)
   replace p469 := eq_true p469
   replace q469 := eq_true q469
   have p470 : 0 ≤ (3 : Int) := (by omega)
   have q470 : 3 < (t460.length : Int) := od
   obtain ⟨ad470, e470, a2, a3, a4⟩ := at_T57 (Kd.R_reads' ac.out).2.2 3 p470 q470
   obtain rfl : ad = ad470 := (by injection e470)
   (try simp only [tn3, Nat.reduceMul, Nat.reduceEqDiff, Go.Addr.add, ↓reduceIte] at a2)
   (try simp only [tn3, Nat.reduceMul, Nat.reduceEqDiff, Go.Addr.add, ↓reduceIte] at a3)
   (try simp only [tn3, Nat.reduceMul, Nat.reduceEqDiff, Go.Addr.add, ↓reduceIte] at a4)
   have qi470 : (3 < t460.length) = True := eq_true (by omega)
   (try rw [tn3] at a2)
   (try rw [show 3 * 3 = 9 from rfl] at a2)
   (try rw [tn3] at a3)
   (try rw [show 3 * 3 = 9 from rfl] at a3)
   (try rw [tn3] at a4)
   (try rw [show 3 * 3 = 9 from rfl] at a4)
   replace p470 := eq_true p470
   replace q470 := eq_true q470
   have p471 : 0 ≤ (4 : Int) := (by omega)
   have q471 : 4 < (t460.length : Int) := od
   obtain ⟨ad471, e471, a5, a6, a7⟩ := at_T57 (Kd.R_reads' ac.out).2.2 4 p471 q471
   obtain rfl : ad = ad471 := (by injection e471)
   (try simp only [tn4, Nat.reduceMul, Nat.reduceEqDiff, Go.Addr.add, ↓reduceIte] at a5)
   (try simp only [tn4, Nat.reduceMul, Nat.reduceEqDiff, Go.Addr.add, ↓reduceIte] at a6)
   (try simp only [tn4, Nat.reduceMul, Nat.reduceEqDiff, Go.Addr.add, ↓reduceIte] at a7)
   have qi471 : (4 < t460.length) = True := eq_true (by omega)
   (try rw [tn4] at a5)
   (try rw [show 4 * 3 = 12 from rfl] at a5)
   (try rw [tn4] at a6)
   (try rw [show 4 * 3 = 12 from rfl] at a6)
   (try rw [tn4] at a7)
   (try rw [show 4 * 3 = 12 from rfl] at a7)
   replace p471 := eq_true p471
   replace q471 := eq_true q471
   have p472 : 0 ≤ (5 : Int) := (by omega)
   have q472 : 5 < (t460.length : Int) := od
   obtain ⟨ad472, e472, a8, a9, ba⟩ := at_T57 (Kd.R_reads' ac.out).2.2 5 p472 q472
   obtain rfl : ad = ad472 := (by injection e472)
   (try simp only [tn5, Nat.reduceMul, Nat.reduceEqDiff, Go.Addr.add, ↓reduceIte] at a8)
   (try simp only [tn5, Nat.reduceMul, Nat.reduceEqDiff, Go.Addr.add, ↓reduceIte] at a9)
   (try simp only [tn5, Nat.reduceMul, Nat.reduceEqDiff, Go.Addr.add, ↓reduceIte] at ba)
   have qi472 : (5 < t460.length) = True := eq_true (by omega)
   (try rw [tn5] at a8)
   (try rw [show 5 * 3 = 15 from rfl] at a8)
   (try rw [tn5] at a9)
   (try rw [show 5 * 3 = 15 from rfl] at a9)
   (try rw [tn5] at ba)
   (try rw [show 5 * 3 = 15 from rfl] at ba)
   replace p472 := eq_true p472
   replace q472 := eq_true q472
   have p473 : 0 ≤ (6 : Int) := (by omega)
   have q473 : 6 < (t460.length : Int) := od
   obtain ⟨ad473, e473, bb, bc, bd⟩ := at_T57 (Kd.R_reads' ac.out).2.2 6 p473 q473
   obtain rfl : ad = ad473 := (by injection e473)
   (try simp only [tn6, Nat.reduceMul, Nat.reduceEqDiff, Go.Addr.add, ↓reduceIte] at bb)
   (try simp only [tn6, Nat.reduceMul, Nat.reduceEqDiff, Go.Addr.add, ↓reduceIte] at bc)
   (try simp only [tn6, Nat.reduceMul, Nat.reduceEqDiff, Go.Addr.add, ↓reduceIte] at bd)
   have qi473 : (6 < t460.length) = True := eq_true (by omega)
   (try rw [tn6] at bb)
   (try rw [show 6 * 3 = 18 from rfl] at bb)
   (try rw [tn6] at bc)
   (try rw [show 6 * 3 = 18 from rfl] at bc)
   (try rw [tn6] at bd)
   (try rw [show 6 * 3 = 18 from rfl] at bd)
   replace p473 := eq_true p473
   replace q473 := eq_true q473
   have p474 : 0 ≤ (7 : Int) := (by omega)
   have q474 : 7 < (t460.length : Int) := od
   obtain ⟨ad474, e474, be, bf, bg⟩ := at_T57 (Kd.R_reads' ac.out).2.2 7 p474 q474
   obtain rfl : ad = ad474 := (by injection e474)
   (try simp only [tn7, Nat.reduceMul, Nat.reduceEqDiff, Go.Addr.add, ↓reduceIte] at be)
   (try simp only [tn7, Nat.reduceMul, Nat.reduceEqDiff, Go.Addr.add, ↓reduceIte] at bf)
   (try simp only [tn7, Nat.reduceMul, Nat.reduceEqDiff, Go.Addr.add, ↓reduceIte] at bg)
   have qi474 : (7 < t460.length) = True := eq_true (by omega)
   (try rw [tn7] at be)
   (try rw [show 7 * 3 = 21 from rfl] at be)
   (try rw [tn7] at bf)
   (try rw [show 7 * 3 = 21 from rfl] at bf)
   (try rw [tn7] at bg)
   (try rw [show 7 * 3 = 21 from rfl] at bg)
   replace p474 := eq_true p474
   replace q474 := eq_true q474
   have p475 : 0 ≤ (8 : Int) := (by omega)
   have q475 : 8 < (t460.length : Int) := od
   obtain ⟨ad475, e475, bh, bi, bj⟩ := at_T57 (Kd.R_reads' ac.out).2.2 8 p475 q475
   obtain rfl : ad = ad475 := (by injection e475)
   (try simp only [tn8, Nat.reduceMul, Nat.reduceEqDiff, Go.Addr.add, ↓reduceIte] at bh)
   (try simp only [tn8, Nat.reduceMul, Nat.reduceEqDiff, Go.Addr.add, ↓reduceIte] at bi)
   (try simp only [tn8, Nat.reduceMul, Nat.reduceEqDiff, Go.Addr.add, ↓reduceIte] at bj)
   have qi475 : (8 < t460.length) = True := eq_true (by omega)
   (try rw [tn8] at bh)
   (try rw [show 8 * 3 = 24 from rfl] at bh)
   (try rw [tn8] at bi)
   (try rw [show 8 * 3 = 24 from rfl] at bi)
   (try rw [tn8] at bj)
   (try rw [show 8 * 3 = 24 from rfl] at bj)
   replace p475 := eq_true p475
   replace q475 := eq_true q475
   refine start_ (n := 45) (S := fun w' => w'.cell? ad = some (.int .i64 ((rd_T57 t460 0).f0)) ∧ w'.cell? ⟨ad.block, ad.off + 1, none⟩ = some (.int .u64 ((rd_T57 t460 0).f1)) ∧ w'.cell? ⟨ad.block, ad.off + 2, none⟩ = some (.string ((rd_T57 t460 0).f2)) ∧ w'.cell? ⟨ad.block, ad.off + 3, none⟩ = some (.int .i64 ((rd_T57 t460 1).f0)) ∧ w'.cell? ⟨ad.block, ad.off + 3 + 1, none⟩ = some (.int .u64 ((rd_T57 t460 1).f1)) ∧ w'.cell? ⟨ad.block, ad.off + 3 + 2, none⟩ = some (.string ((rd_T57 t460 1).f2)) ∧ w'.cell? ⟨ad.block, ad.off + 6, none⟩ = some (.int .i64 ((rd_T57 t460 2).f0)) ∧ w'.cell? ⟨ad.block, ad.off + 6 + 1, none⟩ = some (.int .u64 ((rd_T57 t460 2).f1)) ∧ w'.cell? ⟨ad.block, ad.off + 6 + 2, none⟩ = some (.string ((rd_T57 t460 2).f2)) ∧ w'.cell? ⟨ad.block, ad.off + 9, none⟩ = some (.int .i64 ((rd_T57 t460 3).f0)) ∧ w'.cell? ⟨ad.block, ad.off + 9 + 1, none⟩ = some (.int .u64 ((rd_T57 t460 3).f1)) ∧ w'.cell? ⟨ad.block, ad.off + 9 + 2, none⟩ = some (.string ((rd_T57 t460 3).f2)) ∧ w'.cell? ⟨ad.block, ad.off + 12, none⟩ = some (.int .i64 ((rd_T57 t460 4).f0)) ∧ w'.cell? ⟨ad.block, ad.off + 12 + 1, none⟩ = some (.int .u64 ((rd_T57 t460 4).f1)) ∧ w'.cell? ⟨ad.block, ad.off + 12 + 2, none⟩ = some (.string ((rd_T57 t460 4).f2)) ∧ w'.cell? ⟨ad.block, ad.off + 15, none⟩ = some (.int .i64 ((rd_T57 t460 5).f0)) ∧ w'.cell? ⟨ad.block, ad.off + 15 + 1, none⟩ = some (.int .u64 ((rd_T57 t460 5).f1)) ∧ w'.cell? ⟨ad.block, ad.off + 15 + 2, none⟩ = some (.string ((rd_T57 t460 5).f2)) ∧ w'.cell? ⟨ad.block, ad.off + 18, none⟩ = some (.int .i64 ((rd_T57 t460 6).f0)) ∧ w'.cell? ⟨ad.block, ad.off + 18 + 1, none⟩ = some (.int .u64 ((rd_T57 t460 6).f1)) ∧ w'.cell? ⟨ad.block, ad.off + 18 + 2, none⟩ = some (.string ((rd_T57 t460 6).f2)) ∧ w'.cell? ⟨ad.block, ad.off + 21, none⟩ = some (.int .i64 ((rd_T57 t460 7).f0)) ∧ w'.cell? ⟨ad.block, ad.off + 21 + 1, none⟩ = some (.int .u64 ((rd_T57 t460 7).f1)) ∧ w'.cell? ⟨ad.block, ad.off + 21 + 2, none⟩ = some (.string ((rd_T57 t460 7).f2)) ∧ w'.cell? ⟨ad.block, ad.off + 24, none⟩ = some (.int .i64 ((rd_T57 t460 8).f0)) ∧ w'.cell? ⟨ad.block, ad.off + 24 + 1, none⟩ = some (.int .u64 ((rd_T57 t460 8).f1)) ∧ w'.cell? ⟨ad.block, ad.off + 24 + 2, none⟩ = some (.string ((rd_T57 t460 8).f2))) (ds := []) (bz 45 0) (by kernel_rfl) rfl rfl ⟨aq, ar, au, av, aw, ax, ay, az, a1, a2, a3, a4, a5, a6, a7, a8, a9, ba, bb, bc, bd, be, bf, bg, bh, bi, bj⟩ (fun hHeld => ?_); refine with_tabW carillonref14_Decode.tab6 carillonref14_Decode.bits6 (fun HT_ HW_ => ?_)
   generalize wc.drew = w28 at ac ae HB aq ar au av aw ax ay az a1 a2 a3 a4 a5 a6 a7 a8 a9 ba bb bc bd be bf bg bh bi bj hHeld ⊢
   refine pu_ 0 (some 37) (bz 45 1) HT_.out ?_
   refine pu_ 1 (some 38) (bz 45 3) HT_.out ?_
   refine pu_ 2 (some 39) (bz 45 7) HT_.out ?_
   refine pu_ 5 (some 42) (bz 45 39) HT_.out ?_
   refine pu_ 6 (some 43) (bz 45 103) HT_.out ?_
   refine pu_ 7 (some 44) (bz 45 231) HT_.out ?_
   refine pu_ 9 (some 46) (bz 45 743) HT_.out ?_
   refine pu_ 10 (some 47) (bz 45 1767) HT_.out ?_
   refine pu_ 11 (some 48) (bz 45 3815) HT_.out ?_
   refine pu_ 13 (some 50) (bz 45 12007) HT_.out ?_
   refine pu_ 14 (some 51) (bz 45 28391) HT_.out ?_
   refine pu_ 15 (some 52) (bz 45 61159) HT_.out ?_
   refine pu_ 18 (some 55) (bz 45 323303) HT_.out ?_
   refine pu_ 19 (some 56) (bz 45 847591) HT_.out ?_
   refine pu_ 20 (some 57) (bz 45 1896167) HT_.out ?_
   refine pu_ 22 (some 59) (bz 45 6090471) HT_.out ?_
   refine pu_ 23 (some 60) (bz 45 14479079) HT_.out ?_
   refine pu_ 24 (some 61) (bz 45 31256295) HT_.out ?_
   refine pu_ 26 (some 63) (bz 45 98365159) HT_.out ?_
   refine pu_ 27 (some 64) (bz 45 232582887) HT_.out ?_
   refine pu_ 28 (some 65) (bz 45 501018343) HT_.out ?_
   refine pu_ 32 (some 69) (bz 45 4795985639) HT_.out ?_
   refine pu_ 33 (some 70) (bz 45 13385920231) HT_.out ?_
   refine pu_ 34 (some 71) (bz 45 30565789415) HT_.out ?_
   refine pu_ 37 (some 74) (bz 45 168004742887) HT_.out ?_
   refine pu_ 38 (some 75) (bz 45 442882649831) HT_.out ?_
   refine pu_ 39 (some 76) (bz 45 992638463719) HT_.out ?_
   refine take_ (i := 3) (N := some 40) (v := ?_) (a' := ?_) (bz 45 992638463727) rfl rfl (take_ofW HT_.out HW_.out (by kernel_rfl)) (fun _ _ _ h => h) (Or.inl ⟨by rfl, ?_⟩) hHeld ?_ ?_
   rotate_left
   ·rintro w' ⟨s0, s1, s2, s3, s4, s5, s6, s7, s8, s9, s10, s11, s12, s13, s14, s15, s16, s17, s18, s19, s20, s21, s22, s23, s24, s25, s26⟩
    go_simp
    with_reducible rfl
   rotate_left
   ·simp only [Act.put, sl1, sl2, sl3, i64_w, i32_w]
    rfl
   refine pu_ 4 (some 41) (bz 45 992638463743) HT_.out ?_
   refine take_ (i := 8) (N := some 45) (v := ?_) (a' := ?_) (bz 45 992638463999) rfl rfl (take_ofW HT_.out HW_.out (by kernel_rfl)) (fun _ _ _ h => h) (Or.inl ⟨by rfl, ?_⟩) hHeld ?_ ?_
   rotate_left
   ·rintro w' ⟨s0, s1, s2, s3, s4, s5, s6, s7, s8, s9, s10, s11, s12, s13, s14, s15, s16, s17, s18, s19, s20, s21, s22, s23, s24, s25, s26⟩
    go_simp
    with_reducible rfl
   rotate_left
   ·simp only [Act.put, sl1, sl2, sl3, i64_w, i32_w]
    rfl
   refine take_ (i := 12) (N := some 49) (v := ?_) (a' := ?_) (bz 45 992638468095) rfl rfl (take_ofW HT_.out HW_.out (by kernel_rfl)) (fun _ _ _ h => h) (Or.inl ⟨by rfl, ?_⟩) hHeld ?_ ?_
   rotate_left
   ·rintro w' ⟨s0, s1, s2, s3, s4, s5, s6, s7, s8, s9, s10, s11, s12, s13, s14, s15, s16, s17, s18, s19, s20, s21, s22, s23, s24, s25, s26⟩
    go_simp
    with_reducible rfl
   rotate_left
   ·simp only [Act.put, sl1, sl2, sl3, i64_w, i32_w]
    rfl
   refine take_ (i := 16) (N := some 53) (v := ?_) (a' := ?_) (bz 45 992638533631) rfl rfl (take_ofW HT_.out HW_.out (by kernel_rfl)) (fun _ _ _ h => h) (Or.inl ⟨by rfl, ?_⟩) hHeld ?_ ?_
   rotate_left
   ·rintro w' ⟨s0, s1, s2, s3, s4, s5, s6, s7, s8, s9, s10, s11, s12, s13, s14, s15, s16, s17, s18, s19, s20, s21, s22, s23, s24, s25, s26⟩
    go_simp
    with_reducible rfl
   rotate_left
   ·simp only [Act.put, sl1, sl2, sl3, i64_w, i32_w]
    rfl
   refine pu_ 17 (some 54) (bz 45 992638664703) HT_.out ?_
   refine take_ (i := 21) (N := some 58) (v := ?_) (a' := ?_) (bz 45 992640761855) rfl rfl (take_ofW HT_.out HW_.out (by kernel_rfl)) (fun _ _ _ h => h) (Or.inl ⟨by rfl, ?_⟩) hHeld ?_ ?_
   rotate_left
   ·rintro w' ⟨s0, s1, s2, s3, s4, s5, s6, s7, s8, s9, s10, s11, s12, s13, s14, s15, s16, s17, s18, s19, s20, s21, s22, s23, s24, s25, s26⟩
    go_simp
    with_reducible rfl
   rotate_left
   ·simp only [Act.put, sl1, sl2, sl3, i64_w, i32_w]
    rfl
   refine take_ (i := 25) (N := some 62) (v := ?_) (a' := ?_) (bz 45 992674316287) rfl rfl (take_ofW HT_.out HW_.out (by kernel_rfl)) (fun _ _ _ h => h) (Or.inl ⟨by rfl, ?_⟩) hHeld ?_ ?_
   rotate_left
   ·rintro w' ⟨s0, s1, s2, s3, s4, s5, s6, s7, s8, s9, s10, s11, s12, s13, s14, s15, s16, s17, s18, s19, s20, s21, s22, s23, s24, s25, s26⟩
    go_simp
    with_reducible rfl
   rotate_left
   ·simp only [Act.put, sl1, sl2, sl3, i64_w, i32_w]
    rfl
   refine take_ (i := 29) (N := some 66) (v := ?_) (a' := ?_) (bz 45 993211187199) rfl rfl (take_ofW HT_.out HW_.out (by kernel_rfl)) (fun _ _ _ h => h) (Or.inl ⟨by rfl, ?_⟩) hHeld ?_ ?_
   rotate_left
   ·rintro w' ⟨s0, s1, s2, s3, s4, s5, s6, s7, s8, s9, s10, s11, s12, s13, s14, s15, s16, s17, s18, s19, s20, s21, s22, s23, s24, s25, s26⟩
    go_simp
    with_reducible rfl
   rotate_left
   ·simp only [Act.put, sl1, sl2, sl3, i64_w, i32_w]
    rfl
   refine pu_ 30 (some 67) (bz 45 994284929023) HT_.out ?_
   refine pu_ 31 (some 68) (bz 45 996432412671) HT_.out ?_
   refine take_ (i := 35) (N := some 72) (v := ?_) (a' := ?_) (bz 45 1030792151039) rfl rfl (take_ofW HT_.out HW_.out (by kernel_rfl)) (fun _ _ _ h => h) (Or.inl ⟨by rfl, ?_⟩) hHeld ?_ ?_
   rotate_left
   ·rintro w' ⟨s0, s1, s2, s3, s4, s5, s6, s7, s8, s9, s10, s11, s12, s13, s14, s15, s16, s17, s18, s19, s20, s21, s22, s23, s24, s25, s26⟩
    go_simp
    with_reducible rfl
   rotate_left
   ·simp only [Act.put, sl1, sl2, sl3, i64_w, i32_w]
    rfl
   refine pu_ 36 (some 73) (bz 45 1099511627775) HT_.out ?_
   refine take_ (i := 40) (N := some 77) (v := ?_) (a' := ?_) (bz 45 2199023255551) rfl rfl (take_ofW HT_.out HW_.out (by kernel_rfl)) (fun _ _ _ h => h) (Or.inl ⟨by rfl, ?_⟩) hHeld ?_ ?_
   rotate_left
   ·rintro w' ⟨s0, s1, s2, s3, s4, s5, s6, s7, s8, s9, s10, s11, s12, s13, s14, s15, s16, s17, s18, s19, s20, s21, s22, s23, s24, s25, s26⟩
    go_simp
    with_reducible rfl
   rotate_left
   ·simp only [Act.put, sl1, sl2, sl3, i64_w, i32_w]
    rfl
   refine pu_ 41 (some 78) (bz 45 4398046511103) HT_.out ?_
   refine pu_ 42 (some 79) (bz 45 8796093022207) HT_.out ?_
   refine one_ (i := 43) (N := some 6) (bz 45 17592186044415) rfl rfl (one_of HT_.out (by kernel_rfl)) (by decide) (fun K hK => ?_)
   refine box_step ?hg (N := 6) ?hd (cs := za1_) (t := 23) ?hr ?_; (case hd => rfl); (case hg => rfl); (case hr => first | (go_simp; done) | (go_simp; rfl))
   intro aa hg w30 hbox hb
   have HS0_ := (hb.cell (World.block_lt_of_cell? _ _ (hHeld.1))).trans (hHeld.1)
   have HS1_ := (hb.cell (World.block_lt_of_cell? _ _ (hHeld.2.1))).trans (hHeld.2.1)
   have HS2_ := (hb.cell (World.block_lt_of_cell? _ _ (hHeld.2.2.1))).trans (hHeld.2.2.1)
   have HS3_ := (hb.cell (World.block_lt_of_cell? _ _ (hHeld.2.2.2.1))).trans (hHeld.2.2.2.1)
   have HS4_ := (hb.cell (World.block_lt_of_cell? _ _ (hHeld.2.2.2.2.1))).trans (hHeld.2.2.2.2.1)
   have HS5_ := (hb.cell (World.block_lt_of_cell? _ _ (hHeld.2.2.2.2.2.1))).trans (hHeld.2.2.2.2.2.1)
   have HS6_ := (hb.cell (World.block_lt_of_cell? _ _ (hHeld.2.2.2.2.2.2.1))).trans (hHeld.2.2.2.2.2.2.1)
   have HS7_ := (hb.cell (World.block_lt_of_cell? _ _ (hHeld.2.2.2.2.2.2.2.1))).trans (hHeld.2.2.2.2.2.2.2.1)
   have HS8_ := (hb.cell (World.block_lt_of_cell? _ _ (hHeld.2.2.2.2.2.2.2.2.1))).trans (hHeld.2.2.2.2.2.2.2.2.1)
   have HS9_ := (hb.cell (World.block_lt_of_cell? _ _ (hHeld.2.2.2.2.2.2.2.2.2.1))).trans (hHeld.2.2.2.2.2.2.2.2.2.1)
   have HS10_ := (hb.cell (World.block_lt_of_cell? _ _ (hHeld.2.2.2.2.2.2.2.2.2.2.1))).trans (hHeld.2.2.2.2.2.2.2.2.2.2.1)
   have HS11_ := (hb.cell (World.block_lt_of_cell? _ _ (hHeld.2.2.2.2.2.2.2.2.2.2.2.1))).trans (hHeld.2.2.2.2.2.2.2.2.2.2.2.1)
   have HS12_ := (hb.cell (World.block_lt_of_cell? _ _ (hHeld.2.2.2.2.2.2.2.2.2.2.2.2.1))).trans (hHeld.2.2.2.2.2.2.2.2.2.2.2.2.1)
   have HS13_ := (hb.cell (World.block_lt_of_cell? _ _ (hHeld.2.2.2.2.2.2.2.2.2.2.2.2.2.1))).trans (hHeld.2.2.2.2.2.2.2.2.2.2.2.2.2.1)
   have HS14_ := (hb.cell (World.block_lt_of_cell? _ _ (hHeld.2.2.2.2.2.2.2.2.2.2.2.2.2.2.1))).trans (hHeld.2.2.2.2.2.2.2.2.2.2.2.2.2.2.1)
   have HS15_ := (hb.cell (World.block_lt_of_cell? _ _ (hHeld.2.2.2.2.2.2.2.2.2.2.2.2.2.2.2.1))).trans (hHeld.2.2.2.2.2.2.2.2.2.2.2.2.2.2.2.1)
   have HS16_ := (hb.cell (World.block_lt_of_cell? _ _ (hHeld.2.2.2.2.2.2.2.2.2.2.2.2.2.2.2.2.1))).trans (hHeld.2.2.2.2.2.2.2.2.2.2.2.2.2.2.2.2.1)
   have HS17_ := (hb.cell (World.block_lt_of_cell? _ _ (hHeld.2.2.2.2.2.2.2.2.2.2.2.2.2.2.2.2.2.1))).trans (hHeld.2.2.2.2.2.2.2.2.2.2.2.2.2.2.2.2.2.1)
   have HS18_ := (hb.cell (World.block_lt_of_cell? _ _ (hHeld.2.2.2.2.2.2.2.2.2.2.2.2.2.2.2.2.2.2.1))).trans (hHeld.2.2.2.2.2.2.2.2.2.2.2.2.2.2.2.2.2.2.1)
   have HS19_ := (hb.cell (World.block_lt_of_cell? _ _ (hHeld.2.2.2.2.2.2.2.2.2.2.2.2.2.2.2.2.2.2.2.1))).trans (hHeld.2.2.2.2.2.2.2.2.2.2.2.2.2.2.2.2.2.2.2.1)
   have HS20_ := (hb.cell (World.block_lt_of_cell? _ _ (hHeld.2.2.2.2.2.2.2.2.2.2.2.2.2.2.2.2.2.2.2.2.1))).trans (hHeld.2.2.2.2.2.2.2.2.2.2.2.2.2.2.2.2.2.2.2.2.1)
   have HS21_ := (hb.cell (World.block_lt_of_cell? _ _ (hHeld.2.2.2.2.2.2.2.2.2.2.2.2.2.2.2.2.2.2.2.2.2.1))).trans (hHeld.2.2.2.2.2.2.2.2.2.2.2.2.2.2.2.2.2.2.2.2.2.1)
   have HS22_ := (hb.cell (World.block_lt_of_cell? _ _ (hHeld.2.2.2.2.2.2.2.2.2.2.2.2.2.2.2.2.2.2.2.2.2.2.1))).trans (hHeld.2.2.2.2.2.2.2.2.2.2.2.2.2.2.2.2.2.2.2.2.2.2.1)
   have HS23_ := (hb.cell (World.block_lt_of_cell? _ _ (hHeld.2.2.2.2.2.2.2.2.2.2.2.2.2.2.2.2.2.2.2.2.2.2.2.1))).trans (hHeld.2.2.2.2.2.2.2.2.2.2.2.2.2.2.2.2.2.2.2.2.2.2.2.1)
   have HS24_ := (hb.cell (World.block_lt_of_cell? _ _ (hHeld.2.2.2.2.2.2.2.2.2.2.2.2.2.2.2.2.2.2.2.2.2.2.2.2.1))).trans (hHeld.2.2.2.2.2.2.2.2.2.2.2.2.2.2.2.2.2.2.2.2.2.2.2.2.1)
   have HS25_ := (hb.cell (World.block_lt_of_cell? _ _ (hHeld.2.2.2.2.2.2.2.2.2.2.2.2.2.2.2.2.2.2.2.2.2.2.2.2.2.1))).trans (hHeld.2.2.2.2.2.2.2.2.2.2.2.2.2.2.2.2.2.2.2.2.2.2.2.2.2.1)
   have HS26_ := (hb.cell (World.block_lt_of_cell? _ _ (hHeld.2.2.2.2.2.2.2.2.2.2.2.2.2.2.2.2.2.2.2.2.2.2.2.2.2.2))).trans (hHeld.2.2.2.2.2.2.2.2.2.2.2.2.2.2.2.2.2.2.2.2.2.2.2.2.2.2)
   replace ac := Aside0.mk (Kd.R_below (r_ ac.out) hb)
   have ab := Aside0.mk (hbox)
   have GW476 := Aside0.mk ((g1 hg bw : w.heap.size ≤ aa))
   have GE476 := Aside0.mk ((g1 hg bw : w.heap.size ≤ aa))
   replace HB := Aside0.mk (below_step bw hb)
   have af := Aside0.mk ((n1 hg ae.out : ak ≠ aa))
   have ag := Aside0.mk ((n2 hg ae.out : aa ≠ ak))
   replace ae := Aside0.mk (nb ae.out hb)
   clear hb hbox hg
   refine hK.out _ _ ⟨HS0_, HS1_, HS2_, HS3_, HS4_, HS5_, HS6_, HS7_, HS8_, HS9_, HS10_, HS11_, HS12_, HS13_, HS14_, HS15_, HS16_, HS17_, HS18_, HS19_, HS20_, HS21_, HS22_, HS23_, HS24_, HS25_, HS26_⟩ (fun hHeld => ?_)
   clear hK K
   refine norm_ (a' := ?_) ?_ ?_
   rotate_left
   ·show Act.put _ (some 6) _ = _
    simp only [Act.put, sl1, sl2, sl3, i64_w, i32_w]
    rfl
   refine one_ (i := 44) (N := none) (bz 45 35184372088831) rfl rfl (one_of HT_.out (by kernel_rfl)) (by decide) (fun K hK => ?_)
   have hs31 : w30.cell? ⟨aa, 0, none⟩ = some (.int .i64 0) := (blk_cell ab.out 0).trans rfl
   have hfs31 := blk_frozen ab.out 0
   have hns31_0 := af.out
   have hms31_0 := ag.out
   have hs32 : w30.cell? ⟨aa, 1, none⟩ = some (.string (⟨#[]⟩ : ByteArray)) := (blk_cell ab.out 1).trans rfl
   have hfs32 := blk_frozen ab.out 1
   have hns32_0 := af.out
   have hms32_0 := ag.out
   have hs33 : w30.cell? ⟨aa, 2, none⟩ = some (.string (⟨#[]⟩ : ByteArray)) := (blk_cell ab.out 2).trans rfl
   have hfs33 := blk_frozen ab.out 2
   have hns33_0 := af.out
   have hms33_0 := ag.out
   have hs34 : w30.cell? ⟨aa, 3, none⟩ = some (.int .i64 0) := (blk_cell ab.out 3).trans rfl
   have hfs34 := blk_frozen ab.out 3
   have hns34_0 := af.out
   have hms34_0 := ag.out
   have hs35 : w30.cell? ⟨aa, 4, none⟩ = some (.string (⟨#[]⟩ : ByteArray)) := (blk_cell ab.out 4).trans rfl
   have hfs35 := blk_frozen ab.out 4
   have hns35_0 := af.out
   have hms35_0 := ag.out
   have hs36 : w30.cell? ⟨aa, 5, none⟩ = some (.string (⟨#[]⟩ : ByteArray)) := (blk_cell ab.out 5).trans rfl
   have hfs36 := blk_frozen ab.out 5
   have hns36_0 := af.out
   have hms36_0 := ag.out
   have hs37 : w30.cell? ⟨aa, 6, none⟩ = some (.int .i64 0) := (blk_cell ab.out 6).trans rfl
   have hfs37 := blk_frozen ab.out 6
   have hns37_0 := af.out
   have hms37_0 := ag.out
   have hs38 : w30.cell? ⟨aa, 7, none⟩ = some (.int .i64 0) := (blk_cell ab.out 7).trans rfl
   have hfs38 := blk_frozen ab.out 7
   have hns38_0 := af.out
   have hms38_0 := ag.out
   have hs39 : w30.cell? ⟨aa, 8, none⟩ = some (.int .i64 0) := (blk_cell ab.out 8).trans rfl
   have hfs39 := blk_frozen ab.out 8
   have hns39_0 := af.out
   have hms39_0 := ag.out
   refine skip_ (w1 := ?_) (by rfl) rfl ?_ ?_
   rotate_left
   ·go_simp
    rfl
   refine hK.out _ _ ⟨(by (iterate 9 refine ((cf (p := ⟨aa, _, none⟩) (Kd.own_blk (Kd.R_ne ac.out ab.out (by decide))))).trans ?_); exact hHeld.1), (by (iterate 9 refine ((cf (p := ⟨aa, _, none⟩) (Kd.own_blk (Kd.R_ne ac.out ab.out (by decide))))).trans ?_); exact hHeld.2.1), (by (iterate 9 refine ((cf (p := ⟨aa, _, none⟩) (Kd.own_blk (Kd.R_ne ac.out ab.out (by decide))))).trans ?_); exact hHeld.2.2.1), (by (iterate 9 refine ((cf (p := ⟨aa, _, none⟩) (Kd.own_blk (Kd.R_ne ac.out ab.out (by decide))))).trans ?_); exact hHeld.2.2.2.1), (by (iterate 9 refine ((cf (p := ⟨aa, _, none⟩) (Kd.own_blk (Kd.R_ne ac.out ab.out (by decide))))).trans ?_); exact hHeld.2.2.2.2.1), (by (iterate 9 refine ((cf (p := ⟨aa, _, none⟩) (Kd.own_blk (Kd.R_ne ac.out ab.out (by decide))))).trans ?_); exact hHeld.2.2.2.2.2.1), (by (iterate 9 refine ((cf (p := ⟨aa, _, none⟩) (Kd.own_blk (Kd.R_ne ac.out ab.out (by decide))))).trans ?_); exact hHeld.2.2.2.2.2.2.1), (by (iterate 9 refine ((cf (p := ⟨aa, _, none⟩) (Kd.own_blk (Kd.R_ne ac.out ab.out (by decide))))).trans ?_); exact hHeld.2.2.2.2.2.2.2.1), (by (iterate 9 refine ((cf (p := ⟨aa, _, none⟩) (Kd.own_blk (Kd.R_ne ac.out ab.out (by decide))))).trans ?_); exact hHeld.2.2.2.2.2.2.2.2.1), (by (iterate 9 refine ((cf (p := ⟨aa, _, none⟩) (Kd.own_blk (Kd.R_ne ac.out ab.out (by decide))))).trans ?_); exact hHeld.2.2.2.2.2.2.2.2.2.1), (by (iterate 9 refine ((cf (p := ⟨aa, _, none⟩) (Kd.own_blk (Kd.R_ne ac.out ab.out (by decide))))).trans ?_); exact hHeld.2.2.2.2.2.2.2.2.2.2.1), (by (iterate 9 refine ((cf (p := ⟨aa, _, none⟩) (Kd.own_blk (Kd.R_ne ac.out ab.out (by decide))))).trans ?_); exact hHeld.2.2.2.2.2.2.2.2.2.2.2.1), (by (iterate 9 refine ((cf (p := ⟨aa, _, none⟩) (Kd.own_blk (Kd.R_ne ac.out ab.out (by decide))))).trans ?_); exact hHeld.2.2.2.2.2.2.2.2.2.2.2.2.1), (by (iterate 9 refine ((cf (p := ⟨aa, _, none⟩) (Kd.own_blk (Kd.R_ne ac.out ab.out (by decide))))).trans ?_); exact hHeld.2.2.2.2.2.2.2.2.2.2.2.2.2.1), (by (iterate 9 refine ((cf (p := ⟨aa, _, none⟩) (Kd.own_blk (Kd.R_ne ac.out ab.out (by decide))))).trans ?_); exact hHeld.2.2.2.2.2.2.2.2.2.2.2.2.2.2.1), (by (iterate 9 refine ((cf (p := ⟨aa, _, none⟩) (Kd.own_blk (Kd.R_ne ac.out ab.out (by decide))))).trans ?_); exact hHeld.2.2.2.2.2.2.2.2.2.2.2.2.2.2.2.1), (by (iterate 9 refine ((cf (p := ⟨aa, _, none⟩) (Kd.own_blk (Kd.R_ne ac.out ab.out (by decide))))).trans ?_); exact hHeld.2.2.2.2.2.2.2.2.2.2.2.2.2.2.2.2.1), (by (iterate 9 refine ((cf (p := ⟨aa, _, none⟩) (Kd.own_blk (Kd.R_ne ac.out ab.out (by decide))))).trans ?_); exact hHeld.2.2.2.2.2.2.2.2.2.2.2.2.2.2.2.2.2.1), (by (iterate 9 refine ((cf (p := ⟨aa, _, none⟩) (Kd.own_blk (Kd.R_ne ac.out ab.out (by decide))))).trans ?_); exact hHeld.2.2.2.2.2.2.2.2.2.2.2.2.2.2.2.2.2.2.1), (by (iterate 9 refine ((cf (p := ⟨aa, _, none⟩) (Kd.own_blk (Kd.R_ne ac.out ab.out (by decide))))).trans ?_); exact hHeld.2.2.2.2.2.2.2.2.2.2.2.2.2.2.2.2.2.2.2.1), (by (iterate 9 refine ((cf (p := ⟨aa, _, none⟩) (Kd.own_blk (Kd.R_ne ac.out ab.out (by decide))))).trans ?_); exact hHeld.2.2.2.2.2.2.2.2.2.2.2.2.2.2.2.2.2.2.2.2.1), (by (iterate 9 refine ((cf (p := ⟨aa, _, none⟩) (Kd.own_blk (Kd.R_ne ac.out ab.out (by decide))))).trans ?_); exact hHeld.2.2.2.2.2.2.2.2.2.2.2.2.2.2.2.2.2.2.2.2.2.1), (by (iterate 9 refine ((cf (p := ⟨aa, _, none⟩) (Kd.own_blk (Kd.R_ne ac.out ab.out (by decide))))).trans ?_); exact hHeld.2.2.2.2.2.2.2.2.2.2.2.2.2.2.2.2.2.2.2.2.2.2.1), (by (iterate 9 refine ((cf (p := ⟨aa, _, none⟩) (Kd.own_blk (Kd.R_ne ac.out ab.out (by decide))))).trans ?_); exact hHeld.2.2.2.2.2.2.2.2.2.2.2.2.2.2.2.2.2.2.2.2.2.2.2.1), (by (iterate 9 refine ((cf (p := ⟨aa, _, none⟩) (Kd.own_blk (Kd.R_ne ac.out ab.out (by decide))))).trans ?_); exact hHeld.2.2.2.2.2.2.2.2.2.2.2.2.2.2.2.2.2.2.2.2.2.2.2.2.1), (by (iterate 9 refine ((cf (p := ⟨aa, _, none⟩) (Kd.own_blk (Kd.R_ne ac.out ab.out (by decide))))).trans ?_); exact hHeld.2.2.2.2.2.2.2.2.2.2.2.2.2.2.2.2.2.2.2.2.2.2.2.2.2.1), (by (iterate 9 refine ((cf (p := ⟨aa, _, none⟩) (Kd.own_blk (Kd.R_ne ac.out ab.out (by decide))))).trans ?_); exact hHeld.2.2.2.2.2.2.2.2.2.2.2.2.2.2.2.2.2.2.2.2.2.2.2.2.2.2)⟩ (fun hHeld => ?_)
   clear hK K
   refine done_ (done_of HT_.out (by kernel_rfl)) ?_
   have hnb40 := ag.out
   have hnc40 := af.out
   obtain ⟨hcz41_0, hcz41_1, hcz41_2, hcz41_3, hcz41_4, hcz41_5, hcz41_6, hcz41_7, hcz41_8, hfz41_0, hfz41_1, hfz41_2, hfz41_3, hfz41_4, hfz41_5, hfz41_6, hfz41_7, hfz41_8⟩ := bx9 ab.out
   have H := HhZ.out
   clear HhZ
   by_cases c27 : t477 = true
   ·subst c27
    have H1 := H
    rw [if_pos rfl] at H1
    clear H
    have H := H1
    clear H1
    simp only [Option.some.injEq, Prod.mk.injEq] at H
    obtain ⟨rfl, rfl, rfl, rfl, rfl, rfl, rfl, rfl, rfl, rfl⟩ := H
    try go_wp2_with (first | ((with_reducible refine gate_callee (f := 17) rfl ?_); refine goesL_ (some 81) rfl rfl Tryd.func17 (by kernel_rfl) rfl #[.agg #[.int .i64 (wrap64 ((rd_T57 t460 0).f1)), .string ((rd_T57 t460 1).f2), .string ((rd_T57 t460 2).f2), .int .i64 (wrap64 ((rd_T57 t460 3).f1)), .string ((rd_T57 t460 4).f2), .string ((rd_T57 t460 5).f2), .int .i64 (wrap64 ((wrap64 ((rd_T57 t460 6).f1)) - 1)), .int .i64 (wrap64 ((rd_T57 t460 7).f1)), .int .i64 (wrap64 ((rd_T57 t460 8).f1))]] rfl am ?_; (with_reducible refine (carillonref14_Right.calls kj3 (wrap64 ((rd_T57 t460 0).f1)) ((rd_T57 t460 1).f2) ((rd_T57 t460 2).f2) (wrap64 ((rd_T57 t460 3).f1)) ((rd_T57 t460 4).f2) ((rd_T57 t460 5).f2) (wrap64 ((wrap64 ((rd_T57 t460 6).f1)) - 1)) (wrap64 ((rd_T57 t460 7).f1)) (wrap64 ((rd_T57 t460 8).f1)) true _ A26.out).mono ?_); rintro e w42 ⟨rfl, hb⟩; refine ⟨_, rfl, ?_⟩; replace ac := Aside0.mk (Kd.R_below (by (with_reducible repeat (first | apply Kd.R_alloc | apply Kd.R_drewN | apply Kd.R_drew)); exact (Kd.R_mono (Kd.R_far (p := ⟨aa, 8, none⟩) (Kd.R_far (p := ⟨aa, 7, none⟩) (Kd.R_far (p := ⟨aa, 6, none⟩) (Kd.R_far (p := ⟨aa, 5, none⟩) (Kd.R_far (p := ⟨aa, 4, none⟩) (Kd.R_far (p := ⟨aa, 3, none⟩) (Kd.R_far (p := ⟨aa, 2, none⟩) (Kd.R_far (p := ⟨aa, 1, none⟩) (Kd.R_far (p := ⟨aa, 0, none⟩) (Kd.R_types ac.out ab.out (by decide)) (fun _ hk => hk.2) (.int .i64 (wrap64 ((rd_T57 t460 0).f1)))) (fun _ hk => hk.2) (.string ((rd_T57 t460 1).f2))) (fun _ hk => hk.2) (.string ((rd_T57 t460 2).f2))) (fun _ hk => hk.2) (.int .i64 (wrap64 ((rd_T57 t460 3).f1)))) (fun _ hk => hk.2) (.string ((rd_T57 t460 4).f2))) (fun _ hk => hk.2) (.string ((rd_T57 t460 5).f2))) (fun _ hk => hk.2) (.int .i64 (wrap64 ((wrap64 ((rd_T57 t460 6).f1)) - 1)))) (fun _ hk => hk.2) (.int .i64 (wrap64 ((rd_T57 t460 7).f1)))) (fun _ hk => hk.2) (.int .i64 (wrap64 ((rd_T57 t460 8).f1)))) (fun _ h_ => h_.1))) hb); replace ae := Aside0.mk (blk_below (g := ak) (o := .cells #[.int .i64 0, .string (⟨#[]⟩ : ByteArray), .string (⟨#[]⟩ : ByteArray), .int .i64 0, .string (⟨#[]⟩ : ByteArray), .string (⟨#[]⟩ : ByteArray), .int .i64 0, .int .i64 0, .int .i64 0] 23 (0, 0)) (by (with_reducible repeat (first | refine blk_drewN ?_ _ | refine blk_drew ?_ | refine blk_alloc ?_ _ | refine blk_far ?_ af.out _)); exact ae.out) hb); replace ab := Aside0.mk (blk_below (g := aa) (o := .cells #[.int .i64 (wrap64 ((rd_T57 t460 0).f1)), .string ((rd_T57 t460 1).f2), .string ((rd_T57 t460 2).f2), .int .i64 (wrap64 ((rd_T57 t460 3).f1)), .string ((rd_T57 t460 4).f2), .string ((rd_T57 t460 5).f2), .int .i64 (wrap64 ((wrap64 ((rd_T57 t460 6).f1)) - 1)), .int .i64 (wrap64 ((rd_T57 t460 7).f1)), .int .i64 (wrap64 ((rd_T57 t460 8).f1))] 23 (0, 0)) (by (with_reducible repeat (first | refine blk_drewN ?_ _ | refine blk_drew ?_ | refine blk_alloc ?_ _)); refine blk_put (cs := #[.int .i64 (wrap64 ((rd_T57 t460 0).f1)), .string ((rd_T57 t460 1).f2), .string ((rd_T57 t460 2).f2), .int .i64 (wrap64 ((rd_T57 t460 3).f1)), .string ((rd_T57 t460 4).f2), .string ((rd_T57 t460 5).f2), .int .i64 (wrap64 ((wrap64 ((rd_T57 t460 6).f1)) - 1)), .int .i64 (wrap64 ((rd_T57 t460 7).f1)), .int .i64 0]) ?_ 8 _ rfl; (with_reducible repeat (first | refine blk_drewN ?_ _ | refine blk_drew ?_ | refine blk_alloc ?_ _)); refine blk_put (cs := #[.int .i64 (wrap64 ((rd_T57 t460 0).f1)), .string ((rd_T57 t460 1).f2), .string ((rd_T57 t460 2).f2), .int .i64 (wrap64 ((rd_T57 t460 3).f1)), .string ((rd_T57 t460 4).f2), .string ((rd_T57 t460 5).f2), .int .i64 (wrap64 ((wrap64 ((rd_T57 t460 6).f1)) - 1)), .int .i64 0, .int .i64 0]) ?_ 7 _ rfl; (with_reducible repeat (first | refine blk_drewN ?_ _ | refine blk_drew ?_ | refine blk_alloc ?_ _)); refine blk_put (cs := #[.int .i64 (wrap64 ((rd_T57 t460 0).f1)), .string ((rd_T57 t460 1).f2), .string ((rd_T57 t460 2).f2), .int .i64 (wrap64 ((rd_T57 t460 3).f1)), .string ((rd_T57 t460 4).f2), .string ((rd_T57 t460 5).f2), .int .i64 0, .int .i64 0, .int .i64 0]) ?_ 6 _ rfl; (with_reducible repeat (first | refine blk_drewN ?_ _ | refine blk_drew ?_ | refine blk_alloc ?_ _)); refine blk_put (cs := #[.int .i64 (wrap64 ((rd_T57 t460 0).f1)), .string ((rd_T57 t460 1).f2), .string ((rd_T57 t460 2).f2), .int .i64 (wrap64 ((rd_T57 t460 3).f1)), .string ((rd_T57 t460 4).f2), .string (⟨#[]⟩ : ByteArray), .int .i64 0, .int .i64 0, .int .i64 0]) ?_ 5 _ rfl; (with_reducible repeat (first | refine blk_drewN ?_ _ | refine blk_drew ?_ | refine blk_alloc ?_ _)); refine blk_put (cs := #[.int .i64 (wrap64 ((rd_T57 t460 0).f1)), .string ((rd_T57 t460 1).f2), .string ((rd_T57 t460 2).f2), .int .i64 (wrap64 ((rd_T57 t460 3).f1)), .string (⟨#[]⟩ : ByteArray), .string (⟨#[]⟩ : ByteArray), .int .i64 0, .int .i64 0, .int .i64 0]) ?_ 4 _ rfl; (with_reducible repeat (first | refine blk_drewN ?_ _ | refine blk_drew ?_ | refine blk_alloc ?_ _)); refine blk_put (cs := #[.int .i64 (wrap64 ((rd_T57 t460 0).f1)), .string ((rd_T57 t460 1).f2), .string ((rd_T57 t460 2).f2), .int .i64 0, .string (⟨#[]⟩ : ByteArray), .string (⟨#[]⟩ : ByteArray), .int .i64 0, .int .i64 0, .int .i64 0]) ?_ 3 _ rfl; (with_reducible repeat (first | refine blk_drewN ?_ _ | refine blk_drew ?_ | refine blk_alloc ?_ _)); refine blk_put (cs := #[.int .i64 (wrap64 ((rd_T57 t460 0).f1)), .string ((rd_T57 t460 1).f2), .string (⟨#[]⟩ : ByteArray), .int .i64 0, .string (⟨#[]⟩ : ByteArray), .string (⟨#[]⟩ : ByteArray), .int .i64 0, .int .i64 0, .int .i64 0]) ?_ 2 _ rfl; (with_reducible repeat (first | refine blk_drewN ?_ _ | refine blk_drew ?_ | refine blk_alloc ?_ _)); refine blk_put (cs := #[.int .i64 (wrap64 ((rd_T57 t460 0).f1)), .string (⟨#[]⟩ : ByteArray), .string (⟨#[]⟩ : ByteArray), .int .i64 0, .string (⟨#[]⟩ : ByteArray), .string (⟨#[]⟩ : ByteArray), .int .i64 0, .int .i64 0, .int .i64 0]) ?_ 1 _ rfl; (with_reducible repeat (first | refine blk_drewN ?_ _ | refine blk_drew ?_ | refine blk_alloc ?_ _)); refine blk_put (cs := za1_) ?_ 0 _ rfl; (with_reducible repeat (first | refine blk_drewN ?_ _ | refine blk_drew ?_ | refine blk_alloc ?_ _)); exact ab.out) hb); replace HB := Aside0.mk (below_step bw hb); (try clear hb); obtain ⟨hcz43_0, hcz43_1, hcz43_2, hcz43_3, hcz43_4, hcz43_5, hcz43_6, hcz43_7, hcz43_8, hfz43_0, hfz43_1, hfz43_2, hfz43_3, hfz43_4, hfz43_5, hfz43_6, hfz43_7, hfz43_8⟩ := bx9 ab.out; obtain ⟨hcz44_0, hcz44_1, hcz44_2, hcz44_3, hcz44_4, hcz44_5, hcz44_6, hcz44_7, hcz44_8, hfz44_0, hfz44_1, hfz44_2, hfz44_3, hfz44_4, hfz44_5, hfz44_6, hfz44_7, hfz44_8⟩ := bx9 ae.out))
    refine bodyPost_ret (results_ct rfl _ _ ak 23 #[.int .i64 (wrap64 ((rd_T57 t460 0).f1)), .string ((rd_T57 t460 1).f2), .string ((rd_T57 t460 2).f2), .int .i64 (wrap64 ((rd_T57 t460 3).f1)), .string ((rd_T57 t460 4).f2), .string ((rd_T57 t460 5).f2), .int .i64 (wrap64 ((wrap64 ((rd_T57 t460 6).f1)) - 1)), .int .i64 (wrap64 ((rd_T57 t460 7).f1)), .int .i64 (wrap64 ((rd_T57 t460 8).f1))] (0, 0) _ rfl (by (with_reducible repeat (first | refine blk_drewN ?_ _ | refine blk_drew ?_ | refine blk_alloc ?_ _)); refine blk_put (cs := #[.int .i64 (wrap64 ((rd_T57 t460 0).f1)), .string ((rd_T57 t460 1).f2), .string ((rd_T57 t460 2).f2), .int .i64 (wrap64 ((rd_T57 t460 3).f1)), .string ((rd_T57 t460 4).f2), .string ((rd_T57 t460 5).f2), .int .i64 (wrap64 ((wrap64 ((rd_T57 t460 6).f1)) - 1)), .int .i64 (wrap64 ((rd_T57 t460 7).f1)), .int .i64 0]) ?_ 8 _ rfl; (with_reducible repeat (first | refine blk_drewN ?_ _ | refine blk_drew ?_ | refine blk_alloc ?_ _)); refine blk_put (cs := #[.int .i64 (wrap64 ((rd_T57 t460 0).f1)), .string ((rd_T57 t460 1).f2), .string ((rd_T57 t460 2).f2), .int .i64 (wrap64 ((rd_T57 t460 3).f1)), .string ((rd_T57 t460 4).f2), .string ((rd_T57 t460 5).f2), .int .i64 (wrap64 ((wrap64 ((rd_T57 t460 6).f1)) - 1)), .int .i64 0, .int .i64 0]) ?_ 7 _ rfl; (with_reducible repeat (first | refine blk_drewN ?_ _ | refine blk_drew ?_ | refine blk_alloc ?_ _)); refine blk_put (cs := #[.int .i64 (wrap64 ((rd_T57 t460 0).f1)), .string ((rd_T57 t460 1).f2), .string ((rd_T57 t460 2).f2), .int .i64 (wrap64 ((rd_T57 t460 3).f1)), .string ((rd_T57 t460 4).f2), .string ((rd_T57 t460 5).f2), .int .i64 0, .int .i64 0, .int .i64 0]) ?_ 6 _ rfl; (with_reducible repeat (first | refine blk_drewN ?_ _ | refine blk_drew ?_ | refine blk_alloc ?_ _)); refine blk_put (cs := #[.int .i64 (wrap64 ((rd_T57 t460 0).f1)), .string ((rd_T57 t460 1).f2), .string ((rd_T57 t460 2).f2), .int .i64 (wrap64 ((rd_T57 t460 3).f1)), .string ((rd_T57 t460 4).f2), .string (⟨#[]⟩ : ByteArray), .int .i64 0, .int .i64 0, .int .i64 0]) ?_ 5 _ rfl; (with_reducible repeat (first | refine blk_drewN ?_ _ | refine blk_drew ?_ | refine blk_alloc ?_ _)); refine blk_put (cs := #[.int .i64 (wrap64 ((rd_T57 t460 0).f1)), .string ((rd_T57 t460 1).f2), .string ((rd_T57 t460 2).f2), .int .i64 (wrap64 ((rd_T57 t460 3).f1)), .string (⟨#[]⟩ : ByteArray), .string (⟨#[]⟩ : ByteArray), .int .i64 0, .int .i64 0, .int .i64 0]) ?_ 4 _ rfl; (with_reducible repeat (first | refine blk_drewN ?_ _ | refine blk_drew ?_ | refine blk_alloc ?_ _)); refine blk_put (cs := #[.int .i64 (wrap64 ((rd_T57 t460 0).f1)), .string ((rd_T57 t460 1).f2), .string ((rd_T57 t460 2).f2), .int .i64 0, .string (⟨#[]⟩ : ByteArray), .string (⟨#[]⟩ : ByteArray), .int .i64 0, .int .i64 0, .int .i64 0]) ?_ 3 _ rfl; (with_reducible repeat (first | refine blk_drewN ?_ _ | refine blk_drew ?_ | refine blk_alloc ?_ _)); refine blk_put (cs := #[.int .i64 (wrap64 ((rd_T57 t460 0).f1)), .string ((rd_T57 t460 1).f2), .string (⟨#[]⟩ : ByteArray), .int .i64 0, .string (⟨#[]⟩ : ByteArray), .string (⟨#[]⟩ : ByteArray), .int .i64 0, .int .i64 0, .int .i64 0]) ?_ 2 _ rfl; (with_reducible repeat (first | refine blk_drewN ?_ _ | refine blk_drew ?_ | refine blk_alloc ?_ _)); refine blk_put (cs := #[.int .i64 (wrap64 ((rd_T57 t460 0).f1)), .string (⟨#[]⟩ : ByteArray), .string (⟨#[]⟩ : ByteArray), .int .i64 0, .string (⟨#[]⟩ : ByteArray), .string (⟨#[]⟩ : ByteArray), .int .i64 0, .int .i64 0, .int .i64 0]) ?_ 1 _ rfl; (with_reducible repeat (first | refine blk_drewN ?_ _ | refine blk_drew ?_ | refine blk_alloc ?_ _)); refine blk_put (cs := za1_) ?_ 0 _ rfl; (with_reducible repeat (first | refine blk_drewN ?_ _ | refine blk_drew ?_ | refine blk_alloc ?_ _)); exact ae.out) Tryd.underlying23 rfl (by kernel_rfl)) rfl ?_
    exact ⟨er, bw⟩
   replace c27 := Bool.eq_false_iff.mpr c27
   subst c27
   have H1 : (some (0, (⟨#[]⟩ : ByteArray), (⟨#[]⟩ : ByteArray), 0, (⟨#[]⟩ : ByteArray), (⟨#[]⟩ : ByteArray), 0, 0, 0, 10)) = some (r1, r2, r3, r4, r5, r6, r7, r8, r9, r10) := by rw [if_neg (show ¬ (false = true) by decide)] at H; exact H
   clear H
   have H := H1
   clear H1
   simp only [Option.some.injEq, Prod.mk.injEq] at H
   obtain ⟨rfl, rfl, rfl, rfl, rfl, rfl, rfl, rfl, rfl, rfl⟩ := H
   try go_wp2_with (first | ((with_reducible refine gate_callee (f := 17) rfl ?_); refine goesL_ (some 81) rfl rfl Tryd.func17 (by kernel_rfl) rfl #[.agg #[.int .i64 (wrap64 ((rd_T57 t460 0).f1)), .string ((rd_T57 t460 1).f2), .string ((rd_T57 t460 2).f2), .int .i64 (wrap64 ((rd_T57 t460 3).f1)), .string ((rd_T57 t460 4).f2), .string ((rd_T57 t460 5).f2), .int .i64 (wrap64 ((wrap64 ((rd_T57 t460 6).f1)) - 1)), .int .i64 (wrap64 ((rd_T57 t460 7).f1)), .int .i64 (wrap64 ((rd_T57 t460 8).f1))]] rfl am ?_; (with_reducible refine (carillonref14_Right.calls kj3 (wrap64 ((rd_T57 t460 0).f1)) ((rd_T57 t460 1).f2) ((rd_T57 t460 2).f2) (wrap64 ((rd_T57 t460 3).f1)) ((rd_T57 t460 4).f2) ((rd_T57 t460 5).f2) (wrap64 ((wrap64 ((rd_T57 t460 6).f1)) - 1)) (wrap64 ((rd_T57 t460 7).f1)) (wrap64 ((rd_T57 t460 8).f1)) false _ A26.out).mono ?_); rintro e w59 ⟨rfl, hb⟩; refine ⟨_, rfl, ?_⟩; replace ac := Aside0.mk (Kd.R_below (by (with_reducible repeat (first | apply Kd.R_alloc | apply Kd.R_drewN | apply Kd.R_drew)); exact (Kd.R_mono (Kd.R_far (p := ⟨aa, 8, none⟩) (Kd.R_far (p := ⟨aa, 7, none⟩) (Kd.R_far (p := ⟨aa, 6, none⟩) (Kd.R_far (p := ⟨aa, 5, none⟩) (Kd.R_far (p := ⟨aa, 4, none⟩) (Kd.R_far (p := ⟨aa, 3, none⟩) (Kd.R_far (p := ⟨aa, 2, none⟩) (Kd.R_far (p := ⟨aa, 1, none⟩) (Kd.R_far (p := ⟨aa, 0, none⟩) (Kd.R_types ac.out ab.out (by decide)) (fun _ hk => hk.2) (.int .i64 (wrap64 ((rd_T57 t460 0).f1)))) (fun _ hk => hk.2) (.string ((rd_T57 t460 1).f2))) (fun _ hk => hk.2) (.string ((rd_T57 t460 2).f2))) (fun _ hk => hk.2) (.int .i64 (wrap64 ((rd_T57 t460 3).f1)))) (fun _ hk => hk.2) (.string ((rd_T57 t460 4).f2))) (fun _ hk => hk.2) (.string ((rd_T57 t460 5).f2))) (fun _ hk => hk.2) (.int .i64 (wrap64 ((wrap64 ((rd_T57 t460 6).f1)) - 1)))) (fun _ hk => hk.2) (.int .i64 (wrap64 ((rd_T57 t460 7).f1)))) (fun _ hk => hk.2) (.int .i64 (wrap64 ((rd_T57 t460 8).f1)))) (fun _ h_ => h_.1))) hb); replace ae := Aside0.mk (blk_below (g := ak) (o := .cells #[.int .i64 0, .string (⟨#[]⟩ : ByteArray), .string (⟨#[]⟩ : ByteArray), .int .i64 0, .string (⟨#[]⟩ : ByteArray), .string (⟨#[]⟩ : ByteArray), .int .i64 0, .int .i64 0, .int .i64 0] 23 (0, 0)) (by (with_reducible repeat (first | refine blk_drewN ?_ _ | refine blk_drew ?_ | refine blk_alloc ?_ _ | refine blk_far ?_ af.out _)); exact ae.out) hb); replace ab := Aside0.mk (blk_below (g := aa) (o := .cells #[.int .i64 (wrap64 ((rd_T57 t460 0).f1)), .string ((rd_T57 t460 1).f2), .string ((rd_T57 t460 2).f2), .int .i64 (wrap64 ((rd_T57 t460 3).f1)), .string ((rd_T57 t460 4).f2), .string ((rd_T57 t460 5).f2), .int .i64 (wrap64 ((wrap64 ((rd_T57 t460 6).f1)) - 1)), .int .i64 (wrap64 ((rd_T57 t460 7).f1)), .int .i64 (wrap64 ((rd_T57 t460 8).f1))] 23 (0, 0)) (by (with_reducible repeat (first | refine blk_drewN ?_ _ | refine blk_drew ?_ | refine blk_alloc ?_ _)); refine blk_put (cs := #[.int .i64 (wrap64 ((rd_T57 t460 0).f1)), .string ((rd_T57 t460 1).f2), .string ((rd_T57 t460 2).f2), .int .i64 (wrap64 ((rd_T57 t460 3).f1)), .string ((rd_T57 t460 4).f2), .string ((rd_T57 t460 5).f2), .int .i64 (wrap64 ((wrap64 ((rd_T57 t460 6).f1)) - 1)), .int .i64 (wrap64 ((rd_T57 t460 7).f1)), .int .i64 0]) ?_ 8 _ rfl; (with_reducible repeat (first | refine blk_drewN ?_ _ | refine blk_drew ?_ | refine blk_alloc ?_ _)); refine blk_put (cs := #[.int .i64 (wrap64 ((rd_T57 t460 0).f1)), .string ((rd_T57 t460 1).f2), .string ((rd_T57 t460 2).f2), .int .i64 (wrap64 ((rd_T57 t460 3).f1)), .string ((rd_T57 t460 4).f2), .string ((rd_T57 t460 5).f2), .int .i64 (wrap64 ((wrap64 ((rd_T57 t460 6).f1)) - 1)), .int .i64 0, .int .i64 0]) ?_ 7 _ rfl; (with_reducible repeat (first | refine blk_drewN ?_ _ | refine blk_drew ?_ | refine blk_alloc ?_ _)); refine blk_put (cs := #[.int .i64 (wrap64 ((rd_T57 t460 0).f1)), .string ((rd_T57 t460 1).f2), .string ((rd_T57 t460 2).f2), .int .i64 (wrap64 ((rd_T57 t460 3).f1)), .string ((rd_T57 t460 4).f2), .string ((rd_T57 t460 5).f2), .int .i64 0, .int .i64 0, .int .i64 0]) ?_ 6 _ rfl; (with_reducible repeat (first | refine blk_drewN ?_ _ | refine blk_drew ?_ | refine blk_alloc ?_ _)); refine blk_put (cs := #[.int .i64 (wrap64 ((rd_T57 t460 0).f1)), .string ((rd_T57 t460 1).f2), .string ((rd_T57 t460 2).f2), .int .i64 (wrap64 ((rd_T57 t460 3).f1)), .string ((rd_T57 t460 4).f2), .string (⟨#[]⟩ : ByteArray), .int .i64 0, .int .i64 0, .int .i64 0]) ?_ 5 _ rfl; (with_reducible repeat (first | refine blk_drewN ?_ _ | refine blk_drew ?_ | refine blk_alloc ?_ _)); refine blk_put (cs := #[.int .i64 (wrap64 ((rd_T57 t460 0).f1)), .string ((rd_T57 t460 1).f2), .string ((rd_T57 t460 2).f2), .int .i64 (wrap64 ((rd_T57 t460 3).f1)), .string (⟨#[]⟩ : ByteArray), .string (⟨#[]⟩ : ByteArray), .int .i64 0, .int .i64 0, .int .i64 0]) ?_ 4 _ rfl; (with_reducible repeat (first | refine blk_drewN ?_ _ | refine blk_drew ?_ | refine blk_alloc ?_ _)); refine blk_put (cs := #[.int .i64 (wrap64 ((rd_T57 t460 0).f1)), .string ((rd_T57 t460 1).f2), .string ((rd_T57 t460 2).f2), .int .i64 0, .string (⟨#[]⟩ : ByteArray), .string (⟨#[]⟩ : ByteArray), .int .i64 0, .int .i64 0, .int .i64 0]) ?_ 3 _ rfl; (with_reducible repeat (first | refine blk_drewN ?_ _ | refine blk_drew ?_ | refine blk_alloc ?_ _)); refine blk_put (cs := #[.int .i64 (wrap64 ((rd_T57 t460 0).f1)), .string ((rd_T57 t460 1).f2), .string (⟨#[]⟩ : ByteArray), .int .i64 0, .string (⟨#[]⟩ : ByteArray), .string (⟨#[]⟩ : ByteArray), .int .i64 0, .int .i64 0, .int .i64 0]) ?_ 2 _ rfl; (with_reducible repeat (first | refine blk_drewN ?_ _ | refine blk_drew ?_ | refine blk_alloc ?_ _)); refine blk_put (cs := #[.int .i64 (wrap64 ((rd_T57 t460 0).f1)), .string (⟨#[]⟩ : ByteArray), .string (⟨#[]⟩ : ByteArray), .int .i64 0, .string (⟨#[]⟩ : ByteArray), .string (⟨#[]⟩ : ByteArray), .int .i64 0, .int .i64 0, .int .i64 0]) ?_ 1 _ rfl; (with_reducible repeat (first | refine blk_drewN ?_ _ | refine blk_drew ?_ | refine blk_alloc ?_ _)); refine blk_put (cs := za1_) ?_ 0 _ rfl; (with_reducible repeat (first | refine blk_drewN ?_ _ | refine blk_drew ?_ | refine blk_alloc ?_ _)); exact ab.out) hb); replace HB := Aside0.mk (below_step bw hb); (try clear hb); obtain ⟨hcz60_0, hcz60_1, hcz60_2, hcz60_3, hcz60_4, hcz60_5, hcz60_6, hcz60_7, hcz60_8, hfz60_0, hfz60_1, hfz60_2, hfz60_3, hfz60_4, hfz60_5, hfz60_6, hfz60_7, hfz60_8⟩ := bx9 ae.out))
   refine bodyPost_ret (results_ct rfl _ _ ak 23 #[.int .i64 0, .string (⟨#[]⟩ : ByteArray), .string (⟨#[]⟩ : ByteArray), .int .i64 0, .string (⟨#[]⟩ : ByteArray), .string (⟨#[]⟩ : ByteArray), .int .i64 0, .int .i64 0, .int .i64 0] (0, 0) _ rfl (by (iterate 9 ((with_reducible repeat (first | refine blk_drewN ?_ _ | refine blk_drew ?_ | refine blk_alloc ?_ _)); refine blk_put (cs := za1_) ?_ _ _ rfl)); (with_reducible repeat (first | refine blk_drewN ?_ _ | refine blk_drew ?_ | refine blk_alloc ?_ _)); exact ae.out) Tryd.underlying23 rfl (by kernel_rfl)) rfl ?_
   exact ⟨er, bw⟩

end Go.Proofs.YtpgiagdpepkooaaDoor.P
