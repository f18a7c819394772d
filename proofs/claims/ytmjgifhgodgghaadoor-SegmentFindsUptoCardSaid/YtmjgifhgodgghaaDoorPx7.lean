-- Printed by this session's program wip/xp.py (a turned copy of the kit's printer): functions, their contracts.
import Derived.Test.YtmjgifhgodgghaaDoorPx0
import Derived.Test.YtmjgifhgodgghaaDoorPx3
import Derived.Test.YtmjgifhgodgghaaDoorPx6
namespace Go.Proofs.YtmjgifhgodgghaaDoor.P
open Go.RowKit Go.Proofs.YtmjgifhgodgghaaDoorW.PrintWords Go.Proofs.YtmjgifhgodgghaaDoorW.PrintLast Go.Proofs.YtmjgifhgodgghaaDoorW.PrintMore
attribute [local go_sem] max2_int min2_int max_two min_two max_three min_three max_four min_four   -- for this text's walks alone
set_option linter.unusedVariables false
set_option linter.unusedSimpArgs false

/-! ### segment_record: function 43 -/
def segment_record.j0 : Nat → List (S60) → Bool → Option (Int × ByteArray × Int × ByteArray × ByteArray × Int)
 | 0, _, _ => none
 | k + 1, x4, x27 => if x27 = true then (some (0, (⟨#[]⟩ : ByteArray), 0, (⟨#[]⟩ : ByteArray), (⟨#[]⟩ : ByteArray), 10)) else (if 0 < (x4.length : Int) then (if 1 < (x4.length : Int) then (if 2 < (x4.length : Int) then (if 3 < (x4.length : Int) then (if 4 < (x4.length : Int) then ((segment_Right.f (wrap64 ((rd_T60 x4 0).f1)) ((rd_T60 x4 1).f2) (wrap64 ((rd_T60 x4 2).f1)) ((rd_T60 x4 3).f2) ((rd_T60 x4 4).f2)).bind fun t177 => (if t177 = true then (some (wrap64 ((rd_T60 x4 0).f1), (rd_T60 x4 1).f2, wrap64 ((rd_T60 x4 2).f1), (rd_T60 x4 3).f2, (rd_T60 x4 4).f2, 0)) else (some (0, (⟨#[]⟩ : ByteArray), 0, (⟨#[]⟩ : ByteArray), (⟨#[]⟩ : ByteArray), 10)))) else (none)) else (none)) else (none)) else (none)) else (none))
def segment_record.f (k : Nat) (a0 : ByteArray) : Option (Int × ByteArray × Int × ByteArray × ByteArray × Int) := (codec_Decode.f k (⟨#[108, 116, 108, 116, 116]⟩ : ByteArray) a0).bind fun bt165 => (if bt165.2 = 0 then (if 0 < (bt165.1.length : Int) then (if ((rd_T60 bt165.1 0).f1) > 9007199254740991 then (segment_record.j0 k bt165.1 true) else (if 2 < (bt165.1.length : Int) then (segment_record.j0 k bt165.1 (decide (((rd_T60 bt165.1 2).f1) > 9007199254740991))) else (none))) else (none)) else (segment_record.j0 k bt165.1 true))
theorem segment_record.mono_l : ∀ k, (∀ y0 y1, LeO (segment_record.j0 k y0 y1) (segment_record.j0 (k + 1) y0 y1))
 | 0 => fun _ _ r h => by simp [segment_record.j0] at h
 | k + 1 => by
  have ih0 := segment_record.mono_l k
  ·intro y0 y1
   unfold segment_record.j0
   repeat' first
   | (with_reducible exact ih0 _ _)
   | (with_reducible exact codec_Decode.mono _ _ _)
   | (with_reducible exact LeO.refl _)
   | (with_reducible exact LeO.none _)
   | (with_reducible refine LeO.ite ?_ ?_)
   | (with_reducible refine LeO.bind ?_ (fun _ => ?_))
   | exact ih0 _ _
   | exact codec_Decode.mono _ _ _
   | exact LeO.none _
   | refine LeO.ite ?_ ?_
   | refine LeO.bind ?_ (fun _ => ?_)
theorem segment_record.mono : ∀ a0 k, LeO (segment_record.f k a0) (segment_record.f (k + 1) a0) := by
 intro a0 k
 have ih0 := segment_record.mono_l k
 unfold segment_record.f
 repeat' first
   | (with_reducible exact ih0 _ _)
   | (with_reducible exact codec_Decode.mono _ _ _)
   | (with_reducible exact LeO.refl _)
   | (with_reducible exact LeO.none _)
   | (with_reducible refine LeO.ite ?_ ?_)
   | (with_reducible refine LeO.bind ?_ (fun _ => ?_))
   | exact ih0 _ _
   | exact codec_Decode.mono _ _ _
   | exact LeO.none _
   | refine LeO.ite ?_ ?_
   | refine LeO.bind ?_ (fun _ => ?_)
def segment_record.T4 : Bool × List (List Nat × List Nat) := (true, [([], []), ([0], [0]), ([1], [1]), ([2], [2]), ([3], [3]), ([], []), ([5], [5]), ([6], [6]), ([7], [7]), ([], []), ([9], [9]), ([10], [10]), ([11], [11]), ([12], [12]), ([], []), ([14], [14]), ([15], [15]), ([16], [16]), ([], []), ([18], [18]), ([19], [19]), ([20], [20]), ([4, 8, 13, 17, 21], [4, 8, 13, 17, 21]), ([], []), ([23, 22, 0, 1, 2, 3, 4, 5, 6, 7, 8, 9, 10, 11, 12, 13, 14, 15, 16, 17, 18, 19, 20, 21, 22, 23], [22, 23])])
def segment_record.B4 : List Nat := [0, 1, 3, 7, 15, 0, 32, 96, 224, 0, 512, 1536, 3584, 7680, 0, 16384, 49152, 114688, 0, 262144, 786432, 1835008, 4194303, 0, 16777215]
theorem segment_record.tab4 : rtab .any (opsOf Tryd.f43 4) = segment_record.T4 := by kernel_rfl
theorem segment_record.bits4 : waitsOk segment_record.T4.2 segment_record.B4 = true := by kernel_rfl
set_option maxHeartbeats 8000000 in
set_option maxRecDepth 100000 in
theorem segment_record.calls (k : Nat) (a0 : ByteArray) (r1 : Int) (r2 : ByteArray) (r3 : Int) (r4 : ByteArray) (r5 : ByteArray) (r6 : Int) (w : World) (HT_ : TabOk w) (h : segment_record.f k a0 = some (r1, r2, r3, r4, r5, r6)) :
  Calls Tryd.prog 43 #[.string a0] w fun e w' => e = .returned (.tuple #[.agg #[.int .i64 r1, .string r2, .int .i64 r3, .string r4, .string r5], .int .i64 r6]) ∧ Below w.heap.size w w' := by
 have HT := Aside0.mk HT_
 clear HT_
 have hu23 := Tryd.underlying23
 have HB := Aside0.mk (Below.refl w.heap.size w)
 have H : ((codec_Decode.f k (⟨#[108, 116, 108, 116, 116]⟩ : ByteArray) a0).bind fun bt165 => (if bt165.2 = 0 then (if 0 < (bt165.1.length : Int) then (if ((rd_T60 bt165.1 0).f1) > 9007199254740991 then (segment_record.j0 k bt165.1 true) else (if 2 < (bt165.1.length : Int) then (segment_record.j0 k bt165.1 (decide (((rd_T60 bt165.1 2).f1) > 9007199254740991))) else (none))) else (none)) else (segment_record.j0 k bt165.1 true))) = some (r1, r2, r3, r4, r5, r6) := h
 clear h
 replace H := Option.bind_eq_some_iff.mp H
 obtain ⟨⟨t165, t166⟩, A20, H⟩ := H
 replace H : (if t166 = 0 then (if 0 < (t165.length : Int) then (if ((rd_T60 t165 0).f1) > 9007199254740991 then (segment_record.j0 k t165 true) else (if 2 < (t165.length : Int) then (segment_record.j0 k t165 (decide (((rd_T60 t165 2).f1) > 9007199254740991))) else (none))) else (none)) else (segment_record.j0 k t165 true)) = some (r1, r2, r3, r4, r5, r6) := H
 have A2 := Aside0.mk A20
 clear A20
 have HC3 := Aside0.mk H
 clear H
 go_enter Tryd.func43, Tryd.ntmps43
 go_upto_region 2 with (first | ((with_reducible refine gate_dst (N := 2) rfl ?_); refine box_event ?hg (N := 2) ?hd (cs := #[.int .i64 0, .string (⟨#[]⟩ : ByteArray), .int .i64 0, .string (⟨#[]⟩ : ByteArray), .string (⟨#[]⟩ : ByteArray)]) (t := 23) ?hr ?_; (case hd => rfl); (case hg => rfl); (case hr => first | (go_simp; done) | (go_simp; rfl)); intro gb164 hg w4 hbox hb; have n0_ := Aside0.mk (below_step bw hb); have n1_ := Aside0.mk (hbox); have n2_ := Aside0.mk ((g1 hg bw : w.heap.size ≤ gb164)); have n3_ := Aside0.mk ((g1 hg bw : w.heap.size ≤ gb164)); clear HB; have HB := n0_; have BK164 := n1_; have GW164 := n2_; have GE164 := n3_; clear n0_ n1_ n2_ n3_; clear hb hbox hg) | ((with_reducible refine gate_callee (f := 50) rfl ?_); refine goesL_ (some 9) rfl rfl Tryd.func50 (by kernel_rfl) rfl #[.string (⟨#[108, 116, 108, 116, 116]⟩ : ByteArray), .string a0] rfl am ?_; (with_reducible refine (codec_Decode.calls k (⟨#[108, 116, 108, 116, 116]⟩ : ByteArray) a0 t165 t166 _ tbk A2.out).mono ?_); rintro e w5 ⟨v167, rfl, ho0, hb⟩; refine ⟨_, rfl, ?_⟩; have n0_ := Aside0.mk (Kd.R_lower ho0 (below_size bw)); have n1_ := Aside0.mk (nb BK164.out hb); have n2_ := Aside0.mk (below_step bw hb); clear BK164; clear HB; have HO168 := n0_; have BK164 := n1_; have HB := n2_; clear n0_ n1_ n2_; (try clear hb); (try clear hb2); (try clear hk); (try clear hi); (try clear ho0)))
 (try simp only [Act.put, sl1, sl2, sl3])
 go_cut [27] (fun v27 wc => ∃ (kq : Nat) (x27_2 : Bool), v27 = .bool x27_2 ∧ Aside0 (segment_record.j0 kq t165 x27_2 = some (r1, r2, r3, r4, r5, r6)) ∧ Aside0 (kq ≤ k) ∧ Aside0 (Kd.R k60 60 wc w.heap.size (fun _ => True) v167 t165) ∧ Aside0 (wc.heap[gb164]? = some (.cells #[.int .i64 0, .string (⟨#[]⟩ : ByteArray), .int .i64 0, .string (⟨#[]⟩ : ByteArray), .string (⟨#[]⟩ : ByteArray)] 23 (0, 0))) ∧ Aside0 (Below w.heap.size w wc))
 case first =>
  have H := HC3.out
  clear HC3
  by_cases c6 : t166 = 0
  ·rw [if_pos c6] at H
   have c6b0 : (t166 == 0) = true := beq_iff_eq.mpr c6
   have c6b1 : (t166 != 0) = false := bne_eq_false_iff_eq.mpr c6
   clear c6
   (first | rw [c6b0] | (simp only [i64_w, i32_w]; rw [c6b0]) | skip)
   by_cases c7 : 0 < (t165.length : Int)
   ·rw [if_pos c7] at H
    have c7b0 : decide (0 < (t165.length : Int)) = true := decide_eq_true c7
    have c7b1 : decide (0 < t165.length) = true := decide_eq_true (by omega)
    clear c7
    by_cases c8 : ((rd_T60 t165 0).f1) > 9007199254740991
    ·rw [if_pos c8] at H
     have c8b0 : decide (9007199254740991 < ((rd_T60 t165 0).f1)) = true := decide_eq_true c8
     clear c8
     have H' := Aside0.mk H
     clear H
     obtain ⟨Ao9, co9, eo9⟩ := Kd.R_slice HO168.out
     subst eo9
     have p169 : 0 ≤ (0 : Int) := (by omega)
     have q169 : 0 < (t165.length : Int) := of_decide_eq_true (by first | (with_reducible assumption) | assumption)
     obtain ⟨ad169, e169, hx169_0, hx169_1, hx169_2⟩ := at_T60 (Kd.R_reads' HO168.out).2.2 0 p169 q169
     cases e169
     have qi169 : (0 < t165.length) = True := eq_true (by omega)
     (try rw [show ((0 : Int)).toNat = 0 from rfl] at hx169_0)
     (try rw [show 0 * 3 = 0 from rfl] at hx169_0)
     (try rw [Addr.add_zero'] at hx169_0)
     (try rw [show ((0 : Int)).toNat = 0 from rfl] at hx169_1)
     (try rw [show 0 * 3 = 0 from rfl] at hx169_1)
     (try rw [Addr.add_zero'] at hx169_1)
     (try rw [show ((0 : Int)).toNat = 0 from rfl] at hx169_2)
     (try rw [show 0 * 3 = 0 from rfl] at hx169_2)
     (try rw [Addr.add_zero'] at hx169_2)
     replace p169 := eq_true p169
     replace q169 := eq_true q169
     go_wp2
     go_meet
     case rel => exact ⟨_, (true), (by first | rfl | (simp; done) | (simp [*]; done)), H', ⟨by first | omega | exact Nat.le_refl _⟩, ⟨by (with_reducible repeat (first | apply Kd.R_alloc | apply Kd.R_drewN | apply Kd.R_drew)); exact HO168.out⟩, ⟨by (with_reducible repeat (first | refine blk_drewN ?_ _ | refine blk_drew ?_ | refine blk_alloc ?_ _)); exact BK164.out⟩, ⟨bw⟩⟩
    ·rw [if_neg c8] at H
     have c8b0 : decide (9007199254740991 < ((rd_T60 t165 0).f1)) = false := decide_eq_false c8
     clear c8
     by_cases c10 : 2 < (t165.length : Int)
     ·rw [if_pos c10] at H
      have c10b0 : decide (2 < (t165.length : Int)) = true := decide_eq_true c10
      have c10b1 : decide (2 < t165.length) = true := decide_eq_true (by omega)
      clear c10
      have H' := Aside0.mk H
      clear H
      obtain ⟨Ao11, co11, eo11⟩ := Kd.R_slice HO168.out
      subst eo11
      have p169 : 0 ≤ (0 : Int) := (by omega)
      have q169 : 0 < (t165.length : Int) := of_decide_eq_true (by first | (with_reducible assumption) | assumption)
      obtain ⟨ad169, e169, hx169_0, hx169_1, hx169_2⟩ := at_T60 (Kd.R_reads' HO168.out).2.2 0 p169 q169
      cases e169
      have qi169 : (0 < t165.length) = True := eq_true (by omega)
      (try rw [show ((0 : Int)).toNat = 0 from rfl] at hx169_0)
      (try rw [show 0 * 3 = 0 from rfl] at hx169_0)
      (try rw [Addr.add_zero'] at hx169_0)
      (try rw [show ((0 : Int)).toNat = 0 from rfl] at hx169_1)
      (try rw [show 0 * 3 = 0 from rfl] at hx169_1)
      (try rw [Addr.add_zero'] at hx169_1)
      (try rw [show ((0 : Int)).toNat = 0 from rfl] at hx169_2)
      (try rw [show 0 * 3 = 0 from rfl] at hx169_2)
      (try rw [Addr.add_zero'] at hx169_2)
      replace p169 := eq_true p169
      replace q169 := eq_true q169
      have p170 : 0 ≤ (2 : Int) := (by omega)
      have q170 : 2 < (t165.length : Int) := of_decide_eq_true (by first | (with_reducible assumption) | assumption)
      obtain ⟨ad170, e170, hx170_0, hx170_1, hx170_2⟩ := at_T60 (Kd.R_reads' HO168.out).2.2 2 p170 q170
      obtain rfl : ad169 = ad170 := (by injection e170)
      (try simp only [show (2 : Int).toNat = 2 from rfl, Nat.reduceMul, Nat.reduceEqDiff, Go.Addr.add, ↓reduceIte] at hx170_0)
      (try simp only [show (2 : Int).toNat = 2 from rfl, Nat.reduceMul, Nat.reduceEqDiff, Go.Addr.add, ↓reduceIte] at hx170_1)
      (try simp only [show (2 : Int).toNat = 2 from rfl, Nat.reduceMul, Nat.reduceEqDiff, Go.Addr.add, ↓reduceIte] at hx170_2)
      have qi170 : (2 < t165.length) = True := eq_true (by omega)
      (try rw [show ((2 : Int)).toNat = 2 from rfl] at hx170_0)
      (try rw [show 2 * 3 = 6 from rfl] at hx170_0)
      (try rw [show ((2 : Int)).toNat = 2 from rfl] at hx170_1)
      (try rw [show 2 * 3 = 6 from rfl] at hx170_1)
      (try rw [show ((2 : Int)).toNat = 2 from rfl] at hx170_2)
      (try rw [show 2 * 3 = 6 from rfl] at hx170_2)
      replace p170 := eq_true p170
      replace q170 := eq_true q170
      go_wp2
      go_meet
      case rel => exact ⟨_, (decide (((rd_T60 t165 2).f1) > 9007199254740991)), (by first | rfl | (simp; done) | (simp [*]; done)), H', ⟨by first | omega | exact Nat.le_refl _⟩, ⟨by (with_reducible repeat (first | apply Kd.R_alloc | apply Kd.R_drewN | apply Kd.R_drew)); exact HO168.out⟩, ⟨by (with_reducible repeat (first | refine blk_drewN ?_ _ | refine blk_drew ?_ | refine blk_alloc ?_ _)); exact BK164.out⟩, ⟨bw⟩⟩
     ·rw [if_neg c10] at H
      exact absurd H (by simp)
   ·rw [if_neg c7] at H
    exact absurd H (by simp)
  ·rw [if_neg c6] at H
   have c6b0 : (t166 == 0) = false := beq_eq_false_iff_ne.mpr c6
   have c6b1 : (t166 != 0) = true := bne_iff_ne.mpr c6
   (first | rw [c6b0] | (simp only [i64_w, i32_w]; rw [c6b0]) | skip)
   have H' := Aside0.mk H
   clear H
   go_wp2
   go_meet
   case rel => exact ⟨_, (true), (by first | rfl | (simp; done) | (simp [*]; done)), H', ⟨by first | omega | exact Nat.le_refl _⟩, ⟨by (with_reducible repeat (first | apply Kd.R_alloc | apply Kd.R_drewN | apply Kd.R_drew)); exact HO168.out⟩, ⟨by (with_reducible repeat (first | refine blk_drewN ?_ _ | refine blk_drew ?_ | refine blk_alloc ?_ _)); exact BK164.out⟩, ⟨bw⟩⟩
 case rest =>
  clear HC3
  try clear c1
  try clear p1
  try clear q1
  try clear hx1
  try clear qi1
  try clear p2
  try clear c4
  try clear c5
  try clear c6
  try clear c6b0
  try clear c6b1
  try clear c7
  try clear c7b0
  try clear c7b1
  try clear c8
  try clear c8b0
  try clear c10
  try clear c10b0
  try clear c10b1
  try clear hx169_0
  try clear hx169_1
  try clear hx169_2
  try clear hx170_0
  try clear hx170_1
  try clear hx170_2
  try clear p169
  try clear p170
  try clear q169
  try clear q170
  obtain ⟨kq, x27_2, rfl, HA, HJ2, HO_4, BK164, HB⟩ := hcut
  cases kq with
  | zero => exact absurd HA.out (by simp [segment_record.j0])
  | succ kj2 =>
   have H := HA.out
   clear HA
   simp only [segment_record.j0] at H
   by_cases c12 : x27_2 = true
   ·subst c12
    have H1 : (some (0, (⟨#[]⟩ : ByteArray), 0, (⟨#[]⟩ : ByteArray), (⟨#[]⟩ : ByteArray), 10)) = some (r1, r2, r3, r4, r5, r6) := by rw [if_pos rfl] at H; exact H
    clear H
    have H := H1
    clear H1
    simp only [Option.some.injEq, Prod.mk.injEq] at H
    obtain ⟨rfl, rfl, rfl, rfl, rfl, rfl⟩ := H
    have hcz13_0 := bc5_0 BK164.out
    have hcz13_1 := bc5_1 BK164.out
    have hcz13_2 := bc5_2 BK164.out
    have hcz13_3 := bc5_3 BK164.out
    have hcz13_4 := bc5_4 BK164.out
    have hfz13_0 := blk_frozen BK164.out 0
    have hfz13_1 := blk_frozen BK164.out 1
    have hfz13_2 := blk_frozen BK164.out 2
    have hfz13_3 := blk_frozen BK164.out 3
    have hfz13_4 := blk_frozen BK164.out 4
    go_wp2
    refine bodyPost_ret (results_ct rfl _ _ gb164 23 #[.int .i64 0, .string (⟨#[]⟩ : ByteArray), .int .i64 0, .string (⟨#[]⟩ : ByteArray), .string (⟨#[]⟩ : ByteArray)] (0, 0) _ rfl (by (with_reducible repeat (first | refine blk_drewN ?_ _ | refine blk_drew ?_ | refine blk_alloc ?_ _)); refine blk_put (cs := #[.int .i64 0, .string (⟨#[]⟩ : ByteArray), .int .i64 0, .string (⟨#[]⟩ : ByteArray), .string (⟨#[]⟩ : ByteArray)]) ?_ 4 _ rfl; (with_reducible repeat (first | refine blk_drewN ?_ _ | refine blk_drew ?_ | refine blk_alloc ?_ _)); refine blk_put (cs := #[.int .i64 0, .string (⟨#[]⟩ : ByteArray), .int .i64 0, .string (⟨#[]⟩ : ByteArray), .string (⟨#[]⟩ : ByteArray)]) ?_ 3 _ rfl; (with_reducible repeat (first | refine blk_drewN ?_ _ | refine blk_drew ?_ | refine blk_alloc ?_ _)); refine blk_put (cs := #[.int .i64 0, .string (⟨#[]⟩ : ByteArray), .int .i64 0, .string (⟨#[]⟩ : ByteArray), .string (⟨#[]⟩ : ByteArray)]) ?_ 2 _ rfl; (with_reducible repeat (first | refine blk_drewN ?_ _ | refine blk_drew ?_ | refine blk_alloc ?_ _)); refine blk_put (cs := #[.int .i64 0, .string (⟨#[]⟩ : ByteArray), .int .i64 0, .string (⟨#[]⟩ : ByteArray), .string (⟨#[]⟩ : ByteArray)]) ?_ 1 _ rfl; (with_reducible repeat (first | refine blk_drewN ?_ _ | refine blk_drew ?_ | refine blk_alloc ?_ _)); refine blk_put (cs := #[.int .i64 0, .string (⟨#[]⟩ : ByteArray), .int .i64 0, .string (⟨#[]⟩ : ByteArray), .string (⟨#[]⟩ : ByteArray)]) ?_ 0 _ rfl; (with_reducible repeat (first | refine blk_drewN ?_ _ | refine blk_drew ?_ | refine blk_alloc ?_ _)); exact BK164.out) Tryd.underlying23 rfl (by kernel_rfl)) rfl ?_
    exact ⟨er, bw⟩
   ·replace c12 := Bool.eq_false_iff.mpr c12
    subst c12
    have H1 : (if 0 < (t165.length : Int) then (if 1 < (t165.length : Int) then (if 2 < (t165.length : Int) then (if 3 < (t165.length : Int) then (if 4 < (t165.length : Int) then ((segment_Right.f (wrap64 ((rd_T60 t165 0).f1)) ((rd_T60 t165 1).f2) (wrap64 ((rd_T60 t165 2).f1)) ((rd_T60 t165 3).f2) ((rd_T60 t165 4).f2)).bind fun t177 => (if t177 = true then (some (wrap64 ((rd_T60 t165 0).f1), (rd_T60 t165 1).f2, wrap64 ((rd_T60 t165 2).f1), (rd_T60 t165 3).f2, (rd_T60 t165 4).f2, 0)) else (some (0, (⟨#[]⟩ : ByteArray), 0, (⟨#[]⟩ : ByteArray), (⟨#[]⟩ : ByteArray), 10)))) else (none)) else (none)) else (none)) else (none)) else (none)) = some (r1, r2, r3, r4, r5, r6) := by rw [if_neg (show ¬ (false = true) by decide)] at H; exact H
    clear H
    have H := H1
    clear H1
    by_cases c14 : 0 < (t165.length : Int)
    ·rw [if_pos c14] at H
     have c14b0 : decide (0 < (t165.length : Int)) = true := decide_eq_true c14
     have c14b1 : decide (0 < t165.length) = true := decide_eq_true (by omega)
     clear c14
     by_cases c15 : 1 < (t165.length : Int)
     ·rw [if_pos c15] at H
      have c15b0 : decide (1 < (t165.length : Int)) = true := decide_eq_true c15
      have c15b1 : decide (1 < t165.length) = true := decide_eq_true (by omega)
      clear c15
      by_cases c16 : 2 < (t165.length : Int)
      ·rw [if_pos c16] at H
       have c16b0 : decide (2 < (t165.length : Int)) = true := decide_eq_true c16
       have c16b1 : decide (2 < t165.length) = true := decide_eq_true (by omega)
       clear c16
       by_cases c17 : 3 < (t165.length : Int)
       ·rw [if_pos c17] at H
        have c17b0 : decide (3 < (t165.length : Int)) = true := decide_eq_true c17
        have c17b1 : decide (3 < t165.length) = true := decide_eq_true (by omega)
        clear c17
        by_cases c18 : 4 < (t165.length : Int)
        ·rw [if_pos c18] at H
         have c18b0 : decide (4 < (t165.length : Int)) = true := decide_eq_true c18
         have c18b1 : decide (4 < t165.length) = true := decide_eq_true (by omega)
         clear c18
         replace H := Option.bind_eq_some_iff.mp H
         obtain ⟨t177, A190, H⟩ := H
         replace H : (if t177 = true then (some (wrap64 ((rd_T60 t165 0).f1), (rd_T60 t165 1).f2, wrap64 ((rd_T60 t165 2).f1), (rd_T60 t165 3).f2, (rd_T60 t165 4).f2, 0)) else (some (0, (⟨#[]⟩ : ByteArray), 0, (⟨#[]⟩ : ByteArray), (⟨#[]⟩ : ByteArray), 10))) = some (r1, r2, r3, r4, r5, r6) := H
         have A19 := Aside0.mk A190
         clear A190
         by_cases c20 : t177 = true
         ·subst c20
          have H1 : (some (wrap64 ((rd_T60 t165 0).f1), (rd_T60 t165 1).f2, wrap64 ((rd_T60 t165 2).f1), (rd_T60 t165 3).f2, (rd_T60 t165 4).f2, 0)) = some (r1, r2, r3, r4, r5, r6) := by rw [if_pos rfl] at H; exact H
          clear H
          have H := H1
          clear H1
          simp only [Option.some.injEq, Prod.mk.injEq] at H
          obtain ⟨rfl, rfl, rfl, rfl, rfl, rfl⟩ := H
          try go_wp2
          have n0_ := Aside0.mk (Kd.R_drew HO_4.out)
          have n1_ := Aside0.mk (blk_drew BK164.out)
          have n2_ := Aside0.mk (below_drew1 HB.out)
          clear HO_4
          clear BK164
          clear HB
          have HO_4 := n0_
          have BK164 := n1_
          have HB := n2_
          clear n0_ n1_ n2_
          obtain ⟨Ao22, co22, eo22⟩ := Kd.R_slice HO_4.out
          (first | subst eo22 | (injection eo22 with f1_ f2_ f3_; have f4_ := f1_.symm; have f5_ := f3_.symm; clear f1_ f2_ f3_; subst f4_; subst f5_))
          have p171 : 0 ≤ (0 : Int) := (by omega)
          have q171 : 0 < (t165.length : Int) := of_decide_eq_true (by first | (with_reducible assumption) | assumption)
          obtain ⟨ad171, e171, hx171_0, hx171_1, hx171_2⟩ := at_T60 (Kd.R_reads' HO_4.out).2.2 0 p171 q171
          cases e171
          have qi171 : (0 < t165.length) = True := eq_true (by omega)
          (try rw [show ((0 : Int)).toNat = 0 from rfl] at hx171_0)
          (try rw [show 0 * 3 = 0 from rfl] at hx171_0)
          (try rw [Addr.add_zero'] at hx171_0)
          (try rw [show ((0 : Int)).toNat = 0 from rfl] at hx171_1)
          (try rw [show 0 * 3 = 0 from rfl] at hx171_1)
          (try rw [Addr.add_zero'] at hx171_1)
          (try rw [show ((0 : Int)).toNat = 0 from rfl] at hx171_2)
          (try rw [show 0 * 3 = 0 from rfl] at hx171_2)
          (try rw [Addr.add_zero'] at hx171_2)
          replace p171 := eq_true p171
          replace q171 := eq_true q171
          have p172 : 0 ≤ (1 : Int) := (by omega)
          have q172 : 1 < (t165.length : Int) := of_decide_eq_true (by first | (with_reducible assumption) | assumption)
          obtain ⟨ad172, e172, hx172_0, hx172_1, hx172_2⟩ := at_T60 (Kd.R_reads' HO_4.out).2.2 1 p172 q172
          obtain rfl : ad171 = ad172 := (by injection e172)
          (try simp only [show (1 : Int).toNat = 1 from rfl, Nat.reduceMul, Nat.reduceEqDiff, Go.Addr.add, ↓reduceIte] at hx172_0)
          (try simp only [show (1 : Int).toNat = 1 from rfl, Nat.reduceMul, Nat.reduceEqDiff, Go.Addr.add, ↓reduceIte] at hx172_1)
          (try simp only [show (1 : Int).toNat = 1 from rfl, Nat.reduceMul, Nat.reduceEqDiff, Go.Addr.add, ↓reduceIte] at hx172_2)
          have qi172 : (1 < t165.length) = True := eq_true (by omega)
          (try rw [show ((1 : Int)).toNat = 1 from rfl] at hx172_0)
          (try rw [show 1 * 3 = 3 from rfl] at hx172_0)
          (try rw [show ((1 : Int)).toNat = 1 from rfl] at hx172_1)
          (try rw [show 1 * 3 = 3 from rfl] at hx172_1)
          (try rw [show ((1 : Int)).toNat = 1 from rfl] at hx172_2)
          (try rw [show 1 * 3 = 3 from rfl] at hx172_2)
          replace p172 := eq_true p172
          replace q172 := eq_true q172
          have p173 : 0 ≤ (2 : Int) := (by omega)
          have q173 : 2 < (t165.length : Int) := of_decide_eq_true (by first | (with_reducible assumption) | assumption)
          obtain ⟨ad173, e173, hx173_0, hx173_1, hx173_2⟩ := at_T60 (Kd.R_reads' HO_4.out).2.2 2 p173 q173
          obtain rfl : ad171 = ad173 := (by injection e173)
          (try simp only [show (2 : Int).toNat = 2 from rfl, Nat.reduceMul, Nat.reduceEqDiff, Go.Addr.add, ↓reduceIte] at hx173_0)
          (try simp only [show (2 : Int).toNat = 2 from rfl, Nat.reduceMul, Nat.reduceEqDiff, Go.Addr.add, ↓reduceIte] at hx173_1)
          (try simp only [show (2 : Int).toNat = 2 from rfl, Nat.reduceMul, Nat.reduceEqDiff, Go.Addr.add, ↓reduceIte] at hx173_2)
          have qi173 : (2 < t165.length) = True := eq_true (by omega)
          (try rw [show ((2 : Int)).toNat = 2 from rfl] at hx173_0)
          (try rw [show 2 * 3 = 6 from rfl] at hx173_0)
          (try rw [show ((2 : Int)).toNat = 2 from rfl] at hx173_1)
          (try rw [show 2 * 3 = 6 from rfl] at hx173_1)
          (try rw [show ((2 : Int)).toNat = 2 from rfl] at hx173_2)
          (try rw [show 2 * 3 = 6 from rfl] at hx173_2)
          replace p173 := eq_true p173
          replace q173 := eq_true q173
          have p174 : 0 ≤ (3 : Int) := (by omega)
          have q174 : 3 < (t165.length : Int) := of_decide_eq_true (by first | (with_reducible assumption) | assumption)
          obtain ⟨ad174, e174, hx174_0, hx174_1, hx174_2⟩ := at_T60 (Kd.R_reads' HO_4.out).2.2 3 p174 q174
          obtain rfl : ad171 = ad174 := (by injection e174)
          (try simp only [show (3 : Int).toNat = 3 from rfl, Nat.reduceMul, Nat.reduceEqDiff, Go.Addr.add, ↓reduceIte] at hx174_0)
          (try simp only [show (3 : Int).toNat = 3 from rfl, Nat.reduceMul, Nat.reduceEqDiff, Go.Addr.add, ↓reduceIte] at hx174_1)
          (try simp only [show (3 : Int).toNat = 3 from rfl, Nat.reduceMul, Nat.reduceEqDiff, Go.Addr.add, ↓reduceIte] at hx174_2)
          have qi174 : (3 < t165.length) = True := eq_true (by omega)
          (try rw [show ((3 : Int)).toNat = 3 from rfl] at hx174_0)
          (try rw [show 3 * 3 = 9 from rfl] at hx174_0)
          (try rw [show ((3 : Int)).toNat = 3 from rfl] at hx174_1)
          (try rw [show 3 * 3 = 9 from rfl] at hx174_1)
          (try rw [show ((3 : Int)).toNat = 3 from rfl] at hx174_2)
          (try rw [show 3 * 3 = 9 from rfl] at hx174_2)
          replace p174 := eq_true p174
          replace q174 := eq_true q174
          have p175 : 0 ≤ (4 : Int) := (by omega)
          have q175 : 4 < (t165.length : Int) := of_decide_eq_true (by first | (with_reducible assumption) | assumption)
          obtain ⟨ad175, e175, hx175_0, hx175_1, hx175_2⟩ := at_T60 (Kd.R_reads' HO_4.out).2.2 4 p175 q175
          obtain rfl : ad171 = ad175 := (by injection e175)
          (try simp only [show (4 : Int).toNat = 4 from rfl, Nat.reduceMul, Nat.reduceEqDiff, Go.Addr.add, ↓reduceIte] at hx175_0)
          (try simp only [show (4 : Int).toNat = 4 from rfl, Nat.reduceMul, Nat.reduceEqDiff, Go.Addr.add, ↓reduceIte] at hx175_1)
          (try simp only [show (4 : Int).toNat = 4 from rfl, Nat.reduceMul, Nat.reduceEqDiff, Go.Addr.add, ↓reduceIte] at hx175_2)
          have qi175 : (4 < t165.length) = True := eq_true (by omega)
          (try rw [show ((4 : Int)).toNat = 4 from rfl] at hx175_0)
          (try rw [show 4 * 3 = 12 from rfl] at hx175_0)
          (try rw [show ((4 : Int)).toNat = 4 from rfl] at hx175_1)
          (try rw [show 4 * 3 = 12 from rfl] at hx175_1)
          (try rw [show ((4 : Int)).toNat = 4 from rfl] at hx175_2)
          (try rw [show 4 * 3 = 12 from rfl] at hx175_2)
          replace p175 := eq_true p175
          replace q175 := eq_true q175
          refine start_ (n := 25) (S := fun w' => w'.cell? ad171 = some (.int .i64 ((rd_T60 t165 0).f0)) ∧ w'.cell? ⟨ad171.block, ad171.off + 1, none⟩ = some (.int .u64 ((rd_T60 t165 0).f1)) ∧ w'.cell? ⟨ad171.block, ad171.off + 2, none⟩ = some (.string ((rd_T60 t165 0).f2)) ∧ w'.cell? ⟨ad171.block, ad171.off + 3, none⟩ = some (.int .i64 ((rd_T60 t165 1).f0)) ∧ w'.cell? ⟨ad171.block, ad171.off + 3 + 1, none⟩ = some (.int .u64 ((rd_T60 t165 1).f1)) ∧ w'.cell? ⟨ad171.block, ad171.off + 3 + 2, none⟩ = some (.string ((rd_T60 t165 1).f2)) ∧ w'.cell? ⟨ad171.block, ad171.off + 6, none⟩ = some (.int .i64 ((rd_T60 t165 2).f0)) ∧ w'.cell? ⟨ad171.block, ad171.off + 6 + 1, none⟩ = some (.int .u64 ((rd_T60 t165 2).f1)) ∧ w'.cell? ⟨ad171.block, ad171.off + 6 + 2, none⟩ = some (.string ((rd_T60 t165 2).f2)) ∧ w'.cell? ⟨ad171.block, ad171.off + 9, none⟩ = some (.int .i64 ((rd_T60 t165 3).f0)) ∧ w'.cell? ⟨ad171.block, ad171.off + 9 + 1, none⟩ = some (.int .u64 ((rd_T60 t165 3).f1)) ∧ w'.cell? ⟨ad171.block, ad171.off + 9 + 2, none⟩ = some (.string ((rd_T60 t165 3).f2)) ∧ w'.cell? ⟨ad171.block, ad171.off + 12, none⟩ = some (.int .i64 ((rd_T60 t165 4).f0)) ∧ w'.cell? ⟨ad171.block, ad171.off + 12 + 1, none⟩ = some (.int .u64 ((rd_T60 t165 4).f1)) ∧ w'.cell? ⟨ad171.block, ad171.off + 12 + 2, none⟩ = some (.string ((rd_T60 t165 4).f2))) (ds := []) #[false, false, false, false, false, false, false, false, false, false, false, false, false, false, false, false, false, false, false, false, false, false, false, false, false] (by kernel_rfl) rfl rfl ⟨hx171_0, hx171_1, hx171_2, hx172_0, hx172_1, hx172_2, hx173_0, hx173_1, hx173_2, hx174_0, hx174_1, hx174_2, hx175_0, hx175_1, hx175_2⟩ (fun hHeld => ?_); refine with_tabW segment_record.tab4 segment_record.bits4 (fun HT_ HW_ => ?_)
          generalize wc.drew = w21 at HO_4 BK164 HB hx171_0 hx171_1 hx171_2 hx172_0 hx172_1 hx172_2 hx173_0 hx173_1 hx173_2 hx174_0 hx174_1 hx174_2 hx175_0 hx175_1 hx175_2 hHeld ⊢
          refine pure_ (i := 0) (N := some 29) (v := ?_) (a' := ?_) #[true, false, false, false, false, false, false, false, false, false, false, false, false, false, false, false, false, false, false, false, false, false, false, false, false] rfl rfl (any_of HT_.out (by kernel_rfl)) (fun _ _ _ h => h) (Or.inl ⟨by rfl, ?_⟩) ?_ ?_
          rotate_left
          ·intro w'
           go_simp
           with_reducible rfl
          rotate_left
          ·simp only [Act.put, sl1, sl2, sl3, i64_w, i32_w]
           rfl
          refine pure_ (i := 1) (N := some 30) (v := ?_) (a' := ?_) #[true, true, false, false, false, false, false, false, false, false, false, false, false, false, false, false, false, false, false, false, false, false, false, false, false] rfl rfl (any_of HT_.out (by kernel_rfl)) (fun _ _ _ h => h) (Or.inl ⟨by rfl, ?_⟩) ?_ ?_
          rotate_left
          ·intro w'
           go_simp
           with_reducible rfl
          rotate_left
          ·simp only [Act.put, sl1, sl2, sl3, i64_w, i32_w]
           rfl
          refine pure_ (i := 2) (N := some 31) (v := ?_) (a' := ?_) #[true, true, true, false, false, false, false, false, false, false, false, false, false, false, false, false, false, false, false, false, false, false, false, false, false] rfl rfl (any_of HT_.out (by kernel_rfl)) (fun _ _ _ h => h) (Or.inl ⟨by rfl, ?_⟩) ?_ ?_
          rotate_left
          ·intro w'
           go_simp
           with_reducible rfl
          rotate_left
          ·simp only [Act.put, sl1, sl2, sl3, i64_w, i32_w]
           rfl
          refine pure_ (i := 5) (N := some 34) (v := ?_) (a' := ?_) #[true, true, true, false, false, true, false, false, false, false, false, false, false, false, false, false, false, false, false, false, false, false, false, false, false] rfl rfl (any_of HT_.out (by kernel_rfl)) (fun _ _ _ h => h) (Or.inl ⟨by rfl, ?_⟩) ?_ ?_
          rotate_left
          ·intro w'
           go_simp
           with_reducible rfl
          rotate_left
          ·simp only [Act.put, sl1, sl2, sl3, i64_w, i32_w]
           rfl
          refine pure_ (i := 6) (N := some 35) (v := ?_) (a' := ?_) #[true, true, true, false, false, true, true, false, false, false, false, false, false, false, false, false, false, false, false, false, false, false, false, false, false] rfl rfl (any_of HT_.out (by kernel_rfl)) (fun _ _ _ h => h) (Or.inl ⟨by rfl, ?_⟩) ?_ ?_
          rotate_left
          ·intro w'
           go_simp
           with_reducible rfl
          rotate_left
          ·simp only [Act.put, sl1, sl2, sl3, i64_w, i32_w]
           rfl
          refine pure_ (i := 7) (N := some 36) (v := ?_) (a' := ?_) #[true, true, true, false, false, true, true, true, false, false, false, false, false, false, false, false, false, false, false, false, false, false, false, false, false] rfl rfl (any_of HT_.out (by kernel_rfl)) (fun _ _ _ h => h) (Or.inl ⟨by rfl, ?_⟩) ?_ ?_
          rotate_left
          ·intro w'
           go_simp
           with_reducible rfl
          rotate_left
          ·simp only [Act.put, sl1, sl2, sl3, i64_w, i32_w]
           rfl
          refine pure_ (i := 9) (N := some 38) (v := ?_) (a' := ?_) #[true, true, true, false, false, true, true, true, false, true, false, false, false, false, false, false, false, false, false, false, false, false, false, false, false] rfl rfl (any_of HT_.out (by kernel_rfl)) (fun _ _ _ h => h) (Or.inl ⟨by rfl, ?_⟩) ?_ ?_
          rotate_left
          ·intro w'
           go_simp
           with_reducible rfl
          rotate_left
          ·simp only [Act.put, sl1, sl2, sl3, i64_w, i32_w]
           rfl
          refine pure_ (i := 10) (N := some 39) (v := ?_) (a' := ?_) #[true, true, true, false, false, true, true, true, false, true, true, false, false, false, false, false, false, false, false, false, false, false, false, false, false] rfl rfl (any_of HT_.out (by kernel_rfl)) (fun _ _ _ h => h) (Or.inl ⟨by rfl, ?_⟩) ?_ ?_
          rotate_left
          ·intro w'
           go_simp
           with_reducible rfl
          rotate_left
          ·simp only [Act.put, sl1, sl2, sl3, i64_w, i32_w]
           rfl
          refine pure_ (i := 11) (N := some 40) (v := ?_) (a' := ?_) #[true, true, true, false, false, true, true, true, false, true, true, true, false, false, false, false, false, false, false, false, false, false, false, false, false] rfl rfl (any_of HT_.out (by kernel_rfl)) (fun _ _ _ h => h) (Or.inl ⟨by rfl, ?_⟩) ?_ ?_
          rotate_left
          ·intro w'
           go_simp
           with_reducible rfl
          rotate_left
          ·simp only [Act.put, sl1, sl2, sl3, i64_w, i32_w]
           rfl
          refine pure_ (i := 14) (N := some 43) (v := ?_) (a' := ?_) #[true, true, true, false, false, true, true, true, false, true, true, true, false, false, true, false, false, false, false, false, false, false, false, false, false] rfl rfl (any_of HT_.out (by kernel_rfl)) (fun _ _ _ h => h) (Or.inl ⟨by rfl, ?_⟩) ?_ ?_
          rotate_left
          ·intro w'
           go_simp
           with_reducible rfl
          rotate_left
          ·simp only [Act.put, sl1, sl2, sl3, i64_w, i32_w]
           rfl
          refine pure_ (i := 15) (N := some 44) (v := ?_) (a' := ?_) #[true, true, true, false, false, true, true, true, false, true, true, true, false, false, true, true, false, false, false, false, false, false, false, false, false] rfl rfl (any_of HT_.out (by kernel_rfl)) (fun _ _ _ h => h) (Or.inl ⟨by rfl, ?_⟩) ?_ ?_
          rotate_left
          ·intro w'
           go_simp
           with_reducible rfl
          rotate_left
          ·simp only [Act.put, sl1, sl2, sl3, i64_w, i32_w]
           rfl
          refine pure_ (i := 16) (N := some 45) (v := ?_) (a' := ?_) #[true, true, true, false, false, true, true, true, false, true, true, true, false, false, true, true, true, false, false, false, false, false, false, false, false] rfl rfl (any_of HT_.out (by kernel_rfl)) (fun _ _ _ h => h) (Or.inl ⟨by rfl, ?_⟩) ?_ ?_
          rotate_left
          ·intro w'
           go_simp
           with_reducible rfl
          rotate_left
          ·simp only [Act.put, sl1, sl2, sl3, i64_w, i32_w]
           rfl
          refine pure_ (i := 18) (N := some 47) (v := ?_) (a' := ?_) #[true, true, true, false, false, true, true, true, false, true, true, true, false, false, true, true, true, false, true, false, false, false, false, false, false] rfl rfl (any_of HT_.out (by kernel_rfl)) (fun _ _ _ h => h) (Or.inl ⟨by rfl, ?_⟩) ?_ ?_
          rotate_left
          ·intro w'
           go_simp
           with_reducible rfl
          rotate_left
          ·simp only [Act.put, sl1, sl2, sl3, i64_w, i32_w]
           rfl
          refine pure_ (i := 19) (N := some 48) (v := ?_) (a' := ?_) #[true, true, true, false, false, true, true, true, false, true, true, true, false, false, true, true, true, false, true, true, false, false, false, false, false] rfl rfl (any_of HT_.out (by kernel_rfl)) (fun _ _ _ h => h) (Or.inl ⟨by rfl, ?_⟩) ?_ ?_
          rotate_left
          ·intro w'
           go_simp
           with_reducible rfl
          rotate_left
          ·simp only [Act.put, sl1, sl2, sl3, i64_w, i32_w]
           rfl
          refine pure_ (i := 20) (N := some 49) (v := ?_) (a' := ?_) #[true, true, true, false, false, true, true, true, false, true, true, true, false, false, true, true, true, false, true, true, true, false, false, false, false] rfl rfl (any_of HT_.out (by kernel_rfl)) (fun _ _ _ h => h) (Or.inl ⟨by rfl, ?_⟩) ?_ ?_
          rotate_left
          ·intro w'
           go_simp
           with_reducible rfl
          rotate_left
          ·simp only [Act.put, sl1, sl2, sl3, i64_w, i32_w]
           rfl
          refine take_ (i := 3) (N := some 32) (v := ?_) (a' := ?_) #[true, true, true, true, false, true, true, true, false, true, true, true, false, false, true, true, true, false, true, true, true, false, false, false, false] rfl rfl (take_ofW HT_.out HW_.out (by kernel_rfl)) (fun _ _ _ h => h) (Or.inl ⟨by rfl, ?_⟩) hHeld ?_ ?_
          rotate_left
          ·rintro w' ⟨s0, s1, s2, s3, s4, s5, s6, s7, s8, s9, s10, s11, s12, s13, s14⟩
           go_simp
           with_reducible rfl
          rotate_left
          ·simp only [Act.put, sl1, sl2, sl3, i64_w, i32_w]
           rfl
          refine pure_ (i := 4) (N := some 33) (v := ?_) (a' := ?_) #[true, true, true, true, true, true, true, true, false, true, true, true, false, false, true, true, true, false, true, true, true, false, false, false, false] rfl rfl (any_of HT_.out (by kernel_rfl)) (fun _ _ _ h => h) (Or.inl ⟨by rfl, ?_⟩) ?_ ?_
          rotate_left
          ·intro w'
           go_simp
           with_reducible rfl
          rotate_left
          ·simp only [Act.put, sl1, sl2, sl3, i64_w, i32_w]
           rfl
          refine take_ (i := 8) (N := some 37) (v := ?_) (a' := ?_) #[true, true, true, true, true, true, true, true, true, true, true, true, false, false, true, true, true, false, true, true, true, false, false, false, false] rfl rfl (take_ofW HT_.out HW_.out (by kernel_rfl)) (fun _ _ _ h => h) (Or.inl ⟨by rfl, ?_⟩) hHeld ?_ ?_
          rotate_left
          ·rintro w' ⟨s0, s1, s2, s3, s4, s5, s6, s7, s8, s9, s10, s11, s12, s13, s14⟩
           go_simp
           with_reducible rfl
          rotate_left
          ·simp only [Act.put, sl1, sl2, sl3, i64_w, i32_w]
           rfl
          refine take_ (i := 12) (N := some 41) (v := ?_) (a' := ?_) #[true, true, true, true, true, true, true, true, true, true, true, true, true, false, true, true, true, false, true, true, true, false, false, false, false] rfl rfl (take_ofW HT_.out HW_.out (by kernel_rfl)) (fun _ _ _ h => h) (Or.inl ⟨by rfl, ?_⟩) hHeld ?_ ?_
          rotate_left
          ·rintro w' ⟨s0, s1, s2, s3, s4, s5, s6, s7, s8, s9, s10, s11, s12, s13, s14⟩
           go_simp
           with_reducible rfl
          rotate_left
          ·simp only [Act.put, sl1, sl2, sl3, i64_w, i32_w]
           rfl
          refine pure_ (i := 13) (N := some 42) (v := ?_) (a' := ?_) #[true, true, true, true, true, true, true, true, true, true, true, true, true, true, true, true, true, false, true, true, true, false, false, false, false] rfl rfl (any_of HT_.out (by kernel_rfl)) (fun _ _ _ h => h) (Or.inl ⟨by rfl, ?_⟩) ?_ ?_
          rotate_left
          ·intro w'
           go_simp
           with_reducible rfl
          rotate_left
          ·simp only [Act.put, sl1, sl2, sl3, i64_w, i32_w]
           rfl
          refine take_ (i := 17) (N := some 46) (v := ?_) (a' := ?_) #[true, true, true, true, true, true, true, true, true, true, true, true, true, true, true, true, true, true, true, true, true, false, false, false, false] rfl rfl (take_ofW HT_.out HW_.out (by kernel_rfl)) (fun _ _ _ h => h) (Or.inl ⟨by rfl, ?_⟩) hHeld ?_ ?_
          rotate_left
          ·rintro w' ⟨s0, s1, s2, s3, s4, s5, s6, s7, s8, s9, s10, s11, s12, s13, s14⟩
           go_simp
           with_reducible rfl
          rotate_left
          ·simp only [Act.put, sl1, sl2, sl3, i64_w, i32_w]
           rfl
          refine take_ (i := 21) (N := some 50) (v := ?_) (a' := ?_) #[true, true, true, true, true, true, true, true, true, true, true, true, true, true, true, true, true, true, true, true, true, true, false, false, false] rfl rfl (take_ofW HT_.out HW_.out (by kernel_rfl)) (fun _ _ _ h => h) (Or.inl ⟨by rfl, ?_⟩) hHeld ?_ ?_
          rotate_left
          ·rintro w' ⟨s0, s1, s2, s3, s4, s5, s6, s7, s8, s9, s10, s11, s12, s13, s14⟩
           go_simp
           with_reducible rfl
          rotate_left
          ·simp only [Act.put, sl1, sl2, sl3, i64_w, i32_w]
           rfl
          refine pure_ (i := 22) (N := some 51) (v := ?_) (a' := ?_) #[true, true, true, true, true, true, true, true, true, true, true, true, true, true, true, true, true, true, true, true, true, true, true, false, false] rfl rfl (any_of HT_.out (by kernel_rfl)) (fun _ _ _ h => h) (Or.inl ⟨by rfl, ?_⟩) ?_ ?_
          rotate_left
          ·intro w'
           go_simp
           with_reducible rfl
          rotate_left
          ·simp only [Act.put, sl1, sl2, sl3, i64_w, i32_w]
           rfl
          refine one_ (i := 23) (N := some 6) #[true, true, true, true, true, true, true, true, true, true, true, true, true, true, true, true, true, true, true, true, true, true, true, true, false] rfl rfl (one_of HT_.out (by kernel_rfl)) (by decide) (fun K hK => ?_)
          refine box_step ?hg (N := 6) ?hd (cs := #[.int .i64 0, .string (⟨#[]⟩ : ByteArray), .int .i64 0, .string (⟨#[]⟩ : ByteArray), .string (⟨#[]⟩ : ByteArray)]) (t := 23) ?hr ?_; (case hd => rfl); (case hg => rfl); (case hr => first | (go_simp; done) | (go_simp; rfl))
          intro gb176 hg w23 hbox hb
          have HS0_ := (hb.cell (World.block_lt_of_cell? _ _ (hHeld.1))).trans (hHeld.1)
          have HS1_ := (hb.cell (World.block_lt_of_cell? _ _ (hHeld.2.1))).trans (hHeld.2.1)
          have HS2_ := (hb.cell (World.block_lt_of_cell? _ _ (hHeld.2.2.1))).trans (hHeld.2.2.1)
          have HS3_ := (hb.cell (World.block_lt_of_cell? _ _ (hHeld.2.2.2.1))).trans (hHeld.2.2.2.1)
          have HS4_ := (hb.cell (World.block_lt_of_cell? _ _ (hHeld.2.2.2.2.1))).trans (hHeld.2.2.2.2.1)
          have HS5_ := (hb.cell (World.block_lt_of_cell? _ _ (hHeld.2.2.2.2.2.1))).trans (hHeld.2.2.2.2.2.1)
          have HS6_ := (hb.cell (World.block_lt_of_cell? _ _ (hHeld.2.2.2.2.2.2.1))).trans (hHeld.2.2.2.2.2.2.1)
          have HS7_ := (hb.cell (World.block_lt_of_cell? _ _ (hHeld.2.2.2.2.2.2.2.1))).trans (hHeld.2.2.2.2.2.2.2.1)
          have HS8_ := (hb.cell (World.block_lt_of_cell? _ _ (hHeld.2.2.2.2.2.2.2.2.1))).trans (hHeld.2.2.2.2.2.2.2.2.1)
          have HS9_ := (hb.cell (World.block_lt_of_cell? _ _ (hHeld.2.2.2.2.2.2.2.2.2.1))).trans (hHeld.2.2.2.2.2.2.2.2.2.1)
          have HS10_ := (hb.cell (World.block_lt_of_cell? _ _ (hHeld.2.2.2.2.2.2.2.2.2.2.1))).trans (hHeld.2.2.2.2.2.2.2.2.2.2.1)
          have HS11_ := (hb.cell (World.block_lt_of_cell? _ _ (hHeld.2.2.2.2.2.2.2.2.2.2.2.1))).trans (hHeld.2.2.2.2.2.2.2.2.2.2.2.1)
          have HS12_ := (hb.cell (World.block_lt_of_cell? _ _ (hHeld.2.2.2.2.2.2.2.2.2.2.2.2.1))).trans (hHeld.2.2.2.2.2.2.2.2.2.2.2.2.1)
          have HS13_ := (hb.cell (World.block_lt_of_cell? _ _ (hHeld.2.2.2.2.2.2.2.2.2.2.2.2.2.1))).trans (hHeld.2.2.2.2.2.2.2.2.2.2.2.2.2.1)
          have HS14_ := (hb.cell (World.block_lt_of_cell? _ _ (hHeld.2.2.2.2.2.2.2.2.2.2.2.2.2.2))).trans (hHeld.2.2.2.2.2.2.2.2.2.2.2.2.2.2)
          have n0_ := Aside0.mk (Kd.R_below (by (with_reducible repeat (first | apply Kd.R_alloc | apply Kd.R_drewN | apply Kd.R_drew)); exact HO_4.out) hb)
          have n1_ := Aside0.mk (nb BK164.out hb)
          have n2_ := Aside0.mk (below_step bw hb)
          have n3_ := Aside0.mk (hbox)
          have n4_ := Aside0.mk ((g1 hg bw : w.heap.size ≤ gb176))
          have n5_ := Aside0.mk ((g1 hg bw : w.heap.size ≤ gb176))
          have n6_ := Aside0.mk ((n1 hg BK164.out : gb164 ≠ gb176))
          have n7_ := Aside0.mk ((n2 hg BK164.out : gb176 ≠ gb164))
          clear HO_4
          clear BK164
          clear HB
          have HO_4 := n0_
          have BK164 := n1_
          have HB := n2_
          have BK176 := n3_
          have GW176 := n4_
          have GE176 := n5_
          have NB164_176 := n6_
          have NB176_164 := n7_
          clear n0_ n1_ n2_ n3_ n4_ n5_ n6_ n7_
          clear hb hbox hg
          refine hK.out _ _ ⟨HS0_, HS1_, HS2_, HS3_, HS4_, HS5_, HS6_, HS7_, HS8_, HS9_, HS10_, HS11_, HS12_, HS13_, HS14_⟩ (fun hHeld => ?_)
          clear hK K
          refine norm_ (a' := ?_) ?_ ?_
          rotate_left
          ·show Act.put _ (some 6) _ = _
           simp only [Act.put, sl1, sl2, sl3, i64_w, i32_w]
           rfl
          refine one_ (i := 24) (N := none) #[true, true, true, true, true, true, true, true, true, true, true, true, true, true, true, true, true, true, true, true, true, true, true, true, true] rfl rfl (one_of HT_.out (by kernel_rfl)) (by decide) (fun K hK => ?_)
          have hs24 : w23.cell? ⟨gb176, 0, none⟩ = some (.int .i64 0) := (blk_cell BK176.out 0).trans rfl
          have hfs24 := blk_frozen BK176.out 0
          have hns24_0 := NB164_176.out
          have hms24_0 := NB176_164.out
          have hs25 : w23.cell? ⟨gb176, 1, none⟩ = some (.string (⟨#[]⟩ : ByteArray)) := (blk_cell BK176.out 1).trans rfl
          have hfs25 := blk_frozen BK176.out 1
          have hns25_0 := NB164_176.out
          have hms25_0 := NB176_164.out
          have hs26 : w23.cell? ⟨gb176, 2, none⟩ = some (.int .i64 0) := (blk_cell BK176.out 2).trans rfl
          have hfs26 := blk_frozen BK176.out 2
          have hns26_0 := NB164_176.out
          have hms26_0 := NB176_164.out
          have hs27 : w23.cell? ⟨gb176, 3, none⟩ = some (.string (⟨#[]⟩ : ByteArray)) := (blk_cell BK176.out 3).trans rfl
          have hfs27 := blk_frozen BK176.out 3
          have hns27_0 := NB164_176.out
          have hms27_0 := NB176_164.out
          have hs28 : w23.cell? ⟨gb176, 4, none⟩ = some (.string (⟨#[]⟩ : ByteArray)) := (blk_cell BK176.out 4).trans rfl
          have hfs28 := blk_frozen BK176.out 4
          have hns28_0 := NB164_176.out
          have hms28_0 := NB176_164.out
          refine skip_ (w1 := ?_) (by rfl) rfl ?_ ?_
          rotate_left
          ·go_simp
           rfl
          refine hK.out _ _ ⟨((cf (p := ⟨gb176, _, none⟩) (Kd.own_blk (Kd.R_ne HO_4.out BK176.out (by decide)))).trans (((cf (p := ⟨gb176, _, none⟩) (Kd.own_blk (Kd.R_ne HO_4.out BK176.out (by decide)))).trans (((cf (p := ⟨gb176, _, none⟩) (Kd.own_blk (Kd.R_ne HO_4.out BK176.out (by decide)))).trans (((cf (p := ⟨gb176, _, none⟩) (Kd.own_blk (Kd.R_ne HO_4.out BK176.out (by decide)))).trans (((cf (p := ⟨gb176, _, none⟩) (Kd.own_blk (Kd.R_ne HO_4.out BK176.out (by decide)))).trans (hHeld.1)))))))))), ((cf (p := ⟨gb176, _, none⟩) (Kd.own_blk (Kd.R_ne HO_4.out BK176.out (by decide)))).trans (((cf (p := ⟨gb176, _, none⟩) (Kd.own_blk (Kd.R_ne HO_4.out BK176.out (by decide)))).trans (((cf (p := ⟨gb176, _, none⟩) (Kd.own_blk (Kd.R_ne HO_4.out BK176.out (by decide)))).trans (((cf (p := ⟨gb176, _, none⟩) (Kd.own_blk (Kd.R_ne HO_4.out BK176.out (by decide)))).trans (((cf (p := ⟨gb176, _, none⟩) (Kd.own_blk (Kd.R_ne HO_4.out BK176.out (by decide)))).trans (hHeld.2.1)))))))))), ((cf (p := ⟨gb176, _, none⟩) (Kd.own_blk (Kd.R_ne HO_4.out BK176.out (by decide)))).trans (((cf (p := ⟨gb176, _, none⟩) (Kd.own_blk (Kd.R_ne HO_4.out BK176.out (by decide)))).trans (((cf (p := ⟨gb176, _, none⟩) (Kd.own_blk (Kd.R_ne HO_4.out BK176.out (by decide)))).trans (((cf (p := ⟨gb176, _, none⟩) (Kd.own_blk (Kd.R_ne HO_4.out BK176.out (by decide)))).trans (((cf (p := ⟨gb176, _, none⟩) (Kd.own_blk (Kd.R_ne HO_4.out BK176.out (by decide)))).trans (hHeld.2.2.1)))))))))), ((cf (p := ⟨gb176, _, none⟩) (Kd.own_blk (Kd.R_ne HO_4.out BK176.out (by decide)))).trans (((cf (p := ⟨gb176, _, none⟩) (Kd.own_blk (Kd.R_ne HO_4.out BK176.out (by decide)))).trans (((cf (p := ⟨gb176, _, none⟩) (Kd.own_blk (Kd.R_ne HO_4.out BK176.out (by decide)))).trans (((cf (p := ⟨gb176, _, none⟩) (Kd.own_blk (Kd.R_ne HO_4.out BK176.out (by decide)))).trans (((cf (p := ⟨gb176, _, none⟩) (Kd.own_blk (Kd.R_ne HO_4.out BK176.out (by decide)))).trans (hHeld.2.2.2.1)))))))))), ((cf (p := ⟨gb176, _, none⟩) (Kd.own_blk (Kd.R_ne HO_4.out BK176.out (by decide)))).trans (((cf (p := ⟨gb176, _, none⟩) (Kd.own_blk (Kd.R_ne HO_4.out BK176.out (by decide)))).trans (((cf (p := ⟨gb176, _, none⟩) (Kd.own_blk (Kd.R_ne HO_4.out BK176.out (by decide)))).trans (((cf (p := ⟨gb176, _, none⟩) (Kd.own_blk (Kd.R_ne HO_4.out BK176.out (by decide)))).trans (((cf (p := ⟨gb176, _, none⟩) (Kd.own_blk (Kd.R_ne HO_4.out BK176.out (by decide)))).trans (hHeld.2.2.2.2.1)))))))))), ((cf (p := ⟨gb176, _, none⟩) (Kd.own_blk (Kd.R_ne HO_4.out BK176.out (by decide)))).trans (((cf (p := ⟨gb176, _, none⟩) (Kd.own_blk (Kd.R_ne HO_4.out BK176.out (by decide)))).trans (((cf (p := ⟨gb176, _, none⟩) (Kd.own_blk (Kd.R_ne HO_4.out BK176.out (by decide)))).trans (((cf (p := ⟨gb176, _, none⟩) (Kd.own_blk (Kd.R_ne HO_4.out BK176.out (by decide)))).trans (((cf (p := ⟨gb176, _, none⟩) (Kd.own_blk (Kd.R_ne HO_4.out BK176.out (by decide)))).trans (hHeld.2.2.2.2.2.1)))))))))), ((cf (p := ⟨gb176, _, none⟩) (Kd.own_blk (Kd.R_ne HO_4.out BK176.out (by decide)))).trans (((cf (p := ⟨gb176, _, none⟩) (Kd.own_blk (Kd.R_ne HO_4.out BK176.out (by decide)))).trans (((cf (p := ⟨gb176, _, none⟩) (Kd.own_blk (Kd.R_ne HO_4.out BK176.out (by decide)))).trans (((cf (p := ⟨gb176, _, none⟩) (Kd.own_blk (Kd.R_ne HO_4.out BK176.out (by decide)))).trans (((cf (p := ⟨gb176, _, none⟩) (Kd.own_blk (Kd.R_ne HO_4.out BK176.out (by decide)))).trans (hHeld.2.2.2.2.2.2.1)))))))))), ((cf (p := ⟨gb176, _, none⟩) (Kd.own_blk (Kd.R_ne HO_4.out BK176.out (by decide)))).trans (((cf (p := ⟨gb176, _, none⟩) (Kd.own_blk (Kd.R_ne HO_4.out BK176.out (by decide)))).trans (((cf (p := ⟨gb176, _, none⟩) (Kd.own_blk (Kd.R_ne HO_4.out BK176.out (by decide)))).trans (((cf (p := ⟨gb176, _, none⟩) (Kd.own_blk (Kd.R_ne HO_4.out BK176.out (by decide)))).trans (((cf (p := ⟨gb176, _, none⟩) (Kd.own_blk (Kd.R_ne HO_4.out BK176.out (by decide)))).trans (hHeld.2.2.2.2.2.2.2.1)))))))))), ((cf (p := ⟨gb176, _, none⟩) (Kd.own_blk (Kd.R_ne HO_4.out BK176.out (by decide)))).trans (((cf (p := ⟨gb176, _, none⟩) (Kd.own_blk (Kd.R_ne HO_4.out BK176.out (by decide)))).trans (((cf (p := ⟨gb176, _, none⟩) (Kd.own_blk (Kd.R_ne HO_4.out BK176.out (by decide)))).trans (((cf (p := ⟨gb176, _, none⟩) (Kd.own_blk (Kd.R_ne HO_4.out BK176.out (by decide)))).trans (((cf (p := ⟨gb176, _, none⟩) (Kd.own_blk (Kd.R_ne HO_4.out BK176.out (by decide)))).trans (hHeld.2.2.2.2.2.2.2.2.1)))))))))), ((cf (p := ⟨gb176, _, none⟩) (Kd.own_blk (Kd.R_ne HO_4.out BK176.out (by decide)))).trans (((cf (p := ⟨gb176, _, none⟩) (Kd.own_blk (Kd.R_ne HO_4.out BK176.out (by decide)))).trans (((cf (p := ⟨gb176, _, none⟩) (Kd.own_blk (Kd.R_ne HO_4.out BK176.out (by decide)))).trans (((cf (p := ⟨gb176, _, none⟩) (Kd.own_blk (Kd.R_ne HO_4.out BK176.out (by decide)))).trans (((cf (p := ⟨gb176, _, none⟩) (Kd.own_blk (Kd.R_ne HO_4.out BK176.out (by decide)))).trans (hHeld.2.2.2.2.2.2.2.2.2.1)))))))))), ((cf (p := ⟨gb176, _, none⟩) (Kd.own_blk (Kd.R_ne HO_4.out BK176.out (by decide)))).trans (((cf (p := ⟨gb176, _, none⟩) (Kd.own_blk (Kd.R_ne HO_4.out BK176.out (by decide)))).trans (((cf (p := ⟨gb176, _, none⟩) (Kd.own_blk (Kd.R_ne HO_4.out BK176.out (by decide)))).trans (((cf (p := ⟨gb176, _, none⟩) (Kd.own_blk (Kd.R_ne HO_4.out BK176.out (by decide)))).trans (((cf (p := ⟨gb176, _, none⟩) (Kd.own_blk (Kd.R_ne HO_4.out BK176.out (by decide)))).trans (hHeld.2.2.2.2.2.2.2.2.2.2.1)))))))))), ((cf (p := ⟨gb176, _, none⟩) (Kd.own_blk (Kd.R_ne HO_4.out BK176.out (by decide)))).trans (((cf (p := ⟨gb176, _, none⟩) (Kd.own_blk (Kd.R_ne HO_4.out BK176.out (by decide)))).trans (((cf (p := ⟨gb176, _, none⟩) (Kd.own_blk (Kd.R_ne HO_4.out BK176.out (by decide)))).trans (((cf (p := ⟨gb176, _, none⟩) (Kd.own_blk (Kd.R_ne HO_4.out BK176.out (by decide)))).trans (((cf (p := ⟨gb176, _, none⟩) (Kd.own_blk (Kd.R_ne HO_4.out BK176.out (by decide)))).trans (hHeld.2.2.2.2.2.2.2.2.2.2.2.1)))))))))), ((cf (p := ⟨gb176, _, none⟩) (Kd.own_blk (Kd.R_ne HO_4.out BK176.out (by decide)))).trans (((cf (p := ⟨gb176, _, none⟩) (Kd.own_blk (Kd.R_ne HO_4.out BK176.out (by decide)))).trans (((cf (p := ⟨gb176, _, none⟩) (Kd.own_blk (Kd.R_ne HO_4.out BK176.out (by decide)))).trans (((cf (p := ⟨gb176, _, none⟩) (Kd.own_blk (Kd.R_ne HO_4.out BK176.out (by decide)))).trans (((cf (p := ⟨gb176, _, none⟩) (Kd.own_blk (Kd.R_ne HO_4.out BK176.out (by decide)))).trans (hHeld.2.2.2.2.2.2.2.2.2.2.2.2.1)))))))))), ((cf (p := ⟨gb176, _, none⟩) (Kd.own_blk (Kd.R_ne HO_4.out BK176.out (by decide)))).trans (((cf (p := ⟨gb176, _, none⟩) (Kd.own_blk (Kd.R_ne HO_4.out BK176.out (by decide)))).trans (((cf (p := ⟨gb176, _, none⟩) (Kd.own_blk (Kd.R_ne HO_4.out BK176.out (by decide)))).trans (((cf (p := ⟨gb176, _, none⟩) (Kd.own_blk (Kd.R_ne HO_4.out BK176.out (by decide)))).trans (((cf (p := ⟨gb176, _, none⟩) (Kd.own_blk (Kd.R_ne HO_4.out BK176.out (by decide)))).trans (hHeld.2.2.2.2.2.2.2.2.2.2.2.2.2.1)))))))))), ((cf (p := ⟨gb176, _, none⟩) (Kd.own_blk (Kd.R_ne HO_4.out BK176.out (by decide)))).trans (((cf (p := ⟨gb176, _, none⟩) (Kd.own_blk (Kd.R_ne HO_4.out BK176.out (by decide)))).trans (((cf (p := ⟨gb176, _, none⟩) (Kd.own_blk (Kd.R_ne HO_4.out BK176.out (by decide)))).trans (((cf (p := ⟨gb176, _, none⟩) (Kd.own_blk (Kd.R_ne HO_4.out BK176.out (by decide)))).trans (((cf (p := ⟨gb176, _, none⟩) (Kd.own_blk (Kd.R_ne HO_4.out BK176.out (by decide)))).trans (hHeld.2.2.2.2.2.2.2.2.2.2.2.2.2.2))))))))))⟩ (fun hHeld => ?_)
          clear hK K
          refine done_ (done_of HT_.out (by kernel_rfl)) ?_
          have hnb29 := NB176_164.out
          have hnc29 := NB164_176.out
          have hcz30_0 := bc5_0 BK176.out
          have hcz30_1 := bc5_1 BK176.out
          have hcz30_2 := bc5_2 BK176.out
          have hcz30_3 := bc5_3 BK176.out
          have hcz30_4 := bc5_4 BK176.out
          have hfz30_0 := blk_frozen BK176.out 0
          have hfz30_1 := blk_frozen BK176.out 1
          have hfz30_2 := blk_frozen BK176.out 2
          have hfz30_3 := blk_frozen BK176.out 3
          have hfz30_4 := blk_frozen BK176.out 4
          try go_wp2_with (first | ((with_reducible refine gate_callee (f := 12) rfl ?_); refine goesL_ (some 53) rfl rfl Tryd.func12 (by kernel_rfl) rfl #[.agg #[.int .i64 (wrap64 ((rd_T60 t165 0).f1)), .string ((rd_T60 t165 1).f2), .int .i64 (wrap64 ((rd_T60 t165 2).f1)), .string ((rd_T60 t165 3).f2), .string ((rd_T60 t165 4).f2)]] rfl am ?_; (with_reducible refine (segment_Right.calls (wrap64 ((rd_T60 t165 0).f1)) ((rd_T60 t165 1).f2) (wrap64 ((rd_T60 t165 2).f1)) ((rd_T60 t165 3).f2) ((rd_T60 t165 4).f2) true _ A19.out).mono ?_); rintro e w31 ⟨rfl, hb⟩; refine ⟨_, rfl, ?_⟩; have n0_ := Aside0.mk (Kd.R_below (by (with_reducible repeat (first | apply Kd.R_alloc | apply Kd.R_drewN | apply Kd.R_drew)); exact (Kd.R_mono (Kd.R_far (p := ⟨gb176, 4, none⟩) (Kd.R_far (p := ⟨gb176, 3, none⟩) (Kd.R_far (p := ⟨gb176, 2, none⟩) (Kd.R_far (p := ⟨gb176, 1, none⟩) (Kd.R_far (p := ⟨gb176, 0, none⟩) (Kd.R_types HO_4.out BK176.out (by decide)) (fun _ hk => hk.2) (.int .i64 (wrap64 ((rd_T60 t165 0).f1)))) (fun _ hk => hk.2) (.string ((rd_T60 t165 1).f2))) (fun _ hk => hk.2) (.int .i64 (wrap64 ((rd_T60 t165 2).f1)))) (fun _ hk => hk.2) (.string ((rd_T60 t165 3).f2))) (fun _ hk => hk.2) (.string ((rd_T60 t165 4).f2))) (fun _ h_ => h_.1))) hb); have n1_ := Aside0.mk (blk_below (g := gb164) (o := .cells #[.int .i64 0, .string (⟨#[]⟩ : ByteArray), .int .i64 0, .string (⟨#[]⟩ : ByteArray), .string (⟨#[]⟩ : ByteArray)] 23 (0, 0)) (by (with_reducible repeat (first | refine blk_drewN ?_ _ | refine blk_drew ?_ | refine blk_alloc ?_ _ | refine blk_far ?_ NB164_176.out _)); exact BK164.out) hb); have n2_ := Aside0.mk (blk_below (g := gb176) (o := .cells #[.int .i64 (wrap64 ((rd_T60 t165 0).f1)), .string ((rd_T60 t165 1).f2), .int .i64 (wrap64 ((rd_T60 t165 2).f1)), .string ((rd_T60 t165 3).f2), .string ((rd_T60 t165 4).f2)] 23 (0, 0)) (by (with_reducible repeat (first | refine blk_drewN ?_ _ | refine blk_drew ?_ | refine blk_alloc ?_ _)); refine blk_put (cs := #[.int .i64 (wrap64 ((rd_T60 t165 0).f1)), .string ((rd_T60 t165 1).f2), .int .i64 (wrap64 ((rd_T60 t165 2).f1)), .string ((rd_T60 t165 3).f2), .string (⟨#[]⟩ : ByteArray)]) ?_ 4 _ rfl; (with_reducible repeat (first | refine blk_drewN ?_ _ | refine blk_drew ?_ | refine blk_alloc ?_ _)); refine blk_put (cs := #[.int .i64 (wrap64 ((rd_T60 t165 0).f1)), .string ((rd_T60 t165 1).f2), .int .i64 (wrap64 ((rd_T60 t165 2).f1)), .string (⟨#[]⟩ : ByteArray), .string (⟨#[]⟩ : ByteArray)]) ?_ 3 _ rfl; (with_reducible repeat (first | refine blk_drewN ?_ _ | refine blk_drew ?_ | refine blk_alloc ?_ _)); refine blk_put (cs := #[.int .i64 (wrap64 ((rd_T60 t165 0).f1)), .string ((rd_T60 t165 1).f2), .int .i64 0, .string (⟨#[]⟩ : ByteArray), .string (⟨#[]⟩ : ByteArray)]) ?_ 2 _ rfl; (with_reducible repeat (first | refine blk_drewN ?_ _ | refine blk_drew ?_ | refine blk_alloc ?_ _)); refine blk_put (cs := #[.int .i64 (wrap64 ((rd_T60 t165 0).f1)), .string (⟨#[]⟩ : ByteArray), .int .i64 0, .string (⟨#[]⟩ : ByteArray), .string (⟨#[]⟩ : ByteArray)]) ?_ 1 _ rfl; (with_reducible repeat (first | refine blk_drewN ?_ _ | refine blk_drew ?_ | refine blk_alloc ?_ _)); refine blk_put (cs := #[.int .i64 0, .string (⟨#[]⟩ : ByteArray), .int .i64 0, .string (⟨#[]⟩ : ByteArray), .string (⟨#[]⟩ : ByteArray)]) ?_ 0 _ rfl; (with_reducible repeat (first | refine blk_drewN ?_ _ | refine blk_drew ?_ | refine blk_alloc ?_ _)); exact BK176.out) hb); have n3_ := Aside0.mk (below_step bw hb); clear HO_4; clear BK164; clear BK176; clear HB; have HO_4 := n0_; have BK164 := n1_; have BK176 := n2_; have HB := n3_; clear n0_ n1_ n2_ n3_; (try clear hb); (try clear hb2); (try clear hk); (try clear hi); have hcz32_0 := bc5_0 BK176.out; have hcz32_1 := bc5_1 BK176.out; have hcz32_2 := bc5_2 BK176.out; have hcz32_3 := bc5_3 BK176.out; have hcz32_4 := bc5_4 BK176.out; have hfz32_0 := blk_frozen BK176.out 0; have hfz32_1 := blk_frozen BK176.out 1; have hfz32_2 := blk_frozen BK176.out 2; have hfz32_3 := blk_frozen BK176.out 3; have hfz32_4 := blk_frozen BK176.out 4; have hcz33_0 := bc5_0 BK164.out; have hcz33_1 := bc5_1 BK164.out; have hcz33_2 := bc5_2 BK164.out; have hcz33_3 := bc5_3 BK164.out; have hcz33_4 := bc5_4 BK164.out; have hfz33_0 := blk_frozen BK164.out 0; have hfz33_1 := blk_frozen BK164.out 1; have hfz33_2 := blk_frozen BK164.out 2; have hfz33_3 := blk_frozen BK164.out 3; have hfz33_4 := blk_frozen BK164.out 4))
          refine bodyPost_ret (results_ct rfl _ _ gb164 23 #[.int .i64 (wrap64 ((rd_T60 t165 0).f1)), .string ((rd_T60 t165 1).f2), .int .i64 (wrap64 ((rd_T60 t165 2).f1)), .string ((rd_T60 t165 3).f2), .string ((rd_T60 t165 4).f2)] (0, 0) _ rfl (by (with_reducible repeat (first | refine blk_drewN ?_ _ | refine blk_drew ?_ | refine blk_alloc ?_ _)); refine blk_put (cs := #[.int .i64 (wrap64 ((rd_T60 t165 0).f1)), .string ((rd_T60 t165 1).f2), .int .i64 (wrap64 ((rd_T60 t165 2).f1)), .string ((rd_T60 t165 3).f2), .string (⟨#[]⟩ : ByteArray)]) ?_ 4 _ rfl; (with_reducible repeat (first | refine blk_drewN ?_ _ | refine blk_drew ?_ | refine blk_alloc ?_ _)); refine blk_put (cs := #[.int .i64 (wrap64 ((rd_T60 t165 0).f1)), .string ((rd_T60 t165 1).f2), .int .i64 (wrap64 ((rd_T60 t165 2).f1)), .string (⟨#[]⟩ : ByteArray), .string (⟨#[]⟩ : ByteArray)]) ?_ 3 _ rfl; (with_reducible repeat (first | refine blk_drewN ?_ _ | refine blk_drew ?_ | refine blk_alloc ?_ _)); refine blk_put (cs := #[.int .i64 (wrap64 ((rd_T60 t165 0).f1)), .string ((rd_T60 t165 1).f2), .int .i64 0, .string (⟨#[]⟩ : ByteArray), .string (⟨#[]⟩ : ByteArray)]) ?_ 2 _ rfl; (with_reducible repeat (first | refine blk_drewN ?_ _ | refine blk_drew ?_ | refine blk_alloc ?_ _)); refine blk_put (cs := #[.int .i64 (wrap64 ((rd_T60 t165 0).f1)), .string (⟨#[]⟩ : ByteArray), .int .i64 0, .string (⟨#[]⟩ : ByteArray), .string (⟨#[]⟩ : ByteArray)]) ?_ 1 _ rfl; (with_reducible repeat (first | refine blk_drewN ?_ _ | refine blk_drew ?_ | refine blk_alloc ?_ _)); refine blk_put (cs := #[.int .i64 0, .string (⟨#[]⟩ : ByteArray), .int .i64 0, .string (⟨#[]⟩ : ByteArray), .string (⟨#[]⟩ : ByteArray)]) ?_ 0 _ rfl; (with_reducible repeat (first | refine blk_drewN ?_ _ | refine blk_drew ?_ | refine blk_alloc ?_ _)); exact BK164.out) Tryd.underlying23 rfl (by kernel_rfl)) rfl ?_
          exact ⟨er, bw⟩
         ·replace c20 := Bool.eq_false_iff.mpr c20
          subst c20
          have H1 : (some (0, (⟨#[]⟩ : ByteArray), 0, (⟨#[]⟩ : ByteArray), (⟨#[]⟩ : ByteArray), 10)) = some (r1, r2, r3, r4, r5, r6) := by rw [if_neg (show ¬ (false = true) by decide)] at H; exact H
          clear H
          have H := H1
          clear H1
          simp only [Option.some.injEq, Prod.mk.injEq] at H
          obtain ⟨rfl, rfl, rfl, rfl, rfl, rfl⟩ := H
          try go_wp2
          have n0_ := Aside0.mk (Kd.R_drew HO_4.out)
          have n1_ := Aside0.mk (blk_drew BK164.out)
          have n2_ := Aside0.mk (below_drew1 HB.out)
          clear HO_4
          clear BK164
          clear HB
          have HO_4 := n0_
          have BK164 := n1_
          have HB := n2_
          clear n0_ n1_ n2_
          obtain ⟨Ao35, co35, eo35⟩ := Kd.R_slice HO_4.out
          (first | subst eo35 | (injection eo35 with f1_ f2_ f3_; have f4_ := f1_.symm; have f5_ := f3_.symm; clear f1_ f2_ f3_; subst f4_; subst f5_))
          have p171 : 0 ≤ (0 : Int) := (by omega)
          have q171 : 0 < (t165.length : Int) := of_decide_eq_true (by first | (with_reducible assumption) | assumption)
          obtain ⟨ad171, e171, hx171_0, hx171_1, hx171_2⟩ := at_T60 (Kd.R_reads' HO_4.out).2.2 0 p171 q171
          cases e171
          have qi171 : (0 < t165.length) = True := eq_true (by omega)
          (try rw [show ((0 : Int)).toNat = 0 from rfl] at hx171_0)
          (try rw [show 0 * 3 = 0 from rfl] at hx171_0)
          (try rw [Addr.add_zero'] at hx171_0)
          (try rw [show ((0 : Int)).toNat = 0 from rfl] at hx171_1)
          (try rw [show 0 * 3 = 0 from rfl] at hx171_1)
          (try rw [Addr.add_zero'] at hx171_1)
          (try rw [show ((0 : Int)).toNat = 0 from rfl] at hx171_2)
          (try rw [show 0 * 3 = 0 from rfl] at hx171_2)
          (try rw [Addr.add_zero'] at hx171_2)
          replace p171 := eq_true p171
          replace q171 := eq_true q171
          have p172 : 0 ≤ (1 : Int) := (by omega)
          have q172 : 1 < (t165.length : Int) := of_decide_eq_true (by first | (with_reducible assumption) | assumption)
          obtain ⟨ad172, e172, hx172_0, hx172_1, hx172_2⟩ := at_T60 (Kd.R_reads' HO_4.out).2.2 1 p172 q172
          obtain rfl : ad171 = ad172 := (by injection e172)
          (try simp only [show (1 : Int).toNat = 1 from rfl, Nat.reduceMul, Nat.reduceEqDiff, Go.Addr.add, ↓reduceIte] at hx172_0)
          (try simp only [show (1 : Int).toNat = 1 from rfl, Nat.reduceMul, Nat.reduceEqDiff, Go.Addr.add, ↓reduceIte] at hx172_1)
          (try simp only [show (1 : Int).toNat = 1 from rfl, Nat.reduceMul, Nat.reduceEqDiff, Go.Addr.add, ↓reduceIte] at hx172_2)
          have qi172 : (1 < t165.length) = True := eq_true (by omega)
          (try rw [show ((1 : Int)).toNat = 1 from rfl] at hx172_0)
          (try rw [show 1 * 3 = 3 from rfl] at hx172_0)
          (try rw [show ((1 : Int)).toNat = 1 from rfl] at hx172_1)
          (try rw [show 1 * 3 = 3 from rfl] at hx172_1)
          (try rw [show ((1 : Int)).toNat = 1 from rfl] at hx172_2)
          (try rw [show 1 * 3 = 3 from rfl] at hx172_2)
          replace p172 := eq_true p172
          replace q172 := eq_true q172
          have p173 : 0 ≤ (2 : Int) := (by omega)
          have q173 : 2 < (t165.length : Int) := of_decide_eq_true (by first | (with_reducible assumption) | assumption)
          obtain ⟨ad173, e173, hx173_0, hx173_1, hx173_2⟩ := at_T60 (Kd.R_reads' HO_4.out).2.2 2 p173 q173
          obtain rfl : ad171 = ad173 := (by injection e173)
          (try simp only [show (2 : Int).toNat = 2 from rfl, Nat.reduceMul, Nat.reduceEqDiff, Go.Addr.add, ↓reduceIte] at hx173_0)
          (try simp only [show (2 : Int).toNat = 2 from rfl, Nat.reduceMul, Nat.reduceEqDiff, Go.Addr.add, ↓reduceIte] at hx173_1)
          (try simp only [show (2 : Int).toNat = 2 from rfl, Nat.reduceMul, Nat.reduceEqDiff, Go.Addr.add, ↓reduceIte] at hx173_2)
          have qi173 : (2 < t165.length) = True := eq_true (by omega)
          (try rw [show ((2 : Int)).toNat = 2 from rfl] at hx173_0)
          (try rw [show 2 * 3 = 6 from rfl] at hx173_0)
          (try rw [show ((2 : Int)).toNat = 2 from rfl] at hx173_1)
          (try rw [show 2 * 3 = 6 from rfl] at hx173_1)
          (try rw [show ((2 : Int)).toNat = 2 from rfl] at hx173_2)
          (try rw [show 2 * 3 = 6 from rfl] at hx173_2)
          replace p173 := eq_true p173
          replace q173 := eq_true q173
          have p174 : 0 ≤ (3 : Int) := (by omega)
          have q174 : 3 < (t165.length : Int) := of_decide_eq_true (by first | (with_reducible assumption) | assumption)
          obtain ⟨ad174, e174, hx174_0, hx174_1, hx174_2⟩ := at_T60 (Kd.R_reads' HO_4.out).2.2 3 p174 q174
          obtain rfl : ad171 = ad174 := (by injection e174)
          (try simp only [show (3 : Int).toNat = 3 from rfl, Nat.reduceMul, Nat.reduceEqDiff, Go.Addr.add, ↓reduceIte] at hx174_0)
          (try simp only [show (3 : Int).toNat = 3 from rfl, Nat.reduceMul, Nat.reduceEqDiff, Go.Addr.add, ↓reduceIte] at hx174_1)
          (try simp only [show (3 : Int).toNat = 3 from rfl, Nat.reduceMul, Nat.reduceEqDiff, Go.Addr.add, ↓reduceIte] at hx174_2)
          have qi174 : (3 < t165.length) = True := eq_true (by omega)
          (try rw [show ((3 : Int)).toNat = 3 from rfl] at hx174_0)
          (try rw [show 3 * 3 = 9 from rfl] at hx174_0)
          (try rw [show ((3 : Int)).toNat = 3 from rfl] at hx174_1)
          (try rw [show 3 * 3 = 9 from rfl] at hx174_1)
          (try rw [show ((3 : Int)).toNat = 3 from rfl] at hx174_2)
          (try rw [show 3 * 3 = 9 from rfl] at hx174_2)
          replace p174 := eq_true p174
          replace q174 := eq_true q174
          have p175 : 0 ≤ (4 : Int) := (by omega)
          have q175 : 4 < (t165.length : Int) := of_decide_eq_true (by first | (with_reducible assumption) | assumption)
          obtain ⟨ad175, e175, hx175_0, hx175_1, hx175_2⟩ := at_T60 (Kd.R_reads' HO_4.out).2.2 4 p175 q175
          obtain rfl : ad171 = ad175 := (by injection e175)
          (try simp only [show (4 : Int).toNat = 4 from rfl, Nat.reduceMul, Nat.reduceEqDiff, Go.Addr.add, ↓reduceIte] at hx175_0)
          (try simp only [show (4 : Int).toNat = 4 from rfl, Nat.reduceMul, Nat.reduceEqDiff, Go.Addr.add, ↓reduceIte] at hx175_1)
          (try simp only [show (4 : Int).toNat = 4 from rfl, Nat.reduceMul, Nat.reduceEqDiff, Go.Addr.add, ↓reduceIte] at hx175_2)
          have qi175 : (4 < t165.length) = True := eq_true (by omega)
          (try rw [show ((4 : Int)).toNat = 4 from rfl] at hx175_0)
          (try rw [show 4 * 3 = 12 from rfl] at hx175_0)
          (try rw [show ((4 : Int)).toNat = 4 from rfl] at hx175_1)
          (try rw [show 4 * 3 = 12 from rfl] at hx175_1)
          (try rw [show ((4 : Int)).toNat = 4 from rfl] at hx175_2)
          (try rw [show 4 * 3 = 12 from rfl] at hx175_2)
          replace p175 := eq_true p175
          replace q175 := eq_true q175
          refine start_ (n := 25) (S := fun w' => w'.cell? ad171 = some (.int .i64 ((rd_T60 t165 0).f0)) ∧ w'.cell? ⟨ad171.block, ad171.off + 1, none⟩ = some (.int .u64 ((rd_T60 t165 0).f1)) ∧ w'.cell? ⟨ad171.block, ad171.off + 2, none⟩ = some (.string ((rd_T60 t165 0).f2)) ∧ w'.cell? ⟨ad171.block, ad171.off + 3, none⟩ = some (.int .i64 ((rd_T60 t165 1).f0)) ∧ w'.cell? ⟨ad171.block, ad171.off + 3 + 1, none⟩ = some (.int .u64 ((rd_T60 t165 1).f1)) ∧ w'.cell? ⟨ad171.block, ad171.off + 3 + 2, none⟩ = some (.string ((rd_T60 t165 1).f2)) ∧ w'.cell? ⟨ad171.block, ad171.off + 6, none⟩ = some (.int .i64 ((rd_T60 t165 2).f0)) ∧ w'.cell? ⟨ad171.block, ad171.off + 6 + 1, none⟩ = some (.int .u64 ((rd_T60 t165 2).f1)) ∧ w'.cell? ⟨ad171.block, ad171.off + 6 + 2, none⟩ = some (.string ((rd_T60 t165 2).f2)) ∧ w'.cell? ⟨ad171.block, ad171.off + 9, none⟩ = some (.int .i64 ((rd_T60 t165 3).f0)) ∧ w'.cell? ⟨ad171.block, ad171.off + 9 + 1, none⟩ = some (.int .u64 ((rd_T60 t165 3).f1)) ∧ w'.cell? ⟨ad171.block, ad171.off + 9 + 2, none⟩ = some (.string ((rd_T60 t165 3).f2)) ∧ w'.cell? ⟨ad171.block, ad171.off + 12, none⟩ = some (.int .i64 ((rd_T60 t165 4).f0)) ∧ w'.cell? ⟨ad171.block, ad171.off + 12 + 1, none⟩ = some (.int .u64 ((rd_T60 t165 4).f1)) ∧ w'.cell? ⟨ad171.block, ad171.off + 12 + 2, none⟩ = some (.string ((rd_T60 t165 4).f2))) (ds := []) #[false, false, false, false, false, false, false, false, false, false, false, false, false, false, false, false, false, false, false, false, false, false, false, false, false] (by kernel_rfl) rfl rfl ⟨hx171_0, hx171_1, hx171_2, hx172_0, hx172_1, hx172_2, hx173_0, hx173_1, hx173_2, hx174_0, hx174_1, hx174_2, hx175_0, hx175_1, hx175_2⟩ (fun hHeld => ?_); refine with_tabW segment_record.tab4 segment_record.bits4 (fun HT_ HW_ => ?_)
          generalize wc.drew = w34 at HO_4 BK164 HB hx171_0 hx171_1 hx171_2 hx172_0 hx172_1 hx172_2 hx173_0 hx173_1 hx173_2 hx174_0 hx174_1 hx174_2 hx175_0 hx175_1 hx175_2 hHeld ⊢
          refine pure_ (i := 0) (N := some 29) (v := ?_) (a' := ?_) #[true, false, false, false, false, false, false, false, false, false, false, false, false, false, false, false, false, false, false, false, false, false, false, false, false] rfl rfl (any_of HT_.out (by kernel_rfl)) (fun _ _ _ h => h) (Or.inl ⟨by rfl, ?_⟩) ?_ ?_
          rotate_left
          ·intro w'
           go_simp
           with_reducible rfl
          rotate_left
          ·simp only [Act.put, sl1, sl2, sl3, i64_w, i32_w]
           rfl
          refine pure_ (i := 1) (N := some 30) (v := ?_) (a' := ?_) #[true, true, false, false, false, false, false, false, false, false, false, false, false, false, false, false, false, false, false, false, false, false, false, false, false] rfl rfl (any_of HT_.out (by kernel_rfl)) (fun _ _ _ h => h) (Or.inl ⟨by rfl, ?_⟩) ?_ ?_
          rotate_left
          ·intro w'
           go_simp
           with_reducible rfl
          rotate_left
          ·simp only [Act.put, sl1, sl2, sl3, i64_w, i32_w]
           rfl
          refine pure_ (i := 2) (N := some 31) (v := ?_) (a' := ?_) #[true, true, true, false, false, false, false, false, false, false, false, false, false, false, false, false, false, false, false, false, false, false, false, false, false] rfl rfl (any_of HT_.out (by kernel_rfl)) (fun _ _ _ h => h) (Or.inl ⟨by rfl, ?_⟩) ?_ ?_
          rotate_left
          ·intro w'
           go_simp
           with_reducible rfl
          rotate_left
          ·simp only [Act.put, sl1, sl2, sl3, i64_w, i32_w]
           rfl
          refine pure_ (i := 5) (N := some 34) (v := ?_) (a' := ?_) #[true, true, true, false, false, true, false, false, false, false, false, false, false, false, false, false, false, false, false, false, false, false, false, false, false] rfl rfl (any_of HT_.out (by kernel_rfl)) (fun _ _ _ h => h) (Or.inl ⟨by rfl, ?_⟩) ?_ ?_
          rotate_left
          ·intro w'
           go_simp
           with_reducible rfl
          rotate_left
          ·simp only [Act.put, sl1, sl2, sl3, i64_w, i32_w]
           rfl
          refine pure_ (i := 6) (N := some 35) (v := ?_) (a' := ?_) #[true, true, true, false, false, true, true, false, false, false, false, false, false, false, false, false, false, false, false, false, false, false, false, false, false] rfl rfl (any_of HT_.out (by kernel_rfl)) (fun _ _ _ h => h) (Or.inl ⟨by rfl, ?_⟩) ?_ ?_
          rotate_left
          ·intro w'
           go_simp
           with_reducible rfl
          rotate_left
          ·simp only [Act.put, sl1, sl2, sl3, i64_w, i32_w]
           rfl
          refine pure_ (i := 7) (N := some 36) (v := ?_) (a' := ?_) #[true, true, true, false, false, true, true, true, false, false, false, false, false, false, false, false, false, false, false, false, false, false, false, false, false] rfl rfl (any_of HT_.out (by kernel_rfl)) (fun _ _ _ h => h) (Or.inl ⟨by rfl, ?_⟩) ?_ ?_
          rotate_left
          ·intro w'
           go_simp
           with_reducible rfl
          rotate_left
          ·simp only [Act.put, sl1, sl2, sl3, i64_w, i32_w]
           rfl
          refine pure_ (i := 9) (N := some 38) (v := ?_) (a' := ?_) #[true, true, true, false, false, true, true, true, false, true, false, false, false, false, false, false, false, false, false, false, false, false, false, false, false] rfl rfl (any_of HT_.out (by kernel_rfl)) (fun _ _ _ h => h) (Or.inl ⟨by rfl, ?_⟩) ?_ ?_
          rotate_left
          ·intro w'
           go_simp
           with_reducible rfl
          rotate_left
          ·simp only [Act.put, sl1, sl2, sl3, i64_w, i32_w]
           rfl
          refine pure_ (i := 10) (N := some 39) (v := ?_) (a' := ?_) #[true, true, true, false, false, true, true, true, false, true, true, false, false, false, false, false, false, false, false, false, false, false, false, false, false] rfl rfl (any_of HT_.out (by kernel_rfl)) (fun _ _ _ h => h) (Or.inl ⟨by rfl, ?_⟩) ?_ ?_
          rotate_left
          ·intro w'
           go_simp
           with_reducible rfl
          rotate_left
          ·simp only [Act.put, sl1, sl2, sl3, i64_w, i32_w]
           rfl
          refine pure_ (i := 11) (N := some 40) (v := ?_) (a' := ?_) #[true, true, true, false, false, true, true, true, false, true, true, true, false, false, false, false, false, false, false, false, false, false, false, false, false] rfl rfl (any_of HT_.out (by kernel_rfl)) (fun _ _ _ h => h) (Or.inl ⟨by rfl, ?_⟩) ?_ ?_
          rotate_left
          ·intro w'
           go_simp
           with_reducible rfl
          rotate_left
          ·simp only [Act.put, sl1, sl2, sl3, i64_w, i32_w]
           rfl
          refine pure_ (i := 14) (N := some 43) (v := ?_) (a' := ?_) #[true, true, true, false, false, true, true, true, false, true, true, true, false, false, true, false, false, false, false, false, false, false, false, false, false] rfl rfl (any_of HT_.out (by kernel_rfl)) (fun _ _ _ h => h) (Or.inl ⟨by rfl, ?_⟩) ?_ ?_
          rotate_left
          ·intro w'
           go_simp
           with_reducible rfl
          rotate_left
          ·simp only [Act.put, sl1, sl2, sl3, i64_w, i32_w]
           rfl
          refine pure_ (i := 15) (N := some 44) (v := ?_) (a' := ?_) #[true, true, true, false, false, true, true, true, false, true, true, true, false, false, true, true, false, false, false, false, false, false, false, false, false] rfl rfl (any_of HT_.out (by kernel_rfl)) (fun _ _ _ h => h) (Or.inl ⟨by rfl, ?_⟩) ?_ ?_
          rotate_left
          ·intro w'
           go_simp
           with_reducible rfl
          rotate_left
          ·simp only [Act.put, sl1, sl2, sl3, i64_w, i32_w]
           rfl
          refine pure_ (i := 16) (N := some 45) (v := ?_) (a' := ?_) #[true, true, true, false, false, true, true, true, false, true, true, true, false, false, true, true, true, false, false, false, false, false, false, false, false] rfl rfl (any_of HT_.out (by kernel_rfl)) (fun _ _ _ h => h) (Or.inl ⟨by rfl, ?_⟩) ?_ ?_
          rotate_left
          ·intro w'
           go_simp
           with_reducible rfl
          rotate_left
          ·simp only [Act.put, sl1, sl2, sl3, i64_w, i32_w]
           rfl
          refine pure_ (i := 18) (N := some 47) (v := ?_) (a' := ?_) #[true, true, true, false, false, true, true, true, false, true, true, true, false, false, true, true, true, false, true, false, false, false, false, false, false] rfl rfl (any_of HT_.out (by kernel_rfl)) (fun _ _ _ h => h) (Or.inl ⟨by rfl, ?_⟩) ?_ ?_
          rotate_left
          ·intro w'
           go_simp
           with_reducible rfl
          rotate_left
          ·simp only [Act.put, sl1, sl2, sl3, i64_w, i32_w]
           rfl
          refine pure_ (i := 19) (N := some 48) (v := ?_) (a' := ?_) #[true, true, true, false, false, true, true, true, false, true, true, true, false, false, true, true, true, false, true, true, false, false, false, false, false] rfl rfl (any_of HT_.out (by kernel_rfl)) (fun _ _ _ h => h) (Or.inl ⟨by rfl, ?_⟩) ?_ ?_
          rotate_left
          ·intro w'
           go_simp
           with_reducible rfl
          rotate_left
          ·simp only [Act.put, sl1, sl2, sl3, i64_w, i32_w]
           rfl
          refine pure_ (i := 20) (N := some 49) (v := ?_) (a' := ?_) #[true, true, true, false, false, true, true, true, false, true, true, true, false, false, true, true, true, false, true, true, true, false, false, false, false] rfl rfl (any_of HT_.out (by kernel_rfl)) (fun _ _ _ h => h) (Or.inl ⟨by rfl, ?_⟩) ?_ ?_
          rotate_left
          ·intro w'
           go_simp
           with_reducible rfl
          rotate_left
          ·simp only [Act.put, sl1, sl2, sl3, i64_w, i32_w]
           rfl
          refine take_ (i := 3) (N := some 32) (v := ?_) (a' := ?_) #[true, true, true, true, false, true, true, true, false, true, true, true, false, false, true, true, true, false, true, true, true, false, false, false, false] rfl rfl (take_ofW HT_.out HW_.out (by kernel_rfl)) (fun _ _ _ h => h) (Or.inl ⟨by rfl, ?_⟩) hHeld ?_ ?_
          rotate_left
          ·rintro w' ⟨s0, s1, s2, s3, s4, s5, s6, s7, s8, s9, s10, s11, s12, s13, s14⟩
           go_simp
           with_reducible rfl
          rotate_left
          ·simp only [Act.put, sl1, sl2, sl3, i64_w, i32_w]
           rfl
          refine pure_ (i := 4) (N := some 33) (v := ?_) (a' := ?_) #[true, true, true, true, true, true, true, true, false, true, true, true, false, false, true, true, true, false, true, true, true, false, false, false, false] rfl rfl (any_of HT_.out (by kernel_rfl)) (fun _ _ _ h => h) (Or.inl ⟨by rfl, ?_⟩) ?_ ?_
          rotate_left
          ·intro w'
           go_simp
           with_reducible rfl
          rotate_left
          ·simp only [Act.put, sl1, sl2, sl3, i64_w, i32_w]
           rfl
          refine take_ (i := 8) (N := some 37) (v := ?_) (a' := ?_) #[true, true, true, true, true, true, true, true, true, true, true, true, false, false, true, true, true, false, true, true, true, false, false, false, false] rfl rfl (take_ofW HT_.out HW_.out (by kernel_rfl)) (fun _ _ _ h => h) (Or.inl ⟨by rfl, ?_⟩) hHeld ?_ ?_
          rotate_left
          ·rintro w' ⟨s0, s1, s2, s3, s4, s5, s6, s7, s8, s9, s10, s11, s12, s13, s14⟩
           go_simp
           with_reducible rfl
          rotate_left
          ·simp only [Act.put, sl1, sl2, sl3, i64_w, i32_w]
           rfl
          refine take_ (i := 12) (N := some 41) (v := ?_) (a' := ?_) #[true, true, true, true, true, true, true, true, true, true, true, true, true, false, true, true, true, false, true, true, true, false, false, false, false] rfl rfl (take_ofW HT_.out HW_.out (by kernel_rfl)) (fun _ _ _ h => h) (Or.inl ⟨by rfl, ?_⟩) hHeld ?_ ?_
          rotate_left
          ·rintro w' ⟨s0, s1, s2, s3, s4, s5, s6, s7, s8, s9, s10, s11, s12, s13, s14⟩
           go_simp
           with_reducible rfl
          rotate_left
          ·simp only [Act.put, sl1, sl2, sl3, i64_w, i32_w]
           rfl
          refine pure_ (i := 13) (N := some 42) (v := ?_) (a' := ?_) #[true, true, true, true, true, true, true, true, true, true, true, true, true, true, true, true, true, false, true, true, true, false, false, false, false] rfl rfl (any_of HT_.out (by kernel_rfl)) (fun _ _ _ h => h) (Or.inl ⟨by rfl, ?_⟩) ?_ ?_
          rotate_left
          ·intro w'
           go_simp
           with_reducible rfl
          rotate_left
          ·simp only [Act.put, sl1, sl2, sl3, i64_w, i32_w]
           rfl
          refine take_ (i := 17) (N := some 46) (v := ?_) (a' := ?_) #[true, true, true, true, true, true, true, true, true, true, true, true, true, true, true, true, true, true, true, true, true, false, false, false, false] rfl rfl (take_ofW HT_.out HW_.out (by kernel_rfl)) (fun _ _ _ h => h) (Or.inl ⟨by rfl, ?_⟩) hHeld ?_ ?_
          rotate_left
          ·rintro w' ⟨s0, s1, s2, s3, s4, s5, s6, s7, s8, s9, s10, s11, s12, s13, s14⟩
           go_simp
           with_reducible rfl
          rotate_left
          ·simp only [Act.put, sl1, sl2, sl3, i64_w, i32_w]
           rfl
          refine take_ (i := 21) (N := some 50) (v := ?_) (a' := ?_) #[true, true, true, true, true, true, true, true, true, true, true, true, true, true, true, true, true, true, true, true, true, true, false, false, false] rfl rfl (take_ofW HT_.out HW_.out (by kernel_rfl)) (fun _ _ _ h => h) (Or.inl ⟨by rfl, ?_⟩) hHeld ?_ ?_
          rotate_left
          ·rintro w' ⟨s0, s1, s2, s3, s4, s5, s6, s7, s8, s9, s10, s11, s12, s13, s14⟩
           go_simp
           with_reducible rfl
          rotate_left
          ·simp only [Act.put, sl1, sl2, sl3, i64_w, i32_w]
           rfl
          refine pure_ (i := 22) (N := some 51) (v := ?_) (a' := ?_) #[true, true, true, true, true, true, true, true, true, true, true, true, true, true, true, true, true, true, true, true, true, true, true, false, false] rfl rfl (any_of HT_.out (by kernel_rfl)) (fun _ _ _ h => h) (Or.inl ⟨by rfl, ?_⟩) ?_ ?_
          rotate_left
          ·intro w'
           go_simp
           with_reducible rfl
          rotate_left
          ·simp only [Act.put, sl1, sl2, sl3, i64_w, i32_w]
           rfl
          refine one_ (i := 23) (N := some 6) #[true, true, true, true, true, true, true, true, true, true, true, true, true, true, true, true, true, true, true, true, true, true, true, true, false] rfl rfl (one_of HT_.out (by kernel_rfl)) (by decide) (fun K hK => ?_)
          refine box_step ?hg (N := 6) ?hd (cs := #[.int .i64 0, .string (⟨#[]⟩ : ByteArray), .int .i64 0, .string (⟨#[]⟩ : ByteArray), .string (⟨#[]⟩ : ByteArray)]) (t := 23) ?hr ?_; (case hd => rfl); (case hg => rfl); (case hr => first | (go_simp; done) | (go_simp; rfl))
          intro gb176 hg w36 hbox hb
          have HS0_ := (hb.cell (World.block_lt_of_cell? _ _ (hHeld.1))).trans (hHeld.1)
          have HS1_ := (hb.cell (World.block_lt_of_cell? _ _ (hHeld.2.1))).trans (hHeld.2.1)
          have HS2_ := (hb.cell (World.block_lt_of_cell? _ _ (hHeld.2.2.1))).trans (hHeld.2.2.1)
          have HS3_ := (hb.cell (World.block_lt_of_cell? _ _ (hHeld.2.2.2.1))).trans (hHeld.2.2.2.1)
          have HS4_ := (hb.cell (World.block_lt_of_cell? _ _ (hHeld.2.2.2.2.1))).trans (hHeld.2.2.2.2.1)
          have HS5_ := (hb.cell (World.block_lt_of_cell? _ _ (hHeld.2.2.2.2.2.1))).trans (hHeld.2.2.2.2.2.1)
          have HS6_ := (hb.cell (World.block_lt_of_cell? _ _ (hHeld.2.2.2.2.2.2.1))).trans (hHeld.2.2.2.2.2.2.1)
          have HS7_ := (hb.cell (World.block_lt_of_cell? _ _ (hHeld.2.2.2.2.2.2.2.1))).trans (hHeld.2.2.2.2.2.2.2.1)
          have HS8_ := (hb.cell (World.block_lt_of_cell? _ _ (hHeld.2.2.2.2.2.2.2.2.1))).trans (hHeld.2.2.2.2.2.2.2.2.1)
          have HS9_ := (hb.cell (World.block_lt_of_cell? _ _ (hHeld.2.2.2.2.2.2.2.2.2.1))).trans (hHeld.2.2.2.2.2.2.2.2.2.1)
          have HS10_ := (hb.cell (World.block_lt_of_cell? _ _ (hHeld.2.2.2.2.2.2.2.2.2.2.1))).trans (hHeld.2.2.2.2.2.2.2.2.2.2.1)
          have HS11_ := (hb.cell (World.block_lt_of_cell? _ _ (hHeld.2.2.2.2.2.2.2.2.2.2.2.1))).trans (hHeld.2.2.2.2.2.2.2.2.2.2.2.1)
          have HS12_ := (hb.cell (World.block_lt_of_cell? _ _ (hHeld.2.2.2.2.2.2.2.2.2.2.2.2.1))).trans (hHeld.2.2.2.2.2.2.2.2.2.2.2.2.1)
          have HS13_ := (hb.cell (World.block_lt_of_cell? _ _ (hHeld.2.2.2.2.2.2.2.2.2.2.2.2.2.1))).trans (hHeld.2.2.2.2.2.2.2.2.2.2.2.2.2.1)
          have HS14_ := (hb.cell (World.block_lt_of_cell? _ _ (hHeld.2.2.2.2.2.2.2.2.2.2.2.2.2.2))).trans (hHeld.2.2.2.2.2.2.2.2.2.2.2.2.2.2)
          have n0_ := Aside0.mk (Kd.R_below (by (with_reducible repeat (first | apply Kd.R_alloc | apply Kd.R_drewN | apply Kd.R_drew)); exact HO_4.out) hb)
          have n1_ := Aside0.mk (nb BK164.out hb)
          have n2_ := Aside0.mk (below_step bw hb)
          have n3_ := Aside0.mk (hbox)
          have n4_ := Aside0.mk ((g1 hg bw : w.heap.size ≤ gb176))
          have n5_ := Aside0.mk ((g1 hg bw : w.heap.size ≤ gb176))
          have n6_ := Aside0.mk ((n1 hg BK164.out : gb164 ≠ gb176))
          have n7_ := Aside0.mk ((n2 hg BK164.out : gb176 ≠ gb164))
          clear HO_4
          clear BK164
          clear HB
          have HO_4 := n0_
          have BK164 := n1_
          have HB := n2_
          have BK176 := n3_
          have GW176 := n4_
          have GE176 := n5_
          have NB164_176 := n6_
          have NB176_164 := n7_
          clear n0_ n1_ n2_ n3_ n4_ n5_ n6_ n7_
          clear hb hbox hg
          refine hK.out _ _ ⟨HS0_, HS1_, HS2_, HS3_, HS4_, HS5_, HS6_, HS7_, HS8_, HS9_, HS10_, HS11_, HS12_, HS13_, HS14_⟩ (fun hHeld => ?_)
          clear hK K
          refine norm_ (a' := ?_) ?_ ?_
          rotate_left
          ·show Act.put _ (some 6) _ = _
           simp only [Act.put, sl1, sl2, sl3, i64_w, i32_w]
           rfl
          refine one_ (i := 24) (N := none) #[true, true, true, true, true, true, true, true, true, true, true, true, true, true, true, true, true, true, true, true, true, true, true, true, true] rfl rfl (one_of HT_.out (by kernel_rfl)) (by decide) (fun K hK => ?_)
          have hs37 : w36.cell? ⟨gb176, 0, none⟩ = some (.int .i64 0) := (blk_cell BK176.out 0).trans rfl
          have hfs37 := blk_frozen BK176.out 0
          have hns37_0 := NB164_176.out
          have hms37_0 := NB176_164.out
          have hs38 : w36.cell? ⟨gb176, 1, none⟩ = some (.string (⟨#[]⟩ : ByteArray)) := (blk_cell BK176.out 1).trans rfl
          have hfs38 := blk_frozen BK176.out 1
          have hns38_0 := NB164_176.out
          have hms38_0 := NB176_164.out
          have hs39 : w36.cell? ⟨gb176, 2, none⟩ = some (.int .i64 0) := (blk_cell BK176.out 2).trans rfl
          have hfs39 := blk_frozen BK176.out 2
          have hns39_0 := NB164_176.out
          have hms39_0 := NB176_164.out
          have hs40 : w36.cell? ⟨gb176, 3, none⟩ = some (.string (⟨#[]⟩ : ByteArray)) := (blk_cell BK176.out 3).trans rfl
          have hfs40 := blk_frozen BK176.out 3
          have hns40_0 := NB164_176.out
          have hms40_0 := NB176_164.out
          have hs41 : w36.cell? ⟨gb176, 4, none⟩ = some (.string (⟨#[]⟩ : ByteArray)) := (blk_cell BK176.out 4).trans rfl
          have hfs41 := blk_frozen BK176.out 4
          have hns41_0 := NB164_176.out
          have hms41_0 := NB176_164.out
          refine skip_ (w1 := ?_) (by rfl) rfl ?_ ?_
          rotate_left
          ·go_simp
           rfl
          refine hK.out _ _ ⟨((cf (p := ⟨gb176, _, none⟩) (Kd.own_blk (Kd.R_ne HO_4.out BK176.out (by decide)))).trans (((cf (p := ⟨gb176, _, none⟩) (Kd.own_blk (Kd.R_ne HO_4.out BK176.out (by decide)))).trans (((cf (p := ⟨gb176, _, none⟩) (Kd.own_blk (Kd.R_ne HO_4.out BK176.out (by decide)))).trans (((cf (p := ⟨gb176, _, none⟩) (Kd.own_blk (Kd.R_ne HO_4.out BK176.out (by decide)))).trans (((cf (p := ⟨gb176, _, none⟩) (Kd.own_blk (Kd.R_ne HO_4.out BK176.out (by decide)))).trans (hHeld.1)))))))))), ((cf (p := ⟨gb176, _, none⟩) (Kd.own_blk (Kd.R_ne HO_4.out BK176.out (by decide)))).trans (((cf (p := ⟨gb176, _, none⟩) (Kd.own_blk (Kd.R_ne HO_4.out BK176.out (by decide)))).trans (((cf (p := ⟨gb176, _, none⟩) (Kd.own_blk (Kd.R_ne HO_4.out BK176.out (by decide)))).trans (((cf (p := ⟨gb176, _, none⟩) (Kd.own_blk (Kd.R_ne HO_4.out BK176.out (by decide)))).trans (((cf (p := ⟨gb176, _, none⟩) (Kd.own_blk (Kd.R_ne HO_4.out BK176.out (by decide)))).trans (hHeld.2.1)))))))))), ((cf (p := ⟨gb176, _, none⟩) (Kd.own_blk (Kd.R_ne HO_4.out BK176.out (by decide)))).trans (((cf (p := ⟨gb176, _, none⟩) (Kd.own_blk (Kd.R_ne HO_4.out BK176.out (by decide)))).trans (((cf (p := ⟨gb176, _, none⟩) (Kd.own_blk (Kd.R_ne HO_4.out BK176.out (by decide)))).trans (((cf (p := ⟨gb176, _, none⟩) (Kd.own_blk (Kd.R_ne HO_4.out BK176.out (by decide)))).trans (((cf (p := ⟨gb176, _, none⟩) (Kd.own_blk (Kd.R_ne HO_4.out BK176.out (by decide)))).trans (hHeld.2.2.1)))))))))), ((cf (p := ⟨gb176, _, none⟩) (Kd.own_blk (Kd.R_ne HO_4.out BK176.out (by decide)))).trans (((cf (p := ⟨gb176, _, none⟩) (Kd.own_blk (Kd.R_ne HO_4.out BK176.out (by decide)))).trans (((cf (p := ⟨gb176, _, none⟩) (Kd.own_blk (Kd.R_ne HO_4.out BK176.out (by decide)))).trans (((cf (p := ⟨gb176, _, none⟩) (Kd.own_blk (Kd.R_ne HO_4.out BK176.out (by decide)))).trans (((cf (p := ⟨gb176, _, none⟩) (Kd.own_blk (Kd.R_ne HO_4.out BK176.out (by decide)))).trans (hHeld.2.2.2.1)))))))))), ((cf (p := ⟨gb176, _, none⟩) (Kd.own_blk (Kd.R_ne HO_4.out BK176.out (by decide)))).trans (((cf (p := ⟨gb176, _, none⟩) (Kd.own_blk (Kd.R_ne HO_4.out BK176.out (by decide)))).trans (((cf (p := ⟨gb176, _, none⟩) (Kd.own_blk (Kd.R_ne HO_4.out BK176.out (by decide)))).trans (((cf (p := ⟨gb176, _, none⟩) (Kd.own_blk (Kd.R_ne HO_4.out BK176.out (by decide)))).trans (((cf (p := ⟨gb176, _, none⟩) (Kd.own_blk (Kd.R_ne HO_4.out BK176.out (by decide)))).trans (hHeld.2.2.2.2.1)))))))))), ((cf (p := ⟨gb176, _, none⟩) (Kd.own_blk (Kd.R_ne HO_4.out BK176.out (by decide)))).trans (((cf (p := ⟨gb176, _, none⟩) (Kd.own_blk (Kd.R_ne HO_4.out BK176.out (by decide)))).trans (((cf (p := ⟨gb176, _, none⟩) (Kd.own_blk (Kd.R_ne HO_4.out BK176.out (by decide)))).trans (((cf (p := ⟨gb176, _, none⟩) (Kd.own_blk (Kd.R_ne HO_4.out BK176.out (by decide)))).trans (((cf (p := ⟨gb176, _, none⟩) (Kd.own_blk (Kd.R_ne HO_4.out BK176.out (by decide)))).trans (hHeld.2.2.2.2.2.1)))))))))), ((cf (p := ⟨gb176, _, none⟩) (Kd.own_blk (Kd.R_ne HO_4.out BK176.out (by decide)))).trans (((cf (p := ⟨gb176, _, none⟩) (Kd.own_blk (Kd.R_ne HO_4.out BK176.out (by decide)))).trans (((cf (p := ⟨gb176, _, none⟩) (Kd.own_blk (Kd.R_ne HO_4.out BK176.out (by decide)))).trans (((cf (p := ⟨gb176, _, none⟩) (Kd.own_blk (Kd.R_ne HO_4.out BK176.out (by decide)))).trans (((cf (p := ⟨gb176, _, none⟩) (Kd.own_blk (Kd.R_ne HO_4.out BK176.out (by decide)))).trans (hHeld.2.2.2.2.2.2.1)))))))))), ((cf (p := ⟨gb176, _, none⟩) (Kd.own_blk (Kd.R_ne HO_4.out BK176.out (by decide)))).trans (((cf (p := ⟨gb176, _, none⟩) (Kd.own_blk (Kd.R_ne HO_4.out BK176.out (by decide)))).trans (((cf (p := ⟨gb176, _, none⟩) (Kd.own_blk (Kd.R_ne HO_4.out BK176.out (by decide)))).trans (((cf (p := ⟨gb176, _, none⟩) (Kd.own_blk (Kd.R_ne HO_4.out BK176.out (by decide)))).trans (((cf (p := ⟨gb176, _, none⟩) (Kd.own_blk (Kd.R_ne HO_4.out BK176.out (by decide)))).trans (hHeld.2.2.2.2.2.2.2.1)))))))))), ((cf (p := ⟨gb176, _, none⟩) (Kd.own_blk (Kd.R_ne HO_4.out BK176.out (by decide)))).trans (((cf (p := ⟨gb176, _, none⟩) (Kd.own_blk (Kd.R_ne HO_4.out BK176.out (by decide)))).trans (((cf (p := ⟨gb176, _, none⟩) (Kd.own_blk (Kd.R_ne HO_4.out BK176.out (by decide)))).trans (((cf (p := ⟨gb176, _, none⟩) (Kd.own_blk (Kd.R_ne HO_4.out BK176.out (by decide)))).trans (((cf (p := ⟨gb176, _, none⟩) (Kd.own_blk (Kd.R_ne HO_4.out BK176.out (by decide)))).trans (hHeld.2.2.2.2.2.2.2.2.1)))))))))), ((cf (p := ⟨gb176, _, none⟩) (Kd.own_blk (Kd.R_ne HO_4.out BK176.out (by decide)))).trans (((cf (p := ⟨gb176, _, none⟩) (Kd.own_blk (Kd.R_ne HO_4.out BK176.out (by decide)))).trans (((cf (p := ⟨gb176, _, none⟩) (Kd.own_blk (Kd.R_ne HO_4.out BK176.out (by decide)))).trans (((cf (p := ⟨gb176, _, none⟩) (Kd.own_blk (Kd.R_ne HO_4.out BK176.out (by decide)))).trans (((cf (p := ⟨gb176, _, none⟩) (Kd.own_blk (Kd.R_ne HO_4.out BK176.out (by decide)))).trans (hHeld.2.2.2.2.2.2.2.2.2.1)))))))))), ((cf (p := ⟨gb176, _, none⟩) (Kd.own_blk (Kd.R_ne HO_4.out BK176.out (by decide)))).trans (((cf (p := ⟨gb176, _, none⟩) (Kd.own_blk (Kd.R_ne HO_4.out BK176.out (by decide)))).trans (((cf (p := ⟨gb176, _, none⟩) (Kd.own_blk (Kd.R_ne HO_4.out BK176.out (by decide)))).trans (((cf (p := ⟨gb176, _, none⟩) (Kd.own_blk (Kd.R_ne HO_4.out BK176.out (by decide)))).trans (((cf (p := ⟨gb176, _, none⟩) (Kd.own_blk (Kd.R_ne HO_4.out BK176.out (by decide)))).trans (hHeld.2.2.2.2.2.2.2.2.2.2.1)))))))))), ((cf (p := ⟨gb176, _, none⟩) (Kd.own_blk (Kd.R_ne HO_4.out BK176.out (by decide)))).trans (((cf (p := ⟨gb176, _, none⟩) (Kd.own_blk (Kd.R_ne HO_4.out BK176.out (by decide)))).trans (((cf (p := ⟨gb176, _, none⟩) (Kd.own_blk (Kd.R_ne HO_4.out BK176.out (by decide)))).trans (((cf (p := ⟨gb176, _, none⟩) (Kd.own_blk (Kd.R_ne HO_4.out BK176.out (by decide)))).trans (((cf (p := ⟨gb176, _, none⟩) (Kd.own_blk (Kd.R_ne HO_4.out BK176.out (by decide)))).trans (hHeld.2.2.2.2.2.2.2.2.2.2.2.1)))))))))), ((cf (p := ⟨gb176, _, none⟩) (Kd.own_blk (Kd.R_ne HO_4.out BK176.out (by decide)))).trans (((cf (p := ⟨gb176, _, none⟩) (Kd.own_blk (Kd.R_ne HO_4.out BK176.out (by decide)))).trans (((cf (p := ⟨gb176, _, none⟩) (Kd.own_blk (Kd.R_ne HO_4.out BK176.out (by decide)))).trans (((cf (p := ⟨gb176, _, none⟩) (Kd.own_blk (Kd.R_ne HO_4.out BK176.out (by decide)))).trans (((cf (p := ⟨gb176, _, none⟩) (Kd.own_blk (Kd.R_ne HO_4.out BK176.out (by decide)))).trans (hHeld.2.2.2.2.2.2.2.2.2.2.2.2.1)))))))))), ((cf (p := ⟨gb176, _, none⟩) (Kd.own_blk (Kd.R_ne HO_4.out BK176.out (by decide)))).trans (((cf (p := ⟨gb176, _, none⟩) (Kd.own_blk (Kd.R_ne HO_4.out BK176.out (by decide)))).trans (((cf (p := ⟨gb176, _, none⟩) (Kd.own_blk (Kd.R_ne HO_4.out BK176.out (by decide)))).trans (((cf (p := ⟨gb176, _, none⟩) (Kd.own_blk (Kd.R_ne HO_4.out BK176.out (by decide)))).trans (((cf (p := ⟨gb176, _, none⟩) (Kd.own_blk (Kd.R_ne HO_4.out BK176.out (by decide)))).trans (hHeld.2.2.2.2.2.2.2.2.2.2.2.2.2.1)))))))))), ((cf (p := ⟨gb176, _, none⟩) (Kd.own_blk (Kd.R_ne HO_4.out BK176.out (by decide)))).trans (((cf (p := ⟨gb176, _, none⟩) (Kd.own_blk (Kd.R_ne HO_4.out BK176.out (by decide)))).trans (((cf (p := ⟨gb176, _, none⟩) (Kd.own_blk (Kd.R_ne HO_4.out BK176.out (by decide)))).trans (((cf (p := ⟨gb176, _, none⟩) (Kd.own_blk (Kd.R_ne HO_4.out BK176.out (by decide)))).trans (((cf (p := ⟨gb176, _, none⟩) (Kd.own_blk (Kd.R_ne HO_4.out BK176.out (by decide)))).trans (hHeld.2.2.2.2.2.2.2.2.2.2.2.2.2.2))))))))))⟩ (fun hHeld => ?_)
          clear hK K
          refine done_ (done_of HT_.out (by kernel_rfl)) ?_
          have hnb42 := NB176_164.out
          have hnc42 := NB164_176.out
          have hcz43_0 := bc5_0 BK176.out
          have hcz43_1 := bc5_1 BK176.out
          have hcz43_2 := bc5_2 BK176.out
          have hcz43_3 := bc5_3 BK176.out
          have hcz43_4 := bc5_4 BK176.out
          have hfz43_0 := blk_frozen BK176.out 0
          have hfz43_1 := blk_frozen BK176.out 1
          have hfz43_2 := blk_frozen BK176.out 2
          have hfz43_3 := blk_frozen BK176.out 3
          have hfz43_4 := blk_frozen BK176.out 4
          try go_wp2_with (first | ((with_reducible refine gate_callee (f := 12) rfl ?_); refine goesL_ (some 53) rfl rfl Tryd.func12 (by kernel_rfl) rfl #[.agg #[.int .i64 (wrap64 ((rd_T60 t165 0).f1)), .string ((rd_T60 t165 1).f2), .int .i64 (wrap64 ((rd_T60 t165 2).f1)), .string ((rd_T60 t165 3).f2), .string ((rd_T60 t165 4).f2)]] rfl am ?_; (with_reducible refine (segment_Right.calls (wrap64 ((rd_T60 t165 0).f1)) ((rd_T60 t165 1).f2) (wrap64 ((rd_T60 t165 2).f1)) ((rd_T60 t165 3).f2) ((rd_T60 t165 4).f2) false _ A19.out).mono ?_); rintro e w44 ⟨rfl, hb⟩; refine ⟨_, rfl, ?_⟩; have n0_ := Aside0.mk (Kd.R_below (by (with_reducible repeat (first | apply Kd.R_alloc | apply Kd.R_drewN | apply Kd.R_drew)); exact (Kd.R_mono (Kd.R_far (p := ⟨gb176, 4, none⟩) (Kd.R_far (p := ⟨gb176, 3, none⟩) (Kd.R_far (p := ⟨gb176, 2, none⟩) (Kd.R_far (p := ⟨gb176, 1, none⟩) (Kd.R_far (p := ⟨gb176, 0, none⟩) (Kd.R_types HO_4.out BK176.out (by decide)) (fun _ hk => hk.2) (.int .i64 (wrap64 ((rd_T60 t165 0).f1)))) (fun _ hk => hk.2) (.string ((rd_T60 t165 1).f2))) (fun _ hk => hk.2) (.int .i64 (wrap64 ((rd_T60 t165 2).f1)))) (fun _ hk => hk.2) (.string ((rd_T60 t165 3).f2))) (fun _ hk => hk.2) (.string ((rd_T60 t165 4).f2))) (fun _ h_ => h_.1))) hb); have n1_ := Aside0.mk (blk_below (g := gb164) (o := .cells #[.int .i64 0, .string (⟨#[]⟩ : ByteArray), .int .i64 0, .string (⟨#[]⟩ : ByteArray), .string (⟨#[]⟩ : ByteArray)] 23 (0, 0)) (by (with_reducible repeat (first | refine blk_drewN ?_ _ | refine blk_drew ?_ | refine blk_alloc ?_ _ | refine blk_far ?_ NB164_176.out _)); exact BK164.out) hb); have n2_ := Aside0.mk (blk_below (g := gb176) (o := .cells #[.int .i64 (wrap64 ((rd_T60 t165 0).f1)), .string ((rd_T60 t165 1).f2), .int .i64 (wrap64 ((rd_T60 t165 2).f1)), .string ((rd_T60 t165 3).f2), .string ((rd_T60 t165 4).f2)] 23 (0, 0)) (by (with_reducible repeat (first | refine blk_drewN ?_ _ | refine blk_drew ?_ | refine blk_alloc ?_ _)); refine blk_put (cs := #[.int .i64 (wrap64 ((rd_T60 t165 0).f1)), .string ((rd_T60 t165 1).f2), .int .i64 (wrap64 ((rd_T60 t165 2).f1)), .string ((rd_T60 t165 3).f2), .string (⟨#[]⟩ : ByteArray)]) ?_ 4 _ rfl; (with_reducible repeat (first | refine blk_drewN ?_ _ | refine blk_drew ?_ | refine blk_alloc ?_ _)); refine blk_put (cs := #[.int .i64 (wrap64 ((rd_T60 t165 0).f1)), .string ((rd_T60 t165 1).f2), .int .i64 (wrap64 ((rd_T60 t165 2).f1)), .string (⟨#[]⟩ : ByteArray), .string (⟨#[]⟩ : ByteArray)]) ?_ 3 _ rfl; (with_reducible repeat (first | refine blk_drewN ?_ _ | refine blk_drew ?_ | refine blk_alloc ?_ _)); refine blk_put (cs := #[.int .i64 (wrap64 ((rd_T60 t165 0).f1)), .string ((rd_T60 t165 1).f2), .int .i64 0, .string (⟨#[]⟩ : ByteArray), .string (⟨#[]⟩ : ByteArray)]) ?_ 2 _ rfl; (with_reducible repeat (first | refine blk_drewN ?_ _ | refine blk_drew ?_ | refine blk_alloc ?_ _)); refine blk_put (cs := #[.int .i64 (wrap64 ((rd_T60 t165 0).f1)), .string (⟨#[]⟩ : ByteArray), .int .i64 0, .string (⟨#[]⟩ : ByteArray), .string (⟨#[]⟩ : ByteArray)]) ?_ 1 _ rfl; (with_reducible repeat (first | refine blk_drewN ?_ _ | refine blk_drew ?_ | refine blk_alloc ?_ _)); refine blk_put (cs := #[.int .i64 0, .string (⟨#[]⟩ : ByteArray), .int .i64 0, .string (⟨#[]⟩ : ByteArray), .string (⟨#[]⟩ : ByteArray)]) ?_ 0 _ rfl; (with_reducible repeat (first | refine blk_drewN ?_ _ | refine blk_drew ?_ | refine blk_alloc ?_ _)); exact BK176.out) hb); have n3_ := Aside0.mk (below_step bw hb); clear HO_4; clear BK164; clear BK176; clear HB; have HO_4 := n0_; have BK164 := n1_; have BK176 := n2_; have HB := n3_; clear n0_ n1_ n2_ n3_; (try clear hb); (try clear hb2); (try clear hk); (try clear hi); have hcz45_0 := bc5_0 BK164.out; have hcz45_1 := bc5_1 BK164.out; have hcz45_2 := bc5_2 BK164.out; have hcz45_3 := bc5_3 BK164.out; have hcz45_4 := bc5_4 BK164.out; have hfz45_0 := blk_frozen BK164.out 0; have hfz45_1 := blk_frozen BK164.out 1; have hfz45_2 := blk_frozen BK164.out 2; have hfz45_3 := blk_frozen BK164.out 3; have hfz45_4 := blk_frozen BK164.out 4))
          refine bodyPost_ret (results_ct rfl _ _ gb164 23 #[.int .i64 0, .string (⟨#[]⟩ : ByteArray), .int .i64 0, .string (⟨#[]⟩ : ByteArray), .string (⟨#[]⟩ : ByteArray)] (0, 0) _ rfl (by (with_reducible repeat (first | refine blk_drewN ?_ _ | refine blk_drew ?_ | refine blk_alloc ?_ _)); refine blk_put (cs := #[.int .i64 0, .string (⟨#[]⟩ : ByteArray), .int .i64 0, .string (⟨#[]⟩ : ByteArray), .string (⟨#[]⟩ : ByteArray)]) ?_ 4 _ rfl; (with_reducible repeat (first | refine blk_drewN ?_ _ | refine blk_drew ?_ | refine blk_alloc ?_ _)); refine blk_put (cs := #[.int .i64 0, .string (⟨#[]⟩ : ByteArray), .int .i64 0, .string (⟨#[]⟩ : ByteArray), .string (⟨#[]⟩ : ByteArray)]) ?_ 3 _ rfl; (with_reducible repeat (first | refine blk_drewN ?_ _ | refine blk_drew ?_ | refine blk_alloc ?_ _)); refine blk_put (cs := #[.int .i64 0, .string (⟨#[]⟩ : ByteArray), .int .i64 0, .string (⟨#[]⟩ : ByteArray), .string (⟨#[]⟩ : ByteArray)]) ?_ 2 _ rfl; (with_reducible repeat (first | refine blk_drewN ?_ _ | refine blk_drew ?_ | refine blk_alloc ?_ _)); refine blk_put (cs := #[.int .i64 0, .string (⟨#[]⟩ : ByteArray), .int .i64 0, .string (⟨#[]⟩ : ByteArray), .string (⟨#[]⟩ : ByteArray)]) ?_ 1 _ rfl; (with_reducible repeat (first | refine blk_drewN ?_ _ | refine blk_drew ?_ | refine blk_alloc ?_ _)); refine blk_put (cs := #[.int .i64 0, .string (⟨#[]⟩ : ByteArray), .int .i64 0, .string (⟨#[]⟩ : ByteArray), .string (⟨#[]⟩ : ByteArray)]) ?_ 0 _ rfl; (with_reducible repeat (first | refine blk_drewN ?_ _ | refine blk_drew ?_ | refine blk_alloc ?_ _)); exact BK164.out) Tryd.underlying23 rfl (by kernel_rfl)) rfl ?_
          exact ⟨er, bw⟩
        ·rw [if_neg c18] at H
         exact absurd H (by simp)
       ·rw [if_neg c17] at H
        exact absurd H (by simp)
      ·rw [if_neg c16] at H
       exact absurd H (by simp)
     ·rw [if_neg c15] at H
      exact absurd H (by simp)
    ·rw [if_neg c14] at H
     exact absurd H (by simp)

end Go.Proofs.YtmjgifhgodgghaaDoor.P
