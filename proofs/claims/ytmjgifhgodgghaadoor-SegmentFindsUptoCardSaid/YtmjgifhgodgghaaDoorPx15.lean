-- Printed by this session's program wip/xp.py (a turned copy of the kit's printer): functions, their contracts.
import Derived.Test.YtmjgifhgodgghaaDoorPx0
import Derived.Test.YtmjgifhgodgghaaDoorPx10
import Derived.Test.YtmjgifhgodgghaaDoorPx14
namespace Go.Proofs.YtmjgifhgodgghaaDoor.P
open Go.RowKit Go.Proofs.YtmjgifhgodgghaaDoorW.PrintWords Go.Proofs.YtmjgifhgodgghaaDoorW.PrintLast Go.Proofs.YtmjgifhgodgghaaDoorW.PrintMore
attribute [local go_sem] max2_int min2_int max_two min_two max_three min_three max_four min_four   -- for this text's walks alone
set_option linter.unusedVariables false
set_option linter.unusedSimpArgs false

/-! ### carillonref06_read: function 41 -/
def carillonref06_read.j0 : Nat → List (S60) → Bool → Option (Int × ByteArray × Int × ByteArray × ByteArray × Bool)
 | 0, _, _ => none
 | k + 1, x4, x28 => if x28 = true then (some (0, (⟨#[]⟩ : ByteArray), 0, (⟨#[]⟩ : ByteArray), (⟨#[]⟩ : ByteArray), false)) else (if 0 < (x4.length : Int) then (if 1 < (x4.length : Int) then (if 2 < (x4.length : Int) then (if 3 < (x4.length : Int) then (if 4 < (x4.length : Int) then ((carillonref06_Right.f (wrap64 ((rd_T60 x4 0).f1)) ((rd_T60 x4 1).f2) (wrap64 ((rd_T60 x4 2).f1)) ((rd_T60 x4 3).f2) ((rd_T60 x4 4).f2)).bind fun t348 => (some (wrap64 ((rd_T60 x4 0).f1), (rd_T60 x4 1).f2, wrap64 ((rd_T60 x4 2).f1), (rd_T60 x4 3).f2, (rd_T60 x4 4).f2, t348))) else (none)) else (none)) else (none)) else (none)) else (none))
def carillonref06_read.f (k : Nat) (a0 : ByteArray) : Option (Int × ByteArray × Int × ByteArray × ByteArray × Bool) := (carillonref01_Decode.f k (⟨#[108, 116, 108, 116, 116]⟩ : ByteArray) a0).bind fun bt336 => (if bt336.2 = 0 then (if 0 < (bt336.1.length : Int) then (if ((rd_T60 bt336.1 0).f1) > 9007199254740991 then (carillonref06_read.j0 k bt336.1 true) else (if 2 < (bt336.1.length : Int) then (carillonref06_read.j0 k bt336.1 (decide (((rd_T60 bt336.1 2).f1) > 9007199254740991))) else (none))) else (none)) else (carillonref06_read.j0 k bt336.1 true))
theorem carillonref06_read.mono_l : ∀ k, (∀ y0 y1, LeO (carillonref06_read.j0 k y0 y1) (carillonref06_read.j0 (k + 1) y0 y1))
 | 0 => fun _ _ r h => by simp [carillonref06_read.j0] at h
 | k + 1 => by
  have ih0 := carillonref06_read.mono_l k
  ·intro y0 y1
   unfold carillonref06_read.j0
   repeat' first
   | (with_reducible exact ih0 _ _)
   | (with_reducible exact carillonref01_Decode.mono _ _ _)
   | (with_reducible exact LeO.refl _)
   | (with_reducible exact LeO.none _)
   | (with_reducible refine LeO.ite ?_ ?_)
   | (with_reducible refine LeO.bind ?_ (fun _ => ?_))
   | exact ih0 _ _
   | exact carillonref01_Decode.mono _ _ _
   | exact LeO.none _
   | refine LeO.ite ?_ ?_
   | refine LeO.bind ?_ (fun _ => ?_)
theorem carillonref06_read.mono : ∀ a0 k, LeO (carillonref06_read.f k a0) (carillonref06_read.f (k + 1) a0) := by
 intro a0 k
 have ih0 := carillonref06_read.mono_l k
 unfold carillonref06_read.f
 repeat' first
   | (with_reducible exact ih0 _ _)
   | (with_reducible exact carillonref01_Decode.mono _ _ _)
   | (with_reducible exact LeO.refl _)
   | (with_reducible exact LeO.none _)
   | (with_reducible refine LeO.ite ?_ ?_)
   | (with_reducible refine LeO.bind ?_ (fun _ => ?_))
   | exact ih0 _ _
   | exact carillonref01_Decode.mono _ _ _
   | exact LeO.none _
   | refine LeO.ite ?_ ?_
   | refine LeO.bind ?_ (fun _ => ?_)
def carillonref06_read.T4 : Bool × List (List Nat × List Nat) := (true, [([], []), ([0], [0]), ([1], [1]), ([2], [2]), ([3], [3]), ([], []), ([5], [5]), ([6], [6]), ([7], [7]), ([], []), ([9], [9]), ([10], [10]), ([11], [11]), ([12], [12]), ([], []), ([14], [14]), ([15], [15]), ([16], [16]), ([], []), ([18], [18]), ([19], [19]), ([20], [20]), ([4, 8, 13, 17, 21], [4, 8, 13, 17, 21]), ([], []), ([23, 22, 0, 1, 2, 3, 4, 5, 6, 7, 8, 9, 10, 11, 12, 13, 14, 15, 16, 17, 18, 19, 20, 21, 22, 23], [22, 23])])
def carillonref06_read.B4 : List Nat := [0, 1, 3, 7, 15, 0, 32, 96, 224, 0, 512, 1536, 3584, 7680, 0, 16384, 49152, 114688, 0, 262144, 786432, 1835008, 4194303, 0, 16777215]
theorem carillonref06_read.tab4 : rtab .any (opsOf Tryd.f41 4) = carillonref06_read.T4 := by kernel_rfl
theorem carillonref06_read.bits4 : waitsOk carillonref06_read.T4.2 carillonref06_read.B4 = true := by kernel_rfl
set_option maxHeartbeats 8000000 in
set_option maxRecDepth 100000 in
theorem carillonref06_read.calls (k : Nat) (a0 : ByteArray) (r1 : Int) (r2 : ByteArray) (r3 : Int) (r4 : ByteArray) (r5 : ByteArray) (r6 : Bool) (w : World) (h : carillonref06_read.f k a0 = some (r1, r2, r3, r4, r5, r6)) :
  Calls Tryd.prog 41 #[.string a0] w fun e w' => e = .returned (.tuple #[.agg #[.int .i64 r1, .string r2, .int .i64 r3, .string r4, .string r5], .bool r6]) ∧ Below w.heap.size w w' := by
 have hu23 := Tryd.underlying23
 have HB := Aside0.mk (Below.refl w.heap.size w)
 have H : ((carillonref01_Decode.f k (⟨#[108, 116, 108, 116, 116]⟩ : ByteArray) a0).bind fun bt336 => (if bt336.2 = 0 then (if 0 < (bt336.1.length : Int) then (if ((rd_T60 bt336.1 0).f1) > 9007199254740991 then (carillonref06_read.j0 k bt336.1 true) else (if 2 < (bt336.1.length : Int) then (carillonref06_read.j0 k bt336.1 (decide (((rd_T60 bt336.1 2).f1) > 9007199254740991))) else (none))) else (none)) else (carillonref06_read.j0 k bt336.1 true))) = some (r1, r2, r3, r4, r5, r6) := h
 clear h
 replace H := Option.bind_eq_some_iff.mp H
 obtain ⟨⟨t336, t337⟩, A20, H⟩ := H
 replace H : (if t337 = 0 then (if 0 < (t336.length : Int) then (if ((rd_T60 t336 0).f1) > 9007199254740991 then (carillonref06_read.j0 k t336 true) else (if 2 < (t336.length : Int) then (carillonref06_read.j0 k t336 (decide (((rd_T60 t336 2).f1) > 9007199254740991))) else (none))) else (none)) else (carillonref06_read.j0 k t336 true)) = some (r1, r2, r3, r4, r5, r6) := H
 have A2 := Aside0.mk A20
 clear A20
 have HC3 := Aside0.mk H
 clear H
 go_enter Tryd.func41, Tryd.ntmps41
 go_upto_region 2 with (first | ((with_reducible refine gate_dst (N := 2) rfl ?_); refine box_event ?hg (N := 2) ?hd (cs := #[.int .i64 0, .string (⟨#[]⟩ : ByteArray), .int .i64 0, .string (⟨#[]⟩ : ByteArray), .string (⟨#[]⟩ : ByteArray)]) (t := 23) ?hr ?_; (case hd => rfl); (case hg => rfl); (case hr => first | (go_simp; done) | (go_simp; rfl)); intro gb335 hg w4 hbox hb; have n0_ := Aside0.mk (below_step bw hb); have n1_ := Aside0.mk (hbox); have n2_ := Aside0.mk ((g1 hg bw : w.heap.size ≤ gb335)); have n3_ := Aside0.mk ((g1 hg bw : w.heap.size ≤ gb335)); clear HB; have HB := n0_; have BK335 := n1_; have GW335 := n2_; have GE335 := n3_; clear n0_ n1_ n2_ n3_; clear hb hbox hg) | ((with_reducible refine gate_callee (f := 48) rfl ?_); refine goesL_ (some 10) rfl rfl Tryd.func48 (by kernel_rfl) rfl #[.string (⟨#[108, 116, 108, 116, 116]⟩ : ByteArray), .string a0] rfl am ?_; (with_reducible refine (carillonref01_Decode.calls k (⟨#[108, 116, 108, 116, 116]⟩ : ByteArray) a0 t336 t337 _ A2.out).mono ?_); rintro e w5 ⟨v338, rfl, ho0, hb⟩; refine ⟨_, rfl, ?_⟩; have n0_ := Aside0.mk (Kd.R_lower ho0 (below_size bw)); have n1_ := Aside0.mk (nb BK335.out hb); have n2_ := Aside0.mk (below_step bw hb); clear BK335; clear HB; have HO339 := n0_; have BK335 := n1_; have HB := n2_; clear n0_ n1_ n2_; (try clear hb); (try clear hb2); (try clear hk); (try clear hi); (try clear ho0)))
 (try simp only [Act.put, sl1, sl2, sl3])
 go_cut [28] (fun v28 wc => ∃ (kq : Nat) (x28_2 : Bool), v28 = .bool x28_2 ∧ Aside0 (carillonref06_read.j0 kq t336 x28_2 = some (r1, r2, r3, r4, r5, r6)) ∧ Aside0 (kq ≤ k) ∧ Aside0 (Kd.R k60 60 wc w.heap.size (fun _ => True) v338 t336) ∧ Aside0 (wc.heap[gb335]? = some (.cells #[.int .i64 0, .string (⟨#[]⟩ : ByteArray), .int .i64 0, .string (⟨#[]⟩ : ByteArray), .string (⟨#[]⟩ : ByteArray)] 23 (0, 0))) ∧ Aside0 (Below w.heap.size w wc))
 case first =>
  have H := HC3.out
  clear HC3
  by_cases c6 : t337 = 0
  ·rw [if_pos c6] at H
   have c6b0 : (t337 == 0) = true := beq_iff_eq.mpr c6
   have c6b1 : (t337 != 0) = false := bne_eq_false_iff_eq.mpr c6
   clear c6
   (first | rw [c6b0] | (simp only [i64_w, i32_w]; rw [c6b0]) | skip)
   by_cases c7 : 0 < (t336.length : Int)
   ·rw [if_pos c7] at H
    have c7b0 : decide (0 < (t336.length : Int)) = true := decide_eq_true c7
    have c7b1 : decide (0 < t336.length) = true := decide_eq_true (by omega)
    clear c7
    by_cases c8 : ((rd_T60 t336 0).f1) > 9007199254740991
    ·rw [if_pos c8] at H
     have c8b0 : decide (9007199254740991 < ((rd_T60 t336 0).f1)) = true := decide_eq_true c8
     clear c8
     have H' := Aside0.mk H
     clear H
     obtain ⟨Ao9, co9, eo9⟩ := Kd.R_slice HO339.out
     subst eo9
     have p340 : 0 ≤ (0 : Int) := (by omega)
     have q340 : 0 < (t336.length : Int) := of_decide_eq_true (by first | (with_reducible assumption) | assumption)
     obtain ⟨ad340, e340, hx340_0, hx340_1, hx340_2⟩ := at_T60 (Kd.R_reads' HO339.out).2.2 0 p340 q340
     cases e340
     have qi340 : (0 < t336.length) = True := eq_true (by omega)
     (try rw [show ((0 : Int)).toNat = 0 from rfl] at hx340_0)
     (try rw [show 0 * 3 = 0 from rfl] at hx340_0)
     (try rw [Addr.add_zero'] at hx340_0)
     (try rw [show ((0 : Int)).toNat = 0 from rfl] at hx340_1)
     (try rw [show 0 * 3 = 0 from rfl] at hx340_1)
     (try rw [Addr.add_zero'] at hx340_1)
     (try rw [show ((0 : Int)).toNat = 0 from rfl] at hx340_2)
     (try rw [show 0 * 3 = 0 from rfl] at hx340_2)
     (try rw [Addr.add_zero'] at hx340_2)
     replace p340 := eq_true p340
     replace q340 := eq_true q340
     go_wp2
     go_meet
     case rel => exact ⟨_, (true), (by first | rfl | (simp; done) | (simp [*]; done)), H', ⟨by first | omega | exact Nat.le_refl _⟩, ⟨by (with_reducible repeat (first | apply Kd.R_alloc | apply Kd.R_drewN | apply Kd.R_drew)); exact HO339.out⟩, ⟨by (with_reducible repeat (first | refine blk_drewN ?_ _ | refine blk_drew ?_ | refine blk_alloc ?_ _)); exact BK335.out⟩, ⟨bw⟩⟩
    ·rw [if_neg c8] at H
     have c8b0 : decide (9007199254740991 < ((rd_T60 t336 0).f1)) = false := decide_eq_false c8
     clear c8
     by_cases c10 : 2 < (t336.length : Int)
     ·rw [if_pos c10] at H
      have c10b0 : decide (2 < (t336.length : Int)) = true := decide_eq_true c10
      have c10b1 : decide (2 < t336.length) = true := decide_eq_true (by omega)
      clear c10
      have H' := Aside0.mk H
      clear H
      obtain ⟨Ao11, co11, eo11⟩ := Kd.R_slice HO339.out
      subst eo11
      have p340 : 0 ≤ (0 : Int) := (by omega)
      have q340 : 0 < (t336.length : Int) := of_decide_eq_true (by first | (with_reducible assumption) | assumption)
      obtain ⟨ad340, e340, hx340_0, hx340_1, hx340_2⟩ := at_T60 (Kd.R_reads' HO339.out).2.2 0 p340 q340
      cases e340
      have qi340 : (0 < t336.length) = True := eq_true (by omega)
      (try rw [show ((0 : Int)).toNat = 0 from rfl] at hx340_0)
      (try rw [show 0 * 3 = 0 from rfl] at hx340_0)
      (try rw [Addr.add_zero'] at hx340_0)
      (try rw [show ((0 : Int)).toNat = 0 from rfl] at hx340_1)
      (try rw [show 0 * 3 = 0 from rfl] at hx340_1)
      (try rw [Addr.add_zero'] at hx340_1)
      (try rw [show ((0 : Int)).toNat = 0 from rfl] at hx340_2)
      (try rw [show 0 * 3 = 0 from rfl] at hx340_2)
      (try rw [Addr.add_zero'] at hx340_2)
      replace p340 := eq_true p340
      replace q340 := eq_true q340
      have p341 : 0 ≤ (2 : Int) := (by omega)
      have q341 : 2 < (t336.length : Int) := of_decide_eq_true (by first | (with_reducible assumption) | assumption)
      obtain ⟨ad341, e341, hx341_0, hx341_1, hx341_2⟩ := at_T60 (Kd.R_reads' HO339.out).2.2 2 p341 q341
      obtain rfl : ad340 = ad341 := (by injection e341)
      (try simp only [show (2 : Int).toNat = 2 from rfl, Nat.reduceMul, Nat.reduceEqDiff, Go.Addr.add, ↓reduceIte] at hx341_0)
      (try simp only [show (2 : Int).toNat = 2 from rfl, Nat.reduceMul, Nat.reduceEqDiff, Go.Addr.add, ↓reduceIte] at hx341_1)
      (try simp only [show (2 : Int).toNat = 2 from rfl, Nat.reduceMul, Nat.reduceEqDiff, Go.Addr.add, ↓reduceIte] at hx341_2)
      have qi341 : (2 < t336.length) = True := eq_true (by omega)
      (try rw [show ((2 : Int)).toNat = 2 from rfl] at hx341_0)
      (try rw [show 2 * 3 = 6 from rfl] at hx341_0)
      (try rw [show ((2 : Int)).toNat = 2 from rfl] at hx341_1)
      (try rw [show 2 * 3 = 6 from rfl] at hx341_1)
      (try rw [show ((2 : Int)).toNat = 2 from rfl] at hx341_2)
      (try rw [show 2 * 3 = 6 from rfl] at hx341_2)
      replace p341 := eq_true p341
      replace q341 := eq_true q341
      go_wp2
      go_meet
      case rel => exact ⟨_, (decide (((rd_T60 t336 2).f1) > 9007199254740991)), (by first | rfl | (simp; done) | (simp [*]; done)), H', ⟨by first | omega | exact Nat.le_refl _⟩, ⟨by (with_reducible repeat (first | apply Kd.R_alloc | apply Kd.R_drewN | apply Kd.R_drew)); exact HO339.out⟩, ⟨by (with_reducible repeat (first | refine blk_drewN ?_ _ | refine blk_drew ?_ | refine blk_alloc ?_ _)); exact BK335.out⟩, ⟨bw⟩⟩
     ·rw [if_neg c10] at H
      exact absurd H (by simp)
   ·rw [if_neg c7] at H
    exact absurd H (by simp)
  ·rw [if_neg c6] at H
   have c6b0 : (t337 == 0) = false := beq_eq_false_iff_ne.mpr c6
   have c6b1 : (t337 != 0) = true := bne_iff_ne.mpr c6
   (first | rw [c6b0] | (simp only [i64_w, i32_w]; rw [c6b0]) | skip)
   have H' := Aside0.mk H
   clear H
   go_wp2
   go_meet
   case rel => exact ⟨_, (true), (by first | rfl | (simp; done) | (simp [*]; done)), H', ⟨by first | omega | exact Nat.le_refl _⟩, ⟨by (with_reducible repeat (first | apply Kd.R_alloc | apply Kd.R_drewN | apply Kd.R_drew)); exact HO339.out⟩, ⟨by (with_reducible repeat (first | refine blk_drewN ?_ _ | refine blk_drew ?_ | refine blk_alloc ?_ _)); exact BK335.out⟩, ⟨bw⟩⟩
 case rest =>
  clear HC3
  try clear c1
  try clear p2
  try clear p3
  try clear q3
  try clear hx3
  try clear qi3
  try clear c4
  try clear c6
  try clear c6b0
  try clear c6b1
  try clear c7
  try clear c7b0
  try clear c7b1
  try clear c8
  try clear c8b0
  try clear c10
  try clear c10b0
  try clear c10b1
  try clear hx340_0
  try clear hx340_1
  try clear hx340_2
  try clear hx341_0
  try clear hx341_1
  try clear hx341_2
  try clear p340
  try clear p341
  try clear q340
  try clear q341
  obtain ⟨kq, x28_2, rfl, HA, HJ2, HO_4, BK335, HB⟩ := hcut
  cases kq with
  | zero => exact absurd HA.out (by simp [carillonref06_read.j0])
  | succ kj2 =>
   have H := HA.out
   clear HA
   simp only [carillonref06_read.j0] at H
   by_cases c12 : x28_2 = true
   ·subst c12
    have H1 : (some (0, (⟨#[]⟩ : ByteArray), 0, (⟨#[]⟩ : ByteArray), (⟨#[]⟩ : ByteArray), false)) = some (r1, r2, r3, r4, r5, r6) := by rw [if_pos rfl] at H; exact H
    clear H
    have H := H1
    clear H1
    simp only [Option.some.injEq, Prod.mk.injEq] at H
    obtain ⟨rfl, rfl, rfl, rfl, rfl, rfl⟩ := H
    have hcz13_0 := bc5_0 BK335.out
    have hcz13_1 := bc5_1 BK335.out
    have hcz13_2 := bc5_2 BK335.out
    have hcz13_3 := bc5_3 BK335.out
    have hcz13_4 := bc5_4 BK335.out
    have hfz13_0 := blk_frozen BK335.out 0
    have hfz13_1 := blk_frozen BK335.out 1
    have hfz13_2 := blk_frozen BK335.out 2
    have hfz13_3 := blk_frozen BK335.out 3
    have hfz13_4 := blk_frozen BK335.out 4
    go_wp2
    refine bodyPost_ret (results_ct rfl _ _ gb335 23 #[.int .i64 0, .string (⟨#[]⟩ : ByteArray), .int .i64 0, .string (⟨#[]⟩ : ByteArray), .string (⟨#[]⟩ : ByteArray)] (0, 0) _ rfl (by (with_reducible repeat (first | refine blk_drewN ?_ _ | refine blk_drew ?_ | refine blk_alloc ?_ _)); refine blk_put (cs := #[.int .i64 0, .string (⟨#[]⟩ : ByteArray), .int .i64 0, .string (⟨#[]⟩ : ByteArray), .string (⟨#[]⟩ : ByteArray)]) ?_ 4 _ rfl; (with_reducible repeat (first | refine blk_drewN ?_ _ | refine blk_drew ?_ | refine blk_alloc ?_ _)); refine blk_put (cs := #[.int .i64 0, .string (⟨#[]⟩ : ByteArray), .int .i64 0, .string (⟨#[]⟩ : ByteArray), .string (⟨#[]⟩ : ByteArray)]) ?_ 3 _ rfl; (with_reducible repeat (first | refine blk_drewN ?_ _ | refine blk_drew ?_ | refine blk_alloc ?_ _)); refine blk_put (cs := #[.int .i64 0, .string (⟨#[]⟩ : ByteArray), .int .i64 0, .string (⟨#[]⟩ : ByteArray), .string (⟨#[]⟩ : ByteArray)]) ?_ 2 _ rfl; (with_reducible repeat (first | refine blk_drewN ?_ _ | refine blk_drew ?_ | refine blk_alloc ?_ _)); refine blk_put (cs := #[.int .i64 0, .string (⟨#[]⟩ : ByteArray), .int .i64 0, .string (⟨#[]⟩ : ByteArray), .string (⟨#[]⟩ : ByteArray)]) ?_ 1 _ rfl; (with_reducible repeat (first | refine blk_drewN ?_ _ | refine blk_drew ?_ | refine blk_alloc ?_ _)); refine blk_put (cs := #[.int .i64 0, .string (⟨#[]⟩ : ByteArray), .int .i64 0, .string (⟨#[]⟩ : ByteArray), .string (⟨#[]⟩ : ByteArray)]) ?_ 0 _ rfl; (with_reducible repeat (first | refine blk_drewN ?_ _ | refine blk_drew ?_ | refine blk_alloc ?_ _)); exact BK335.out) Tryd.underlying23 rfl (by kernel_rfl)) rfl ?_
    exact ⟨er, bw⟩
   ·replace c12 := Bool.eq_false_iff.mpr c12
    subst c12
    have H1 : (if 0 < (t336.length : Int) then (if 1 < (t336.length : Int) then (if 2 < (t336.length : Int) then (if 3 < (t336.length : Int) then (if 4 < (t336.length : Int) then ((carillonref06_Right.f (wrap64 ((rd_T60 t336 0).f1)) ((rd_T60 t336 1).f2) (wrap64 ((rd_T60 t336 2).f1)) ((rd_T60 t336 3).f2) ((rd_T60 t336 4).f2)).bind fun t348 => (some (wrap64 ((rd_T60 t336 0).f1), (rd_T60 t336 1).f2, wrap64 ((rd_T60 t336 2).f1), (rd_T60 t336 3).f2, (rd_T60 t336 4).f2, t348))) else (none)) else (none)) else (none)) else (none)) else (none)) = some (r1, r2, r3, r4, r5, r6) := by rw [if_neg (show ¬ (false = true) by decide)] at H; exact H
    clear H
    have H := H1
    clear H1
    by_cases c14 : 0 < (t336.length : Int)
    ·rw [if_pos c14] at H
     have c14b0 : decide (0 < (t336.length : Int)) = true := decide_eq_true c14
     have c14b1 : decide (0 < t336.length) = true := decide_eq_true (by omega)
     clear c14
     by_cases c15 : 1 < (t336.length : Int)
     ·rw [if_pos c15] at H
      have c15b0 : decide (1 < (t336.length : Int)) = true := decide_eq_true c15
      have c15b1 : decide (1 < t336.length) = true := decide_eq_true (by omega)
      clear c15
      by_cases c16 : 2 < (t336.length : Int)
      ·rw [if_pos c16] at H
       have c16b0 : decide (2 < (t336.length : Int)) = true := decide_eq_true c16
       have c16b1 : decide (2 < t336.length) = true := decide_eq_true (by omega)
       clear c16
       by_cases c17 : 3 < (t336.length : Int)
       ·rw [if_pos c17] at H
        have c17b0 : decide (3 < (t336.length : Int)) = true := decide_eq_true c17
        have c17b1 : decide (3 < t336.length) = true := decide_eq_true (by omega)
        clear c17
        by_cases c18 : 4 < (t336.length : Int)
        ·rw [if_pos c18] at H
         have c18b0 : decide (4 < (t336.length : Int)) = true := decide_eq_true c18
         have c18b1 : decide (4 < t336.length) = true := decide_eq_true (by omega)
         clear c18
         replace H := Option.bind_eq_some_iff.mp H
         obtain ⟨t348, A190, H⟩ := H
         replace H : (some (wrap64 ((rd_T60 t336 0).f1), (rd_T60 t336 1).f2, wrap64 ((rd_T60 t336 2).f1), (rd_T60 t336 3).f2, (rd_T60 t336 4).f2, t348)) = some (r1, r2, r3, r4, r5, r6) := H
         have A19 := Aside0.mk A190
         clear A190
         simp only [Option.some.injEq, Prod.mk.injEq] at H
         obtain ⟨rfl, rfl, rfl, rfl, rfl, rfl⟩ := H
         try go_wp2
         have n0_ := Aside0.mk (Kd.R_drew HO_4.out)
         have n1_ := Aside0.mk (blk_drew BK335.out)
         have n2_ := Aside0.mk (below_drew1 HB.out)
         clear HO_4
         clear BK335
         clear HB
         have HO_4 := n0_
         have BK335 := n1_
         have HB := n2_
         clear n0_ n1_ n2_
         obtain ⟨Ao21, co21, eo21⟩ := Kd.R_slice HO_4.out
         (first | subst eo21 | (injection eo21 with f1_ f2_ f3_; have f4_ := f1_.symm; have f5_ := f3_.symm; clear f1_ f2_ f3_; subst f4_; subst f5_))
         have p342 : 0 ≤ (0 : Int) := (by omega)
         have q342 : 0 < (t336.length : Int) := of_decide_eq_true (by first | (with_reducible assumption) | assumption)
         obtain ⟨ad342, e342, hx342_0, hx342_1, hx342_2⟩ := at_T60 (Kd.R_reads' HO_4.out).2.2 0 p342 q342
         cases e342
         have qi342 : (0 < t336.length) = True := eq_true (by omega)
         (try rw [show ((0 : Int)).toNat = 0 from rfl] at hx342_0)
         (try rw [show 0 * 3 = 0 from rfl] at hx342_0)
         (try rw [Addr.add_zero'] at hx342_0)
         (try rw [show ((0 : Int)).toNat = 0 from rfl] at hx342_1)
         (try rw [show 0 * 3 = 0 from rfl] at hx342_1)
         (try rw [Addr.add_zero'] at hx342_1)
         (try rw [show ((0 : Int)).toNat = 0 from rfl] at hx342_2)
         (try rw [show 0 * 3 = 0 from rfl] at hx342_2)
         (try rw [Addr.add_zero'] at hx342_2)
         replace p342 := eq_true p342
         replace q342 := eq_true q342
         have p343 : 0 ≤ (1 : Int) := (by omega)
         have q343 : 1 < (t336.length : Int) := of_decide_eq_true (by first | (with_reducible assumption) | assumption)
         obtain ⟨ad343, e343, hx343_0, hx343_1, hx343_2⟩ := at_T60 (Kd.R_reads' HO_4.out).2.2 1 p343 q343
         obtain rfl : ad342 = ad343 := (by injection e343)
         (try simp only [show (1 : Int).toNat = 1 from rfl, Nat.reduceMul, Nat.reduceEqDiff, Go.Addr.add, ↓reduceIte] at hx343_0)
         (try simp only [show (1 : Int).toNat = 1 from rfl, Nat.reduceMul, Nat.reduceEqDiff, Go.Addr.add, ↓reduceIte] at hx343_1)
         (try simp only [show (1 : Int).toNat = 1 from rfl, Nat.reduceMul, Nat.reduceEqDiff, Go.Addr.add, ↓reduceIte] at hx343_2)
         have qi343 : (1 < t336.length) = True := eq_true (by omega)
         (try rw [show ((1 : Int)).toNat = 1 from rfl] at hx343_0)
         (try rw [show 1 * 3 = 3 from rfl] at hx343_0)
         (try rw [show ((1 : Int)).toNat = 1 from rfl] at hx343_1)
         (try rw [show 1 * 3 = 3 from rfl] at hx343_1)
         (try rw [show ((1 : Int)).toNat = 1 from rfl] at hx343_2)
         (try rw [show 1 * 3 = 3 from rfl] at hx343_2)
         replace p343 := eq_true p343
         replace q343 := eq_true q343
         have p344 : 0 ≤ (2 : Int) := (by omega)
         have q344 : 2 < (t336.length : Int) := of_decide_eq_true (by first | (with_reducible assumption) | assumption)
         obtain ⟨ad344, e344, hx344_0, hx344_1, hx344_2⟩ := at_T60 (Kd.R_reads' HO_4.out).2.2 2 p344 q344
         obtain rfl : ad342 = ad344 := (by injection e344)
         (try simp only [show (2 : Int).toNat = 2 from rfl, Nat.reduceMul, Nat.reduceEqDiff, Go.Addr.add, ↓reduceIte] at hx344_0)
         (try simp only [show (2 : Int).toNat = 2 from rfl, Nat.reduceMul, Nat.reduceEqDiff, Go.Addr.add, ↓reduceIte] at hx344_1)
         (try simp only [show (2 : Int).toNat = 2 from rfl, Nat.reduceMul, Nat.reduceEqDiff, Go.Addr.add, ↓reduceIte] at hx344_2)
         have qi344 : (2 < t336.length) = True := eq_true (by omega)
         (try rw [show ((2 : Int)).toNat = 2 from rfl] at hx344_0)
         (try rw [show 2 * 3 = 6 from rfl] at hx344_0)
         (try rw [show ((2 : Int)).toNat = 2 from rfl] at hx344_1)
         (try rw [show 2 * 3 = 6 from rfl] at hx344_1)
         (try rw [show ((2 : Int)).toNat = 2 from rfl] at hx344_2)
         (try rw [show 2 * 3 = 6 from rfl] at hx344_2)
         replace p344 := eq_true p344
         replace q344 := eq_true q344
         have p345 : 0 ≤ (3 : Int) := (by omega)
         have q345 : 3 < (t336.length : Int) := of_decide_eq_true (by first | (with_reducible assumption) | assumption)
         obtain ⟨ad345, e345, hx345_0, hx345_1, hx345_2⟩ := at_T60 (Kd.R_reads' HO_4.out).2.2 3 p345 q345
         obtain rfl : ad342 = ad345 := (by injection e345)
         (try simp only [show (3 : Int).toNat = 3 from rfl, Nat.reduceMul, Nat.reduceEqDiff, Go.Addr.add, ↓reduceIte] at hx345_0)
         (try simp only [show (3 : Int).toNat = 3 from rfl, Nat.reduceMul, Nat.reduceEqDiff, Go.Addr.add, ↓reduceIte] at hx345_1)
         (try simp only [show (3 : Int).toNat = 3 from rfl, Nat.reduceMul, Nat.reduceEqDiff, Go.Addr.add, ↓reduceIte] at hx345_2)
         have qi345 : (3 < t336.length) = True := eq_true (by omega)
         (try rw [show ((3 : Int)).toNat = 3 from rfl] at hx345_0)
         (try rw [show 3 * 3 = 9 from rfl] at hx345_0)
         (try rw [show ((3 : Int)).toNat = 3 from rfl] at hx345_1)
         (try rw [show 3 * 3 = 9 from rfl] at hx345_1)
         (try rw [show ((3 : Int)).toNat = 3 from rfl] at hx345_2)
         (try rw [show 3 * 3 = 9 from rfl] at hx345_2)
         replace p345 := eq_true p345
         replace q345 := eq_true q345
         have p346 : 0 ≤ (4 : Int) := (by omega)
         have q346 : 4 < (t336.length : Int) := of_decide_eq_true (by first | (with_reducible assumption) | assumption)
         obtain ⟨ad346, e346, hx346_0, hx346_1, hx346_2⟩ := at_T60 (Kd.R_reads' HO_4.out).2.2 4 p346 q346
         obtain rfl : ad342 = ad346 := (by injection e346)
         (try simp only [show (4 : Int).toNat = 4 from rfl, Nat.reduceMul, Nat.reduceEqDiff, Go.Addr.add, ↓reduceIte] at hx346_0)
         (try simp only [show (4 : Int).toNat = 4 from rfl, Nat.reduceMul, Nat.reduceEqDiff, Go.Addr.add, ↓reduceIte] at hx346_1)
         (try simp only [show (4 : Int).toNat = 4 from rfl, Nat.reduceMul, Nat.reduceEqDiff, Go.Addr.add, ↓reduceIte] at hx346_2)
         have qi346 : (4 < t336.length) = True := eq_true (by omega)
         (try rw [show ((4 : Int)).toNat = 4 from rfl] at hx346_0)
         (try rw [show 4 * 3 = 12 from rfl] at hx346_0)
         (try rw [show ((4 : Int)).toNat = 4 from rfl] at hx346_1)
         (try rw [show 4 * 3 = 12 from rfl] at hx346_1)
         (try rw [show ((4 : Int)).toNat = 4 from rfl] at hx346_2)
         (try rw [show 4 * 3 = 12 from rfl] at hx346_2)
         replace p346 := eq_true p346
         replace q346 := eq_true q346
         refine start_ (n := 25) (S := fun w' => w'.cell? ad342 = some (.int .i64 ((rd_T60 t336 0).f0)) ∧ w'.cell? ⟨ad342.block, ad342.off + 1, none⟩ = some (.int .u64 ((rd_T60 t336 0).f1)) ∧ w'.cell? ⟨ad342.block, ad342.off + 2, none⟩ = some (.string ((rd_T60 t336 0).f2)) ∧ w'.cell? ⟨ad342.block, ad342.off + 3, none⟩ = some (.int .i64 ((rd_T60 t336 1).f0)) ∧ w'.cell? ⟨ad342.block, ad342.off + 3 + 1, none⟩ = some (.int .u64 ((rd_T60 t336 1).f1)) ∧ w'.cell? ⟨ad342.block, ad342.off + 3 + 2, none⟩ = some (.string ((rd_T60 t336 1).f2)) ∧ w'.cell? ⟨ad342.block, ad342.off + 6, none⟩ = some (.int .i64 ((rd_T60 t336 2).f0)) ∧ w'.cell? ⟨ad342.block, ad342.off + 6 + 1, none⟩ = some (.int .u64 ((rd_T60 t336 2).f1)) ∧ w'.cell? ⟨ad342.block, ad342.off + 6 + 2, none⟩ = some (.string ((rd_T60 t336 2).f2)) ∧ w'.cell? ⟨ad342.block, ad342.off + 9, none⟩ = some (.int .i64 ((rd_T60 t336 3).f0)) ∧ w'.cell? ⟨ad342.block, ad342.off + 9 + 1, none⟩ = some (.int .u64 ((rd_T60 t336 3).f1)) ∧ w'.cell? ⟨ad342.block, ad342.off + 9 + 2, none⟩ = some (.string ((rd_T60 t336 3).f2)) ∧ w'.cell? ⟨ad342.block, ad342.off + 12, none⟩ = some (.int .i64 ((rd_T60 t336 4).f0)) ∧ w'.cell? ⟨ad342.block, ad342.off + 12 + 1, none⟩ = some (.int .u64 ((rd_T60 t336 4).f1)) ∧ w'.cell? ⟨ad342.block, ad342.off + 12 + 2, none⟩ = some (.string ((rd_T60 t336 4).f2))) (ds := []) #[false, false, false, false, false, false, false, false, false, false, false, false, false, false, false, false, false, false, false, false, false, false, false, false, false] (by kernel_rfl) rfl rfl ⟨hx342_0, hx342_1, hx342_2, hx343_0, hx343_1, hx343_2, hx344_0, hx344_1, hx344_2, hx345_0, hx345_1, hx345_2, hx346_0, hx346_1, hx346_2⟩ (fun hHeld => ?_); refine with_tabW carillonref06_read.tab4 carillonref06_read.bits4 (fun HT_ HW_ => ?_)
         generalize wc.drew = w20 at HO_4 BK335 HB hx342_0 hx342_1 hx342_2 hx343_0 hx343_1 hx343_2 hx344_0 hx344_1 hx344_2 hx345_0 hx345_1 hx345_2 hx346_0 hx346_1 hx346_2 hHeld ⊢
         refine pure_ (i := 0) (N := some 30) (v := ?_) (a' := ?_) #[true, false, false, false, false, false, false, false, false, false, false, false, false, false, false, false, false, false, false, false, false, false, false, false, false] rfl rfl (any_of HT_.out (by kernel_rfl)) (fun _ _ _ h => h) (Or.inl ⟨by rfl, ?_⟩) ?_ ?_
         rotate_left
         ·intro w'
          go_simp
          with_reducible rfl
         rotate_left
         ·simp only [Act.put, sl1, sl2, sl3, i64_w, i32_w]
          rfl
         refine pure_ (i := 1) (N := some 31) (v := ?_) (a' := ?_) #[true, true, false, false, false, false, false, false, false, false, false, false, false, false, false, false, false, false, false, false, false, false, false, false, false] rfl rfl (any_of HT_.out (by kernel_rfl)) (fun _ _ _ h => h) (Or.inl ⟨by rfl, ?_⟩) ?_ ?_
         rotate_left
         ·intro w'
          go_simp
          with_reducible rfl
         rotate_left
         ·simp only [Act.put, sl1, sl2, sl3, i64_w, i32_w]
          rfl
         refine pure_ (i := 2) (N := some 32) (v := ?_) (a' := ?_) #[true, true, true, false, false, false, false, false, false, false, false, false, false, false, false, false, false, false, false, false, false, false, false, false, false] rfl rfl (any_of HT_.out (by kernel_rfl)) (fun _ _ _ h => h) (Or.inl ⟨by rfl, ?_⟩) ?_ ?_
         rotate_left
         ·intro w'
          go_simp
          with_reducible rfl
         rotate_left
         ·simp only [Act.put, sl1, sl2, sl3, i64_w, i32_w]
          rfl
         refine pure_ (i := 5) (N := some 35) (v := ?_) (a' := ?_) #[true, true, true, false, false, true, false, false, false, false, false, false, false, false, false, false, false, false, false, false, false, false, false, false, false] rfl rfl (any_of HT_.out (by kernel_rfl)) (fun _ _ _ h => h) (Or.inl ⟨by rfl, ?_⟩) ?_ ?_
         rotate_left
         ·intro w'
          go_simp
          with_reducible rfl
         rotate_left
         ·simp only [Act.put, sl1, sl2, sl3, i64_w, i32_w]
          rfl
         refine pure_ (i := 6) (N := some 36) (v := ?_) (a' := ?_) #[true, true, true, false, false, true, true, false, false, false, false, false, false, false, false, false, false, false, false, false, false, false, false, false, false] rfl rfl (any_of HT_.out (by kernel_rfl)) (fun _ _ _ h => h) (Or.inl ⟨by rfl, ?_⟩) ?_ ?_
         rotate_left
         ·intro w'
          go_simp
          with_reducible rfl
         rotate_left
         ·simp only [Act.put, sl1, sl2, sl3, i64_w, i32_w]
          rfl
         refine pure_ (i := 7) (N := some 37) (v := ?_) (a' := ?_) #[true, true, true, false, false, true, true, true, false, false, false, false, false, false, false, false, false, false, false, false, false, false, false, false, false] rfl rfl (any_of HT_.out (by kernel_rfl)) (fun _ _ _ h => h) (Or.inl ⟨by rfl, ?_⟩) ?_ ?_
         rotate_left
         ·intro w'
          go_simp
          with_reducible rfl
         rotate_left
         ·simp only [Act.put, sl1, sl2, sl3, i64_w, i32_w]
          rfl
         refine pure_ (i := 9) (N := some 39) (v := ?_) (a' := ?_) #[true, true, true, false, false, true, true, true, false, true, false, false, false, false, false, false, false, false, false, false, false, false, false, false, false] rfl rfl (any_of HT_.out (by kernel_rfl)) (fun _ _ _ h => h) (Or.inl ⟨by rfl, ?_⟩) ?_ ?_
         rotate_left
         ·intro w'
          go_simp
          with_reducible rfl
         rotate_left
         ·simp only [Act.put, sl1, sl2, sl3, i64_w, i32_w]
          rfl
         refine pure_ (i := 10) (N := some 40) (v := ?_) (a' := ?_) #[true, true, true, false, false, true, true, true, false, true, true, false, false, false, false, false, false, false, false, false, false, false, false, false, false] rfl rfl (any_of HT_.out (by kernel_rfl)) (fun _ _ _ h => h) (Or.inl ⟨by rfl, ?_⟩) ?_ ?_
         rotate_left
         ·intro w'
          go_simp
          with_reducible rfl
         rotate_left
         ·simp only [Act.put, sl1, sl2, sl3, i64_w, i32_w]
          rfl
         refine pure_ (i := 11) (N := some 41) (v := ?_) (a' := ?_) #[true, true, true, false, false, true, true, true, false, true, true, true, false, false, false, false, false, false, false, false, false, false, false, false, false] rfl rfl (any_of HT_.out (by kernel_rfl)) (fun _ _ _ h => h) (Or.inl ⟨by rfl, ?_⟩) ?_ ?_
         rotate_left
         ·intro w'
          go_simp
          with_reducible rfl
         rotate_left
         ·simp only [Act.put, sl1, sl2, sl3, i64_w, i32_w]
          rfl
         refine pure_ (i := 14) (N := some 44) (v := ?_) (a' := ?_) #[true, true, true, false, false, true, true, true, false, true, true, true, false, false, true, false, false, false, false, false, false, false, false, false, false] rfl rfl (any_of HT_.out (by kernel_rfl)) (fun _ _ _ h => h) (Or.inl ⟨by rfl, ?_⟩) ?_ ?_
         rotate_left
         ·intro w'
          go_simp
          with_reducible rfl
         rotate_left
         ·simp only [Act.put, sl1, sl2, sl3, i64_w, i32_w]
          rfl
         refine pure_ (i := 15) (N := some 45) (v := ?_) (a' := ?_) #[true, true, true, false, false, true, true, true, false, true, true, true, false, false, true, true, false, false, false, false, false, false, false, false, false] rfl rfl (any_of HT_.out (by kernel_rfl)) (fun _ _ _ h => h) (Or.inl ⟨by rfl, ?_⟩) ?_ ?_
         rotate_left
         ·intro w'
          go_simp
          with_reducible rfl
         rotate_left
         ·simp only [Act.put, sl1, sl2, sl3, i64_w, i32_w]
          rfl
         refine pure_ (i := 16) (N := some 46) (v := ?_) (a' := ?_) #[true, true, true, false, false, true, true, true, false, true, true, true, false, false, true, true, true, false, false, false, false, false, false, false, false] rfl rfl (any_of HT_.out (by kernel_rfl)) (fun _ _ _ h => h) (Or.inl ⟨by rfl, ?_⟩) ?_ ?_
         rotate_left
         ·intro w'
          go_simp
          with_reducible rfl
         rotate_left
         ·simp only [Act.put, sl1, sl2, sl3, i64_w, i32_w]
          rfl
         refine pure_ (i := 18) (N := some 48) (v := ?_) (a' := ?_) #[true, true, true, false, false, true, true, true, false, true, true, true, false, false, true, true, true, false, true, false, false, false, false, false, false] rfl rfl (any_of HT_.out (by kernel_rfl)) (fun _ _ _ h => h) (Or.inl ⟨by rfl, ?_⟩) ?_ ?_
         rotate_left
         ·intro w'
          go_simp
          with_reducible rfl
         rotate_left
         ·simp only [Act.put, sl1, sl2, sl3, i64_w, i32_w]
          rfl
         refine pure_ (i := 19) (N := some 49) (v := ?_) (a' := ?_) #[true, true, true, false, false, true, true, true, false, true, true, true, false, false, true, true, true, false, true, true, false, false, false, false, false] rfl rfl (any_of HT_.out (by kernel_rfl)) (fun _ _ _ h => h) (Or.inl ⟨by rfl, ?_⟩) ?_ ?_
         rotate_left
         ·intro w'
          go_simp
          with_reducible rfl
         rotate_left
         ·simp only [Act.put, sl1, sl2, sl3, i64_w, i32_w]
          rfl
         refine pure_ (i := 20) (N := some 50) (v := ?_) (a' := ?_) #[true, true, true, false, false, true, true, true, false, true, true, true, false, false, true, true, true, false, true, true, true, false, false, false, false] rfl rfl (any_of HT_.out (by kernel_rfl)) (fun _ _ _ h => h) (Or.inl ⟨by rfl, ?_⟩) ?_ ?_
         rotate_left
         ·intro w'
          go_simp
          with_reducible rfl
         rotate_left
         ·simp only [Act.put, sl1, sl2, sl3, i64_w, i32_w]
          rfl
         refine take_ (i := 3) (N := some 33) (v := ?_) (a' := ?_) #[true, true, true, true, false, true, true, true, false, true, true, true, false, false, true, true, true, false, true, true, true, false, false, false, false] rfl rfl (take_ofW HT_.out HW_.out (by kernel_rfl)) (fun _ _ _ h => h) (Or.inl ⟨by rfl, ?_⟩) hHeld ?_ ?_
         rotate_left
         ·rintro w' ⟨s0, s1, s2, s3, s4, s5, s6, s7, s8, s9, s10, s11, s12, s13, s14⟩
          go_simp
          with_reducible rfl
         rotate_left
         ·simp only [Act.put, sl1, sl2, sl3, i64_w, i32_w]
          rfl
         refine pure_ (i := 4) (N := some 34) (v := ?_) (a' := ?_) #[true, true, true, true, true, true, true, true, false, true, true, true, false, false, true, true, true, false, true, true, true, false, false, false, false] rfl rfl (any_of HT_.out (by kernel_rfl)) (fun _ _ _ h => h) (Or.inl ⟨by rfl, ?_⟩) ?_ ?_
         rotate_left
         ·intro w'
          go_simp
          with_reducible rfl
         rotate_left
         ·simp only [Act.put, sl1, sl2, sl3, i64_w, i32_w]
          rfl
         refine take_ (i := 8) (N := some 38) (v := ?_) (a' := ?_) #[true, true, true, true, true, true, true, true, true, true, true, true, false, false, true, true, true, false, true, true, true, false, false, false, false] rfl rfl (take_ofW HT_.out HW_.out (by kernel_rfl)) (fun _ _ _ h => h) (Or.inl ⟨by rfl, ?_⟩) hHeld ?_ ?_
         rotate_left
         ·rintro w' ⟨s0, s1, s2, s3, s4, s5, s6, s7, s8, s9, s10, s11, s12, s13, s14⟩
          go_simp
          with_reducible rfl
         rotate_left
         ·simp only [Act.put, sl1, sl2, sl3, i64_w, i32_w]
          rfl
         refine take_ (i := 12) (N := some 42) (v := ?_) (a' := ?_) #[true, true, true, true, true, true, true, true, true, true, true, true, true, false, true, true, true, false, true, true, true, false, false, false, false] rfl rfl (take_ofW HT_.out HW_.out (by kernel_rfl)) (fun _ _ _ h => h) (Or.inl ⟨by rfl, ?_⟩) hHeld ?_ ?_
         rotate_left
         ·rintro w' ⟨s0, s1, s2, s3, s4, s5, s6, s7, s8, s9, s10, s11, s12, s13, s14⟩
          go_simp
          with_reducible rfl
         rotate_left
         ·simp only [Act.put, sl1, sl2, sl3, i64_w, i32_w]
          rfl
         refine pure_ (i := 13) (N := some 43) (v := ?_) (a' := ?_) #[true, true, true, true, true, true, true, true, true, true, true, true, true, true, true, true, true, false, true, true, true, false, false, false, false] rfl rfl (any_of HT_.out (by kernel_rfl)) (fun _ _ _ h => h) (Or.inl ⟨by rfl, ?_⟩) ?_ ?_
         rotate_left
         ·intro w'
          go_simp
          with_reducible rfl
         rotate_left
         ·simp only [Act.put, sl1, sl2, sl3, i64_w, i32_w]
          rfl
         refine take_ (i := 17) (N := some 47) (v := ?_) (a' := ?_) #[true, true, true, true, true, true, true, true, true, true, true, true, true, true, true, true, true, true, true, true, true, false, false, false, false] rfl rfl (take_ofW HT_.out HW_.out (by kernel_rfl)) (fun _ _ _ h => h) (Or.inl ⟨by rfl, ?_⟩) hHeld ?_ ?_
         rotate_left
         ·rintro w' ⟨s0, s1, s2, s3, s4, s5, s6, s7, s8, s9, s10, s11, s12, s13, s14⟩
          go_simp
          with_reducible rfl
         rotate_left
         ·simp only [Act.put, sl1, sl2, sl3, i64_w, i32_w]
          rfl
         refine take_ (i := 21) (N := some 51) (v := ?_) (a' := ?_) #[true, true, true, true, true, true, true, true, true, true, true, true, true, true, true, true, true, true, true, true, true, true, false, false, false] rfl rfl (take_ofW HT_.out HW_.out (by kernel_rfl)) (fun _ _ _ h => h) (Or.inl ⟨by rfl, ?_⟩) hHeld ?_ ?_
         rotate_left
         ·rintro w' ⟨s0, s1, s2, s3, s4, s5, s6, s7, s8, s9, s10, s11, s12, s13, s14⟩
          go_simp
          with_reducible rfl
         rotate_left
         ·simp only [Act.put, sl1, sl2, sl3, i64_w, i32_w]
          rfl
         refine pure_ (i := 22) (N := some 52) (v := ?_) (a' := ?_) #[true, true, true, true, true, true, true, true, true, true, true, true, true, true, true, true, true, true, true, true, true, true, true, false, false] rfl rfl (any_of HT_.out (by kernel_rfl)) (fun _ _ _ h => h) (Or.inl ⟨by rfl, ?_⟩) ?_ ?_
         rotate_left
         ·intro w'
          go_simp
          with_reducible rfl
         rotate_left
         ·simp only [Act.put, sl1, sl2, sl3, i64_w, i32_w]
          rfl
         refine one_ (i := 23) (N := some 6) #[true, true, true, true, true, true, true, true, true, true, true, true, true, true, true, true, true, true, true, true, true, true, true, true, false] rfl rfl (one_of HT_.out (by kernel_rfl)) (by decide) (fun K hK => ?_)
         refine box_step ?hg (N := 6) ?hd (cs := #[.int .i64 0, .string (⟨#[]⟩ : ByteArray), .int .i64 0, .string (⟨#[]⟩ : ByteArray), .string (⟨#[]⟩ : ByteArray)]) (t := 23) ?hr ?_; (case hd => rfl); (case hg => rfl); (case hr => first | (go_simp; done) | (go_simp; rfl))
         intro gb347 hg w22 hbox hb
         have HS0_ := (hb.cell (World.block_lt_of_cell? _ _ (hHeld.1))).trans (hHeld.1)
         have HS1_ := (hb.cell (World.block_lt_of_cell? _ _ (hHeld.2.1))).trans (hHeld.2.1)
         have HS2_ := (hb.cell (World.block_lt_of_cell? _ _ (hHeld.2.2.1))).trans (hHeld.2.2.1)
         have HS3_ := (hb.cell (World.block_lt_of_cell? _ _ (hHeld.2.2.2.1))).trans (hHeld.2.2.2.1)
         have HS4_ := (hb.cell (World.block_lt_of_cell? _ _ (hHeld.2.2.2.2.1))).trans (hHeld.2.2.2.2.1)
         have HS5_ := (hb.cell (World.block_lt_of_cell? _ _ (hHeld.2.2.2.2.2.1))).trans (hHeld.2.2.2.2.2.1)
         have HS6_ := (hb.cell (World.block_lt_of_cell? _ _ (hHeld.2.2.2.2.2.2.1))).trans (hHeld.2.2.2.2.2.2.1)
         have HS7_ := (hb.cell (World.block_lt_of_cell? _ _ (hHeld.2.2.2.2.2.2.2.1))).trans (hHeld.2.2.2.2.2.2.2.1)
         have HS8_ := (hb.cell (World.block_lt_of_cell? _ _ (hHeld.2.2.2.2.2.2.2.2.1))).trans (hHeld.2.2.2.2.2.2.2.2.1)
         have HS9_ := (hb.cell (World.block_lt_of_cell? _ _ (hHeld.2.2.2.2.2.2.2.2.2.1))).trans (hHeld.2.2.2.2.2.2.2.2.2.1)
         have HS10_ := (hb.cell (World.block_lt_of_cell? _ _ (hHeld.2.2.2.2.2.2.2.2.2.2.1))).trans (hHeld.2.2.2.2.2.2.2.2.2.2.1)
         have HS11_ := (hb.cell (World.block_lt_of_cell? _ _ (hHeld.2.2.2.2.2.2.2.2.2.2.2.1))).trans (hHeld.2.2.2.2.2.2.2.2.2.2.2.1)
         have HS12_ := (hb.cell (World.block_lt_of_cell? _ _ (hHeld.2.2.2.2.2.2.2.2.2.2.2.2.1))).trans (hHeld.2.2.2.2.2.2.2.2.2.2.2.2.1)
         have HS13_ := (hb.cell (World.block_lt_of_cell? _ _ (hHeld.2.2.2.2.2.2.2.2.2.2.2.2.2.1))).trans (hHeld.2.2.2.2.2.2.2.2.2.2.2.2.2.1)
         have HS14_ := (hb.cell (World.block_lt_of_cell? _ _ (hHeld.2.2.2.2.2.2.2.2.2.2.2.2.2.2))).trans (hHeld.2.2.2.2.2.2.2.2.2.2.2.2.2.2)
         have n0_ := Aside0.mk (Kd.R_below (by (with_reducible repeat (first | apply Kd.R_alloc | apply Kd.R_drewN | apply Kd.R_drew)); exact HO_4.out) hb)
         have n1_ := Aside0.mk (nb BK335.out hb)
         have n2_ := Aside0.mk (below_step bw hb)
         have n3_ := Aside0.mk (hbox)
         have n4_ := Aside0.mk ((g1 hg bw : w.heap.size ≤ gb347))
         have n5_ := Aside0.mk ((g1 hg bw : w.heap.size ≤ gb347))
         have n6_ := Aside0.mk ((n1 hg BK335.out : gb335 ≠ gb347))
         have n7_ := Aside0.mk ((n2 hg BK335.out : gb347 ≠ gb335))
         clear HO_4
         clear BK335
         clear HB
         have HO_4 := n0_
         have BK335 := n1_
         have HB := n2_
         have BK347 := n3_
         have GW347 := n4_
         have GE347 := n5_
         have NB335_347 := n6_
         have NB347_335 := n7_
         clear n0_ n1_ n2_ n3_ n4_ n5_ n6_ n7_
         clear hb hbox hg
         refine hK.out _ _ ⟨HS0_, HS1_, HS2_, HS3_, HS4_, HS5_, HS6_, HS7_, HS8_, HS9_, HS10_, HS11_, HS12_, HS13_, HS14_⟩ (fun hHeld => ?_)
         clear hK K
         refine norm_ (a' := ?_) ?_ ?_
         rotate_left
         ·show Act.put _ (some 6) _ = _
          simp only [Act.put, sl1, sl2, sl3, i64_w, i32_w]
          rfl
         refine one_ (i := 24) (N := none) #[true, true, true, true, true, true, true, true, true, true, true, true, true, true, true, true, true, true, true, true, true, true, true, true, true] rfl rfl (one_of HT_.out (by kernel_rfl)) (by decide) (fun K hK => ?_)
         have hs23 : w22.cell? ⟨gb347, 0, none⟩ = some (.int .i64 0) := (blk_cell BK347.out 0).trans rfl
         have hfs23 := blk_frozen BK347.out 0
         have hns23_0 := NB335_347.out
         have hms23_0 := NB347_335.out
         have hs24 : w22.cell? ⟨gb347, 1, none⟩ = some (.string (⟨#[]⟩ : ByteArray)) := (blk_cell BK347.out 1).trans rfl
         have hfs24 := blk_frozen BK347.out 1
         have hns24_0 := NB335_347.out
         have hms24_0 := NB347_335.out
         have hs25 : w22.cell? ⟨gb347, 2, none⟩ = some (.int .i64 0) := (blk_cell BK347.out 2).trans rfl
         have hfs25 := blk_frozen BK347.out 2
         have hns25_0 := NB335_347.out
         have hms25_0 := NB347_335.out
         have hs26 : w22.cell? ⟨gb347, 3, none⟩ = some (.string (⟨#[]⟩ : ByteArray)) := (blk_cell BK347.out 3).trans rfl
         have hfs26 := blk_frozen BK347.out 3
         have hns26_0 := NB335_347.out
         have hms26_0 := NB347_335.out
         have hs27 : w22.cell? ⟨gb347, 4, none⟩ = some (.string (⟨#[]⟩ : ByteArray)) := (blk_cell BK347.out 4).trans rfl
         have hfs27 := blk_frozen BK347.out 4
         have hns27_0 := NB335_347.out
         have hms27_0 := NB347_335.out
         refine skip_ (w1 := ?_) (by rfl) rfl ?_ ?_
         rotate_left
         ·go_simp
          rfl
         refine hK.out _ _ ⟨((cf (p := ⟨gb347, _, none⟩) (Kd.own_blk (Kd.R_ne HO_4.out BK347.out (by decide)))).trans (((cf (p := ⟨gb347, _, none⟩) (Kd.own_blk (Kd.R_ne HO_4.out BK347.out (by decide)))).trans (((cf (p := ⟨gb347, _, none⟩) (Kd.own_blk (Kd.R_ne HO_4.out BK347.out (by decide)))).trans (((cf (p := ⟨gb347, _, none⟩) (Kd.own_blk (Kd.R_ne HO_4.out BK347.out (by decide)))).trans (((cf (p := ⟨gb347, _, none⟩) (Kd.own_blk (Kd.R_ne HO_4.out BK347.out (by decide)))).trans (hHeld.1)))))))))), ((cf (p := ⟨gb347, _, none⟩) (Kd.own_blk (Kd.R_ne HO_4.out BK347.out (by decide)))).trans (((cf (p := ⟨gb347, _, none⟩) (Kd.own_blk (Kd.R_ne HO_4.out BK347.out (by decide)))).trans (((cf (p := ⟨gb347, _, none⟩) (Kd.own_blk (Kd.R_ne HO_4.out BK347.out (by decide)))).trans (((cf (p := ⟨gb347, _, none⟩) (Kd.own_blk (Kd.R_ne HO_4.out BK347.out (by decide)))).trans (((cf (p := ⟨gb347, _, none⟩) (Kd.own_blk (Kd.R_ne HO_4.out BK347.out (by decide)))).trans (hHeld.2.1)))))))))), ((cf (p := ⟨gb347, _, none⟩) (Kd.own_blk (Kd.R_ne HO_4.out BK347.out (by decide)))).trans (((cf (p := ⟨gb347, _, none⟩) (Kd.own_blk (Kd.R_ne HO_4.out BK347.out (by decide)))).trans (((cf (p := ⟨gb347, _, none⟩) (Kd.own_blk (Kd.R_ne HO_4.out BK347.out (by decide)))).trans (((cf (p := ⟨gb347, _, none⟩) (Kd.own_blk (Kd.R_ne HO_4.out BK347.out (by decide)))).trans (((cf (p := ⟨gb347, _, none⟩) (Kd.own_blk (Kd.R_ne HO_4.out BK347.out (by decide)))).trans (hHeld.2.2.1)))))))))), ((cf (p := ⟨gb347, _, none⟩) (Kd.own_blk (Kd.R_ne HO_4.out BK347.out (by decide)))).trans (((cf (p := ⟨gb347, _, none⟩) (Kd.own_blk (Kd.R_ne HO_4.out BK347.out (by decide)))).trans (((cf (p := ⟨gb347, _, none⟩) (Kd.own_blk (Kd.R_ne HO_4.out BK347.out (by decide)))).trans (((cf (p := ⟨gb347, _, none⟩) (Kd.own_blk (Kd.R_ne HO_4.out BK347.out (by decide)))).trans (((cf (p := ⟨gb347, _, none⟩) (Kd.own_blk (Kd.R_ne HO_4.out BK347.out (by decide)))).trans (hHeld.2.2.2.1)))))))))), ((cf (p := ⟨gb347, _, none⟩) (Kd.own_blk (Kd.R_ne HO_4.out BK347.out (by decide)))).trans (((cf (p := ⟨gb347, _, none⟩) (Kd.own_blk (Kd.R_ne HO_4.out BK347.out (by decide)))).trans (((cf (p := ⟨gb347, _, none⟩) (Kd.own_blk (Kd.R_ne HO_4.out BK347.out (by decide)))).trans (((cf (p := ⟨gb347, _, none⟩) (Kd.own_blk (Kd.R_ne HO_4.out BK347.out (by decide)))).trans (((cf (p := ⟨gb347, _, none⟩) (Kd.own_blk (Kd.R_ne HO_4.out BK347.out (by decide)))).trans (hHeld.2.2.2.2.1)))))))))), ((cf (p := ⟨gb347, _, none⟩) (Kd.own_blk (Kd.R_ne HO_4.out BK347.out (by decide)))).trans (((cf (p := ⟨gb347, _, none⟩) (Kd.own_blk (Kd.R_ne HO_4.out BK347.out (by decide)))).trans (((cf (p := ⟨gb347, _, none⟩) (Kd.own_blk (Kd.R_ne HO_4.out BK347.out (by decide)))).trans (((cf (p := ⟨gb347, _, none⟩) (Kd.own_blk (Kd.R_ne HO_4.out BK347.out (by decide)))).trans (((cf (p := ⟨gb347, _, none⟩) (Kd.own_blk (Kd.R_ne HO_4.out BK347.out (by decide)))).trans (hHeld.2.2.2.2.2.1)))))))))), ((cf (p := ⟨gb347, _, none⟩) (Kd.own_blk (Kd.R_ne HO_4.out BK347.out (by decide)))).trans (((cf (p := ⟨gb347, _, none⟩) (Kd.own_blk (Kd.R_ne HO_4.out BK347.out (by decide)))).trans (((cf (p := ⟨gb347, _, none⟩) (Kd.own_blk (Kd.R_ne HO_4.out BK347.out (by decide)))).trans (((cf (p := ⟨gb347, _, none⟩) (Kd.own_blk (Kd.R_ne HO_4.out BK347.out (by decide)))).trans (((cf (p := ⟨gb347, _, none⟩) (Kd.own_blk (Kd.R_ne HO_4.out BK347.out (by decide)))).trans (hHeld.2.2.2.2.2.2.1)))))))))), ((cf (p := ⟨gb347, _, none⟩) (Kd.own_blk (Kd.R_ne HO_4.out BK347.out (by decide)))).trans (((cf (p := ⟨gb347, _, none⟩) (Kd.own_blk (Kd.R_ne HO_4.out BK347.out (by decide)))).trans (((cf (p := ⟨gb347, _, none⟩) (Kd.own_blk (Kd.R_ne HO_4.out BK347.out (by decide)))).trans (((cf (p := ⟨gb347, _, none⟩) (Kd.own_blk (Kd.R_ne HO_4.out BK347.out (by decide)))).trans (((cf (p := ⟨gb347, _, none⟩) (Kd.own_blk (Kd.R_ne HO_4.out BK347.out (by decide)))).trans (hHeld.2.2.2.2.2.2.2.1)))))))))), ((cf (p := ⟨gb347, _, none⟩) (Kd.own_blk (Kd.R_ne HO_4.out BK347.out (by decide)))).trans (((cf (p := ⟨gb347, _, none⟩) (Kd.own_blk (Kd.R_ne HO_4.out BK347.out (by decide)))).trans (((cf (p := ⟨gb347, _, none⟩) (Kd.own_blk (Kd.R_ne HO_4.out BK347.out (by decide)))).trans (((cf (p := ⟨gb347, _, none⟩) (Kd.own_blk (Kd.R_ne HO_4.out BK347.out (by decide)))).trans (((cf (p := ⟨gb347, _, none⟩) (Kd.own_blk (Kd.R_ne HO_4.out BK347.out (by decide)))).trans (hHeld.2.2.2.2.2.2.2.2.1)))))))))), ((cf (p := ⟨gb347, _, none⟩) (Kd.own_blk (Kd.R_ne HO_4.out BK347.out (by decide)))).trans (((cf (p := ⟨gb347, _, none⟩) (Kd.own_blk (Kd.R_ne HO_4.out BK347.out (by decide)))).trans (((cf (p := ⟨gb347, _, none⟩) (Kd.own_blk (Kd.R_ne HO_4.out BK347.out (by decide)))).trans (((cf (p := ⟨gb347, _, none⟩) (Kd.own_blk (Kd.R_ne HO_4.out BK347.out (by decide)))).trans (((cf (p := ⟨gb347, _, none⟩) (Kd.own_blk (Kd.R_ne HO_4.out BK347.out (by decide)))).trans (hHeld.2.2.2.2.2.2.2.2.2.1)))))))))), ((cf (p := ⟨gb347, _, none⟩) (Kd.own_blk (Kd.R_ne HO_4.out BK347.out (by decide)))).trans (((cf (p := ⟨gb347, _, none⟩) (Kd.own_blk (Kd.R_ne HO_4.out BK347.out (by decide)))).trans (((cf (p := ⟨gb347, _, none⟩) (Kd.own_blk (Kd.R_ne HO_4.out BK347.out (by decide)))).trans (((cf (p := ⟨gb347, _, none⟩) (Kd.own_blk (Kd.R_ne HO_4.out BK347.out (by decide)))).trans (((cf (p := ⟨gb347, _, none⟩) (Kd.own_blk (Kd.R_ne HO_4.out BK347.out (by decide)))).trans (hHeld.2.2.2.2.2.2.2.2.2.2.1)))))))))), ((cf (p := ⟨gb347, _, none⟩) (Kd.own_blk (Kd.R_ne HO_4.out BK347.out (by decide)))).trans (((cf (p := ⟨gb347, _, none⟩) (Kd.own_blk (Kd.R_ne HO_4.out BK347.out (by decide)))).trans (((cf (p := ⟨gb347, _, none⟩) (Kd.own_blk (Kd.R_ne HO_4.out BK347.out (by decide)))).trans (((cf (p := ⟨gb347, _, none⟩) (Kd.own_blk (Kd.R_ne HO_4.out BK347.out (by decide)))).trans (((cf (p := ⟨gb347, _, none⟩) (Kd.own_blk (Kd.R_ne HO_4.out BK347.out (by decide)))).trans (hHeld.2.2.2.2.2.2.2.2.2.2.2.1)))))))))), ((cf (p := ⟨gb347, _, none⟩) (Kd.own_blk (Kd.R_ne HO_4.out BK347.out (by decide)))).trans (((cf (p := ⟨gb347, _, none⟩) (Kd.own_blk (Kd.R_ne HO_4.out BK347.out (by decide)))).trans (((cf (p := ⟨gb347, _, none⟩) (Kd.own_blk (Kd.R_ne HO_4.out BK347.out (by decide)))).trans (((cf (p := ⟨gb347, _, none⟩) (Kd.own_blk (Kd.R_ne HO_4.out BK347.out (by decide)))).trans (((cf (p := ⟨gb347, _, none⟩) (Kd.own_blk (Kd.R_ne HO_4.out BK347.out (by decide)))).trans (hHeld.2.2.2.2.2.2.2.2.2.2.2.2.1)))))))))), ((cf (p := ⟨gb347, _, none⟩) (Kd.own_blk (Kd.R_ne HO_4.out BK347.out (by decide)))).trans (((cf (p := ⟨gb347, _, none⟩) (Kd.own_blk (Kd.R_ne HO_4.out BK347.out (by decide)))).trans (((cf (p := ⟨gb347, _, none⟩) (Kd.own_blk (Kd.R_ne HO_4.out BK347.out (by decide)))).trans (((cf (p := ⟨gb347, _, none⟩) (Kd.own_blk (Kd.R_ne HO_4.out BK347.out (by decide)))).trans (((cf (p := ⟨gb347, _, none⟩) (Kd.own_blk (Kd.R_ne HO_4.out BK347.out (by decide)))).trans (hHeld.2.2.2.2.2.2.2.2.2.2.2.2.2.1)))))))))), ((cf (p := ⟨gb347, _, none⟩) (Kd.own_blk (Kd.R_ne HO_4.out BK347.out (by decide)))).trans (((cf (p := ⟨gb347, _, none⟩) (Kd.own_blk (Kd.R_ne HO_4.out BK347.out (by decide)))).trans (((cf (p := ⟨gb347, _, none⟩) (Kd.own_blk (Kd.R_ne HO_4.out BK347.out (by decide)))).trans (((cf (p := ⟨gb347, _, none⟩) (Kd.own_blk (Kd.R_ne HO_4.out BK347.out (by decide)))).trans (((cf (p := ⟨gb347, _, none⟩) (Kd.own_blk (Kd.R_ne HO_4.out BK347.out (by decide)))).trans (hHeld.2.2.2.2.2.2.2.2.2.2.2.2.2.2))))))))))⟩ (fun hHeld => ?_)
         clear hK K
         refine done_ (done_of HT_.out (by kernel_rfl)) ?_
         have hnb28 := NB347_335.out
         have hnc28 := NB335_347.out
         have hcz29_0 := bc5_0 BK347.out
         have hcz29_1 := bc5_1 BK347.out
         have hcz29_2 := bc5_2 BK347.out
         have hcz29_3 := bc5_3 BK347.out
         have hcz29_4 := bc5_4 BK347.out
         have hfz29_0 := blk_frozen BK347.out 0
         have hfz29_1 := blk_frozen BK347.out 1
         have hfz29_2 := blk_frozen BK347.out 2
         have hfz29_3 := blk_frozen BK347.out 3
         have hfz29_4 := blk_frozen BK347.out 4
         try go_wp2_with (first | ((with_reducible refine gate_callee (f := 13) rfl ?_); refine goesL_ (some 54) rfl rfl Tryd.func13 (by kernel_rfl) rfl #[.agg #[.int .i64 (wrap64 ((rd_T60 t336 0).f1)), .string ((rd_T60 t336 1).f2), .int .i64 (wrap64 ((rd_T60 t336 2).f1)), .string ((rd_T60 t336 3).f2), .string ((rd_T60 t336 4).f2)]] rfl am ?_; (with_reducible refine (carillonref06_Right.calls (wrap64 ((rd_T60 t336 0).f1)) ((rd_T60 t336 1).f2) (wrap64 ((rd_T60 t336 2).f1)) ((rd_T60 t336 3).f2) ((rd_T60 t336 4).f2) t348 _ A19.out).mono ?_); rintro e w30 ⟨rfl, hb⟩; refine ⟨_, rfl, ?_⟩; have n0_ := Aside0.mk (Kd.R_below (by (with_reducible repeat (first | apply Kd.R_alloc | apply Kd.R_drewN | apply Kd.R_drew)); exact (Kd.R_mono (Kd.R_far (p := ⟨gb347, 4, none⟩) (Kd.R_far (p := ⟨gb347, 3, none⟩) (Kd.R_far (p := ⟨gb347, 2, none⟩) (Kd.R_far (p := ⟨gb347, 1, none⟩) (Kd.R_far (p := ⟨gb347, 0, none⟩) (Kd.R_types HO_4.out BK347.out (by decide)) (fun _ hk => hk.2) (.int .i64 (wrap64 ((rd_T60 t336 0).f1)))) (fun _ hk => hk.2) (.string ((rd_T60 t336 1).f2))) (fun _ hk => hk.2) (.int .i64 (wrap64 ((rd_T60 t336 2).f1)))) (fun _ hk => hk.2) (.string ((rd_T60 t336 3).f2))) (fun _ hk => hk.2) (.string ((rd_T60 t336 4).f2))) (fun _ h_ => h_.1))) hb); have n1_ := Aside0.mk (blk_below (g := gb335) (o := .cells #[.int .i64 0, .string (⟨#[]⟩ : ByteArray), .int .i64 0, .string (⟨#[]⟩ : ByteArray), .string (⟨#[]⟩ : ByteArray)] 23 (0, 0)) (by (with_reducible repeat (first | refine blk_drewN ?_ _ | refine blk_drew ?_ | refine blk_alloc ?_ _ | refine blk_far ?_ NB335_347.out _)); exact BK335.out) hb); have n2_ := Aside0.mk (blk_below (g := gb347) (o := .cells #[.int .i64 (wrap64 ((rd_T60 t336 0).f1)), .string ((rd_T60 t336 1).f2), .int .i64 (wrap64 ((rd_T60 t336 2).f1)), .string ((rd_T60 t336 3).f2), .string ((rd_T60 t336 4).f2)] 23 (0, 0)) (by (with_reducible repeat (first | refine blk_drewN ?_ _ | refine blk_drew ?_ | refine blk_alloc ?_ _)); refine blk_put (cs := #[.int .i64 (wrap64 ((rd_T60 t336 0).f1)), .string ((rd_T60 t336 1).f2), .int .i64 (wrap64 ((rd_T60 t336 2).f1)), .string ((rd_T60 t336 3).f2), .string (⟨#[]⟩ : ByteArray)]) ?_ 4 _ rfl; (with_reducible repeat (first | refine blk_drewN ?_ _ | refine blk_drew ?_ | refine blk_alloc ?_ _)); refine blk_put (cs := #[.int .i64 (wrap64 ((rd_T60 t336 0).f1)), .string ((rd_T60 t336 1).f2), .int .i64 (wrap64 ((rd_T60 t336 2).f1)), .string (⟨#[]⟩ : ByteArray), .string (⟨#[]⟩ : ByteArray)]) ?_ 3 _ rfl; (with_reducible repeat (first | refine blk_drewN ?_ _ | refine blk_drew ?_ | refine blk_alloc ?_ _)); refine blk_put (cs := #[.int .i64 (wrap64 ((rd_T60 t336 0).f1)), .string ((rd_T60 t336 1).f2), .int .i64 0, .string (⟨#[]⟩ : ByteArray), .string (⟨#[]⟩ : ByteArray)]) ?_ 2 _ rfl; (with_reducible repeat (first | refine blk_drewN ?_ _ | refine blk_drew ?_ | refine blk_alloc ?_ _)); refine blk_put (cs := #[.int .i64 (wrap64 ((rd_T60 t336 0).f1)), .string (⟨#[]⟩ : ByteArray), .int .i64 0, .string (⟨#[]⟩ : ByteArray), .string (⟨#[]⟩ : ByteArray)]) ?_ 1 _ rfl; (with_reducible repeat (first | refine blk_drewN ?_ _ | refine blk_drew ?_ | refine blk_alloc ?_ _)); refine blk_put (cs := #[.int .i64 0, .string (⟨#[]⟩ : ByteArray), .int .i64 0, .string (⟨#[]⟩ : ByteArray), .string (⟨#[]⟩ : ByteArray)]) ?_ 0 _ rfl; (with_reducible repeat (first | refine blk_drewN ?_ _ | refine blk_drew ?_ | refine blk_alloc ?_ _)); exact BK347.out) hb); have n3_ := Aside0.mk (below_step bw hb); clear HO_4; clear BK335; clear BK347; clear HB; have HO_4 := n0_; have BK335 := n1_; have BK347 := n2_; have HB := n3_; clear n0_ n1_ n2_ n3_; (try clear hb); (try clear hb2); (try clear hk); (try clear hi); have hcz31_0 := bc5_0 BK347.out; have hcz31_1 := bc5_1 BK347.out; have hcz31_2 := bc5_2 BK347.out; have hcz31_3 := bc5_3 BK347.out; have hcz31_4 := bc5_4 BK347.out; have hfz31_0 := blk_frozen BK347.out 0; have hfz31_1 := blk_frozen BK347.out 1; have hfz31_2 := blk_frozen BK347.out 2; have hfz31_3 := blk_frozen BK347.out 3; have hfz31_4 := blk_frozen BK347.out 4; have hcz32_0 := bc5_0 BK335.out; have hcz32_1 := bc5_1 BK335.out; have hcz32_2 := bc5_2 BK335.out; have hcz32_3 := bc5_3 BK335.out; have hcz32_4 := bc5_4 BK335.out; have hfz32_0 := blk_frozen BK335.out 0; have hfz32_1 := blk_frozen BK335.out 1; have hfz32_2 := blk_frozen BK335.out 2; have hfz32_3 := blk_frozen BK335.out 3; have hfz32_4 := blk_frozen BK335.out 4))
         refine bodyPost_ret (results_ct rfl _ _ gb335 23 #[.int .i64 (wrap64 ((rd_T60 t336 0).f1)), .string ((rd_T60 t336 1).f2), .int .i64 (wrap64 ((rd_T60 t336 2).f1)), .string ((rd_T60 t336 3).f2), .string ((rd_T60 t336 4).f2)] (0, 0) _ rfl (by (with_reducible repeat (first | refine blk_drewN ?_ _ | refine blk_drew ?_ | refine blk_alloc ?_ _)); refine blk_put (cs := #[.int .i64 (wrap64 ((rd_T60 t336 0).f1)), .string ((rd_T60 t336 1).f2), .int .i64 (wrap64 ((rd_T60 t336 2).f1)), .string ((rd_T60 t336 3).f2), .string (⟨#[]⟩ : ByteArray)]) ?_ 4 _ rfl; (with_reducible repeat (first | refine blk_drewN ?_ _ | refine blk_drew ?_ | refine blk_alloc ?_ _)); refine blk_put (cs := #[.int .i64 (wrap64 ((rd_T60 t336 0).f1)), .string ((rd_T60 t336 1).f2), .int .i64 (wrap64 ((rd_T60 t336 2).f1)), .string (⟨#[]⟩ : ByteArray), .string (⟨#[]⟩ : ByteArray)]) ?_ 3 _ rfl; (with_reducible repeat (first | refine blk_drewN ?_ _ | refine blk_drew ?_ | refine blk_alloc ?_ _)); refine blk_put (cs := #[.int .i64 (wrap64 ((rd_T60 t336 0).f1)), .string ((rd_T60 t336 1).f2), .int .i64 0, .string (⟨#[]⟩ : ByteArray), .string (⟨#[]⟩ : ByteArray)]) ?_ 2 _ rfl; (with_reducible repeat (first | refine blk_drewN ?_ _ | refine blk_drew ?_ | refine blk_alloc ?_ _)); refine blk_put (cs := #[.int .i64 (wrap64 ((rd_T60 t336 0).f1)), .string (⟨#[]⟩ : ByteArray), .int .i64 0, .string (⟨#[]⟩ : ByteArray), .string (⟨#[]⟩ : ByteArray)]) ?_ 1 _ rfl; (with_reducible repeat (first | refine blk_drewN ?_ _ | refine blk_drew ?_ | refine blk_alloc ?_ _)); refine blk_put (cs := #[.int .i64 0, .string (⟨#[]⟩ : ByteArray), .int .i64 0, .string (⟨#[]⟩ : ByteArray), .string (⟨#[]⟩ : ByteArray)]) ?_ 0 _ rfl; (with_reducible repeat (first | refine blk_drewN ?_ _ | refine blk_drew ?_ | refine blk_alloc ?_ _)); exact BK335.out) Tryd.underlying23 rfl (by kernel_rfl)) rfl ?_
         exact ⟨er, bw⟩
        ·rw [if_neg c18] at H
         exact absurd H (by simp)
       ·rw [if_neg c17] at H
        exact absurd H (by simp)
      ·rw [if_neg c16] at H
       exact absurd H (by simp)
     ·rw [if_neg c15] at H
      exact absurd H (by simp)
    ·rw [if_neg c14] at H
     exact absurd H (by simp)

end Go.Proofs.YtmjgifhgodgghaaDoor.P
