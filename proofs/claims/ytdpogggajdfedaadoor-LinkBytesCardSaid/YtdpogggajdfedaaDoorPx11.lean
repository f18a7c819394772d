-- Printed by this session's program wip/xp.py (a turned copy of the kit's printer): functions, their contracts.
import Derived.Test.YtdpogggajdfedaaDoorPx0
import Derived.Test.YtdpogggajdfedaaDoorPx9
import Derived.Test.YtdpogggajdfedaaDoorPx10
import Derived.Test.YtdpogggajdfedaaDoorPx18
namespace Go.Proofs.YtdpogggajdfedaaDoor.P
open Go.RowKit Go.Proofs.YtdpogggajdfedaaDoorW.PrintWords Go.Proofs.YtdpogggajdfedaaDoorW.PrintLast Go.Proofs.YtdpogggajdfedaaDoorW.PrintMore
attribute [local go_sem] max2_int min2_int max_two min_two max_three min_three max_four min_four   -- for this text's walks alone
set_option linter.unusedVariables false
set_option linter.unusedSimpArgs false

/-! ### carillonref09_Decode: function 9 -/
def carillonref09_Decode.l0 : Nat → List (S50) → Int → Option (Int × Int × Int × Int × ByteArray × Int)
 | 0, _, _ => none
 | k + 1, x7, x9 => if x9 < 4 then (if 0 ≤ x9 then (if x9 < (x7.length : Int) then (if ((rd_T50 x7 x9).f1) > 9007199254740991 then (some (0, 0, 0, 0, (⟨#[]⟩ : ByteArray), 10)) else (carillonref09_Decode.l0 k x7 (wrap64 (x9 + 1)))) else (none)) else (none)) else (if 0 < (x7.length : Int) then (if 1 < (x7.length : Int) then (if 2 < (x7.length : Int) then (if 3 < (x7.length : Int) then (if 4 < (x7.length : Int) then ((carillonref09_Right.f (wrap64 ((rd_T50 x7 0).f1)) (wrap64 ((rd_T50 x7 1).f1)) (wrap64 ((rd_T50 x7 2).f1)) (wrap64 ((rd_T50 x7 3).f1)) ((rd_T50 x7 4).f2)).bind fun t285 => (if t285 = true then (some (wrap64 ((rd_T50 x7 0).f1), wrap64 ((rd_T50 x7 1).f1), wrap64 ((rd_T50 x7 2).f1), wrap64 ((rd_T50 x7 3).f1), (rd_T50 x7 4).f2, 0)) else (some (0, 0, 0, 0, (⟨#[]⟩ : ByteArray), 10)))) else (none)) else (none)) else (none)) else (none)) else (none))
def carillonref09_Decode.f (k : Nat) (a0 : ByteArray) : Option (Int × Int × Int × Int × ByteArray × Int) := (carillonref02_Take.f k a0).bind fun bt271 => (if bt271.2.2 = 0 then ((carillonref01_Decode.f k (⟨#[108, 108, 108, 108, 116]⟩ : ByteArray) bt271.1).bind fun bt274 => (if bt274.2 = 0 then (if bt271.2.1 = (a0.size : Int) then (carillonref09_Decode.l0 k bt274.1 0) else (some (0, 0, 0, 0, (⟨#[]⟩ : ByteArray), 10))) else (some (0, 0, 0, 0, (⟨#[]⟩ : ByteArray), 10)))) else (some (0, 0, 0, 0, (⟨#[]⟩ : ByteArray), bt271.2.2)))
theorem carillonref09_Decode.mono_l : ∀ k, (∀ y0 y1, LeO (carillonref09_Decode.l0 k y0 y1) (carillonref09_Decode.l0 (k + 1) y0 y1))
 | 0 => fun _ _ r h => by simp [carillonref09_Decode.l0] at h
 | k + 1 => by
  have ih0 := carillonref09_Decode.mono_l k
  ·intro y0 y1
   unfold carillonref09_Decode.l0
   repeat' first
   | (with_reducible exact ih0 _ _)
   | (with_reducible exact carillonref01_Decode.mono _ _ _)
   | (with_reducible exact carillonref02_Take.mono _ _)
   | (with_reducible exact LeO.refl _)
   | (with_reducible exact LeO.none _)
   | (with_reducible refine LeO.ite ?_ ?_)
   | (with_reducible refine LeO.bind ?_ (fun _ => ?_))
   | exact ih0 _ _
   | exact carillonref01_Decode.mono _ _ _
   | exact carillonref02_Take.mono _ _
   | exact LeO.none _
   | refine LeO.ite ?_ ?_
   | refine LeO.bind ?_ (fun _ => ?_)
theorem carillonref09_Decode.mono : ∀ a0 k, LeO (carillonref09_Decode.f k a0) (carillonref09_Decode.f (k + 1) a0) := by
 intro a0 k
 have ih0 := carillonref09_Decode.mono_l k
 unfold carillonref09_Decode.f
 repeat' first
   | (with_reducible exact ih0 _ _)
   | (with_reducible exact carillonref01_Decode.mono _ _ _)
   | (with_reducible exact carillonref02_Take.mono _ _)
   | (with_reducible exact LeO.refl _)
   | (with_reducible exact LeO.none _)
   | (with_reducible refine LeO.ite ?_ ?_)
   | (with_reducible refine LeO.bind ?_ (fun _ => ?_))
   | exact ih0 _ _
   | exact carillonref01_Decode.mono _ _ _
   | exact carillonref02_Take.mono _ _
   | exact LeO.none _
   | refine LeO.ite ?_ ?_
   | refine LeO.bind ?_ (fun _ => ?_)
def carillonref09_Decode.T12 : Bool × List (List Nat × List Nat) := (true, [([], []), ([0], [0]), ([1], [1]), ([2], [2]), ([3], [3]), ([], []), ([5], [5]), ([6], [6]), ([7], [7]), ([8], [8]), ([], []), ([10], [10]), ([11], [11]), ([12], [12]), ([13], [13]), ([], []), ([15], [15]), ([16], [16]), ([17], [17]), ([18], [18]), ([], []), ([20], [20]), ([21], [21]), ([22], [22]), ([4, 9, 14, 19, 23], [4, 9, 14, 19, 23]), ([], []), ([25, 24, 0, 1, 2, 3, 4, 5, 6, 7, 8, 9, 10, 11, 12, 13, 14, 15, 16, 17, 18, 19, 20, 21, 22, 23, 24, 25], [24, 25])])
def carillonref09_Decode.B12 : List Nat := [0, 1, 3, 7, 15, 0, 32, 96, 224, 480, 0, 1024, 3072, 7168, 15360, 0, 32768, 98304, 229376, 491520, 0, 1048576, 3145728, 7340032, 16777215, 0, 67108863]
theorem carillonref09_Decode.tab12 : rtab .any (opsOf Tryd.f9 12) = carillonref09_Decode.T12 := by kernel_rfl
theorem carillonref09_Decode.bits12 : waitsOk carillonref09_Decode.T12.2 carillonref09_Decode.B12 = true := by kernel_rfl
set_option maxHeartbeats 8000000 in
set_option maxRecDepth 100000 in
theorem carillonref09_Decode.calls (k : Nat) (a0 : ByteArray) (r1 : Int) (r2 : Int) (r3 : Int) (r4 : Int) (r5 : ByteArray) (r6 : Int) (w : World) (h : carillonref09_Decode.f k a0 = some (r1, r2, r3, r4, r5, r6)) :
  Calls Tryd.prog 9 #[.string a0] w fun e w' => e = .returned (.tuple #[.agg #[.int .i64 r1, .int .i64 r2, .int .i64 r3, .int .i64 r4, .string r5], .int .i64 r6]) ∧ Below w.heap.size w w' := by
 have hu23 := Tryd.underlying23
 have HB := Aside0.mk (Below.refl w.heap.size w)
 have H : ((carillonref02_Take.f k a0).bind fun bt271 => (if bt271.2.2 = 0 then ((carillonref01_Decode.f k (⟨#[108, 108, 108, 108, 116]⟩ : ByteArray) bt271.1).bind fun bt274 => (if bt274.2 = 0 then (if bt271.2.1 = (a0.size : Int) then (carillonref09_Decode.l0 k bt274.1 0) else (some (0, 0, 0, 0, (⟨#[]⟩ : ByteArray), 10))) else (some (0, 0, 0, 0, (⟨#[]⟩ : ByteArray), 10)))) else (some (0, 0, 0, 0, (⟨#[]⟩ : ByteArray), bt271.2.2)))) = some (r1, r2, r3, r4, r5, r6) := h
 clear h
 replace H := Option.bind_eq_some_iff.mp H
 obtain ⟨⟨t271, t272, t273⟩, A20, H⟩ := H
 replace H : (if t273 = 0 then ((carillonref01_Decode.f k (⟨#[108, 108, 108, 108, 116]⟩ : ByteArray) t271).bind fun bt274 => (if bt274.2 = 0 then (if t272 = (a0.size : Int) then (carillonref09_Decode.l0 k bt274.1 0) else (some (0, 0, 0, 0, (⟨#[]⟩ : ByteArray), 10))) else (some (0, 0, 0, 0, (⟨#[]⟩ : ByteArray), 10)))) else (some (0, 0, 0, 0, (⟨#[]⟩ : ByteArray), t273))) = some (r1, r2, r3, r4, r5, r6) := H
 have A2 := Aside0.mk A20
 clear A20
 by_cases c3 : t273 = 0; rotate_left
 ·rw [if_neg c3] at H
  have a4 : (t273 == 0) = false := beq_eq_false_iff_ne.mpr c3
  have a5 : (t273 != 0) = true := bne_iff_ne.mpr c3
  simp only [Option.some.injEq, Prod.mk.injEq] at H
  obtain ⟨rfl, rfl, rfl, rfl, rfl, rfl⟩ := H
  go_enter Tryd.func9, Tryd.ntmps9
  go_wp2_with (first | ((with_reducible refine gate_dst (N := 2) rfl ?_); (try (refine gate_guard (by rfl) ?_; dsimp only)); refine box_event ?hg (N := 2) ?hd (cs := #[.int .i64 0, .int .i64 0, .int .i64 0, .int .i64 0, .string (⟨#[]⟩ : ByteArray)]) (t := 23) ?hr ?_; (case hd => rfl); (case hg => rfl); (case hr => first | (go_simp; done) | (go_simp; rfl)); intro af hg w54 hbox hb; have n0_ := Aside0.mk (below_step bw hb); have n1_ := Aside0.mk (hbox); have n2_ := Aside0.mk ((g1 hg bw : w.heap.size ≤ af)); have n3_ := Aside0.mk ((g1 hg bw : w.heap.size ≤ af)); clear HB; have HB := n0_; have ad := n1_; have a1 := n2_; have a2 := n3_; clear n0_ n1_ n2_ n3_; clear hb hbox hg) | ((with_reducible refine gate_callee (f := 23) rfl ?_); refine goesL_ (some 14) rfl rfl Tryd.func23 (by kernel_rfl) rfl #[.string a0] rfl am ?_; (with_reducible refine (carillonref02_Take.calls k a0 t271 t272 t273 _ A2.out).mono ?_); rintro e w' ⟨rfl, ⟨nd, rfl⟩⟩; refine ⟨_, rfl, ?_⟩; (try (rw [drewN_self w54]; generalize hq_ : World.drewN w54 _ = w54; have n0_ : Aside0 (w54.heap[af]? = some (.cells #[.int .i64 0, .int .i64 0, .int .i64 0, .int .i64 0, .string (⟨#[]⟩ : ByteArray)] 23 (0, 0))) := ⟨by rw [← hq_]; exact (bk ad.out)⟩; have n1_ : Aside0 (Below w.heap.size w w54) := ⟨by rw [← hq_]; exact bw⟩; clear ad HB hq_; have ad := n0_; have HB := n1_; clear n0_ n1_)); obtain ⟨hcz55_0, hcz55_1, hcz55_2, hcz55_3, hcz55_4, hfz55_0, hfz55_1, hfz55_2, hfz55_3, hfz55_4⟩ := bx5 ad.out))
  refine bodyPost_ret (results_ct rfl _ _ af 23 #[.int .i64 0, .int .i64 0, .int .i64 0, .int .i64 0, .string (⟨#[]⟩ : ByteArray)] (0, 0) _ rfl (by (with_reducible repeat (first | refine blk_drewN ?_ _ | refine blk_drew ?_ | refine blk_alloc ?_ _)); refine blk_put (cs := #[.int .i64 0, .int .i64 0, .int .i64 0, .int .i64 0, .string (⟨#[]⟩ : ByteArray)]) ?_ 4 _ rfl; (with_reducible repeat (first | refine blk_drewN ?_ _ | refine blk_drew ?_ | refine blk_alloc ?_ _)); refine blk_put (cs := #[.int .i64 0, .int .i64 0, .int .i64 0, .int .i64 0, .string (⟨#[]⟩ : ByteArray)]) ?_ 3 _ rfl; (with_reducible repeat (first | refine blk_drewN ?_ _ | refine blk_drew ?_ | refine blk_alloc ?_ _)); refine blk_put (cs := #[.int .i64 0, .int .i64 0, .int .i64 0, .int .i64 0, .string (⟨#[]⟩ : ByteArray)]) ?_ 2 _ rfl; (with_reducible repeat (first | refine blk_drewN ?_ _ | refine blk_drew ?_ | refine blk_alloc ?_ _)); refine blk_put (cs := #[.int .i64 0, .int .i64 0, .int .i64 0, .int .i64 0, .string (⟨#[]⟩ : ByteArray)]) ?_ 1 _ rfl; (with_reducible repeat (first | refine blk_drewN ?_ _ | refine blk_drew ?_ | refine blk_alloc ?_ _)); refine blk_put (cs := #[.int .i64 0, .int .i64 0, .int .i64 0, .int .i64 0, .string (⟨#[]⟩ : ByteArray)]) ?_ 0 _ rfl; (with_reducible repeat (first | refine blk_drewN ?_ _ | refine blk_drew ?_ | refine blk_alloc ?_ _)); exact ad.out) Tryd.underlying23 rfl (by kernel_rfl)) rfl ?_
  exact ⟨er, bw⟩
 rw [if_pos c3] at H
 have a4 : (t273 == 0) = true := beq_iff_eq.mpr c3
 have a5 : (t273 != 0) = false := bne_eq_false_iff_eq.mpr c3
 clear c3
 replace H := Option.bind_eq_some_iff.mp H
 obtain ⟨⟨t274, t275⟩, A40, H⟩ := H
 replace H : (if t275 = 0 then (if t272 = (a0.size : Int) then (carillonref09_Decode.l0 k t274 0) else (some (0, 0, 0, 0, (⟨#[]⟩ : ByteArray), 10))) else (some (0, 0, 0, 0, (⟨#[]⟩ : ByteArray), 10))) = some (r1, r2, r3, r4, r5, r6) := H
 have A4 := Aside0.mk A40
 clear A40
 by_cases c5 : t275 = 0; rotate_left
 ·rw [if_neg c5] at H
  have a6 : (t275 == 0) = false := beq_eq_false_iff_ne.mpr c5
  have a7 : (t275 != 0) = true := bne_iff_ne.mpr c5
  simp only [Option.some.injEq, Prod.mk.injEq] at H
  obtain ⟨rfl, rfl, rfl, rfl, rfl, rfl⟩ := H
  go_enter Tryd.func9, Tryd.ntmps9
  go_wp2_with (first | ((with_reducible refine gate_dst (N := 2) rfl ?_); (try (refine gate_guard (by rfl) ?_; dsimp only)); refine box_event ?hg (N := 2) ?hd (cs := #[.int .i64 0, .int .i64 0, .int .i64 0, .int .i64 0, .string (⟨#[]⟩ : ByteArray)]) (t := 23) ?hr ?_; (case hd => rfl); (case hg => rfl); (case hr => first | (go_simp; done) | (go_simp; rfl)); intro af hg w51 hbox hb; have n0_ := Aside0.mk (below_step bw hb); have n1_ := Aside0.mk (hbox); have n2_ := Aside0.mk ((g1 hg bw : w.heap.size ≤ af)); have n3_ := Aside0.mk ((g1 hg bw : w.heap.size ≤ af)); clear HB; have HB := n0_; have ad := n1_; have a1 := n2_; have a2 := n3_; clear n0_ n1_ n2_ n3_; clear hb hbox hg) | ((with_reducible refine gate_callee (f := 23) rfl ?_); refine goesL_ (some 14) rfl rfl Tryd.func23 (by kernel_rfl) rfl #[.string a0] rfl am ?_; (with_reducible refine (carillonref02_Take.calls k a0 t271 t272 t273 _ A2.out).mono ?_); rintro e w' ⟨rfl, ⟨nd, rfl⟩⟩; refine ⟨_, rfl, ?_⟩; (try (rw [drewN_self w51]; generalize hq_ : World.drewN w51 _ = w51; have n0_ : Aside0 (w51.heap[af]? = some (.cells #[.int .i64 0, .int .i64 0, .int .i64 0, .int .i64 0, .string (⟨#[]⟩ : ByteArray)] 23 (0, 0))) := ⟨by rw [← hq_]; exact (bk ad.out)⟩; have n1_ : Aside0 (Below w.heap.size w w51) := ⟨by rw [← hq_]; exact bw⟩; clear ad HB hq_; have ad := n0_; have HB := n1_; clear n0_ n1_))) | ((with_reducible refine gate_callee (f := 24) rfl ?_); refine goesL_ (some 24) rfl rfl Tryd.func24 (by kernel_rfl) rfl #[.string (⟨#[108, 108, 108, 108, 116]⟩ : ByteArray), .string t271] rfl am ?_; (with_reducible refine (carillonref01_Decode.calls k (⟨#[108, 108, 108, 108, 116]⟩ : ByteArray) t271 t274 t275 _ A4.out).mono ?_); rintro e w52 ⟨v276, rfl, ho0, hb⟩; refine ⟨_, rfl, ?_⟩; have n0_ := Aside0.mk (Kd.R_lower ho0 (below_size bw)); have n1_ := Aside0.mk (nb ad.out hb); have n2_ := Aside0.mk (below_step bw hb); clear ad; clear HB; have a3 := n0_; have ad := n1_; have HB := n2_; clear n0_ n1_ n2_; (try clear hb); (try clear ho0); obtain ⟨hcz53_0, hcz53_1, hcz53_2, hcz53_3, hcz53_4, hfz53_0, hfz53_1, hfz53_2, hfz53_3, hfz53_4⟩ := bx5 ad.out))
  refine bodyPost_ret (results_ct rfl _ _ af 23 #[.int .i64 0, .int .i64 0, .int .i64 0, .int .i64 0, .string (⟨#[]⟩ : ByteArray)] (0, 0) _ rfl (by (with_reducible repeat (first | refine blk_drewN ?_ _ | refine blk_drew ?_ | refine blk_alloc ?_ _)); refine blk_put (cs := #[.int .i64 0, .int .i64 0, .int .i64 0, .int .i64 0, .string (⟨#[]⟩ : ByteArray)]) ?_ 4 _ rfl; (with_reducible repeat (first | refine blk_drewN ?_ _ | refine blk_drew ?_ | refine blk_alloc ?_ _)); refine blk_put (cs := #[.int .i64 0, .int .i64 0, .int .i64 0, .int .i64 0, .string (⟨#[]⟩ : ByteArray)]) ?_ 3 _ rfl; (with_reducible repeat (first | refine blk_drewN ?_ _ | refine blk_drew ?_ | refine blk_alloc ?_ _)); refine blk_put (cs := #[.int .i64 0, .int .i64 0, .int .i64 0, .int .i64 0, .string (⟨#[]⟩ : ByteArray)]) ?_ 2 _ rfl; (with_reducible repeat (first | refine blk_drewN ?_ _ | refine blk_drew ?_ | refine blk_alloc ?_ _)); refine blk_put (cs := #[.int .i64 0, .int .i64 0, .int .i64 0, .int .i64 0, .string (⟨#[]⟩ : ByteArray)]) ?_ 1 _ rfl; (with_reducible repeat (first | refine blk_drewN ?_ _ | refine blk_drew ?_ | refine blk_alloc ?_ _)); refine blk_put (cs := #[.int .i64 0, .int .i64 0, .int .i64 0, .int .i64 0, .string (⟨#[]⟩ : ByteArray)]) ?_ 0 _ rfl; (with_reducible repeat (first | refine blk_drewN ?_ _ | refine blk_drew ?_ | refine blk_alloc ?_ _)); exact ad.out) Tryd.underlying23 rfl (by kernel_rfl)) rfl ?_
  exact ⟨er, bw⟩
 rw [if_pos c5] at H
 have a6 : (t275 == 0) = true := beq_iff_eq.mpr c5
 have a7 : (t275 != 0) = false := bne_eq_false_iff_eq.mpr c5
 clear c5
 by_cases c6 : t272 = (a0.size : Int); rotate_left
 ·rw [if_neg c6] at H
  have a8 : (t272 == (a0.size : Int)) = false := beq_eq_false_iff_ne.mpr c6
  have a9 : (t272 != (a0.size : Int)) = true := bne_iff_ne.mpr c6
  simp only [Option.some.injEq, Prod.mk.injEq] at H
  obtain ⟨rfl, rfl, rfl, rfl, rfl, rfl⟩ := H
  go_enter Tryd.func9, Tryd.ntmps9
  go_wp2_with (first | ((with_reducible refine gate_dst (N := 2) rfl ?_); (try (refine gate_guard (by rfl) ?_; dsimp only)); refine box_event ?hg (N := 2) ?hd (cs := #[.int .i64 0, .int .i64 0, .int .i64 0, .int .i64 0, .string (⟨#[]⟩ : ByteArray)]) (t := 23) ?hr ?_; (case hd => rfl); (case hg => rfl); (case hr => first | (go_simp; done) | (go_simp; rfl)); intro af hg w48 hbox hb; have n0_ := Aside0.mk (below_step bw hb); have n1_ := Aside0.mk (hbox); have n2_ := Aside0.mk ((g1 hg bw : w.heap.size ≤ af)); have n3_ := Aside0.mk ((g1 hg bw : w.heap.size ≤ af)); clear HB; have HB := n0_; have ad := n1_; have a1 := n2_; have a2 := n3_; clear n0_ n1_ n2_ n3_; clear hb hbox hg) | ((with_reducible refine gate_callee (f := 23) rfl ?_); refine goesL_ (some 14) rfl rfl Tryd.func23 (by kernel_rfl) rfl #[.string a0] rfl am ?_; (with_reducible refine (carillonref02_Take.calls k a0 t271 t272 t273 _ A2.out).mono ?_); rintro e w' ⟨rfl, ⟨nd, rfl⟩⟩; refine ⟨_, rfl, ?_⟩; (try (rw [drewN_self w48]; generalize hq_ : World.drewN w48 _ = w48; have n0_ : Aside0 (w48.heap[af]? = some (.cells #[.int .i64 0, .int .i64 0, .int .i64 0, .int .i64 0, .string (⟨#[]⟩ : ByteArray)] 23 (0, 0))) := ⟨by rw [← hq_]; exact (bk ad.out)⟩; have n1_ : Aside0 (Below w.heap.size w w48) := ⟨by rw [← hq_]; exact bw⟩; clear ad HB hq_; have ad := n0_; have HB := n1_; clear n0_ n1_))) | ((with_reducible refine gate_callee (f := 24) rfl ?_); refine goesL_ (some 24) rfl rfl Tryd.func24 (by kernel_rfl) rfl #[.string (⟨#[108, 108, 108, 108, 116]⟩ : ByteArray), .string t271] rfl am ?_; (with_reducible refine (carillonref01_Decode.calls k (⟨#[108, 108, 108, 108, 116]⟩ : ByteArray) t271 t274 t275 _ A4.out).mono ?_); rintro e w49 ⟨v276, rfl, ho0, hb⟩; refine ⟨_, rfl, ?_⟩; have n0_ := Aside0.mk (Kd.R_lower ho0 (below_size bw)); have n1_ := Aside0.mk (nb ad.out hb); have n2_ := Aside0.mk (below_step bw hb); clear ad; clear HB; have a3 := n0_; have ad := n1_; have HB := n2_; clear n0_ n1_ n2_; (try clear hb); (try clear ho0); obtain ⟨hcz50_0, hcz50_1, hcz50_2, hcz50_3, hcz50_4, hfz50_0, hfz50_1, hfz50_2, hfz50_3, hfz50_4⟩ := bx5 ad.out))
  refine bodyPost_ret (results_ct rfl _ _ af 23 #[.int .i64 0, .int .i64 0, .int .i64 0, .int .i64 0, .string (⟨#[]⟩ : ByteArray)] (0, 0) _ rfl (by (with_reducible repeat (first | refine blk_drewN ?_ _ | refine blk_drew ?_ | refine blk_alloc ?_ _)); refine blk_put (cs := #[.int .i64 0, .int .i64 0, .int .i64 0, .int .i64 0, .string (⟨#[]⟩ : ByteArray)]) ?_ 4 _ rfl; (with_reducible repeat (first | refine blk_drewN ?_ _ | refine blk_drew ?_ | refine blk_alloc ?_ _)); refine blk_put (cs := #[.int .i64 0, .int .i64 0, .int .i64 0, .int .i64 0, .string (⟨#[]⟩ : ByteArray)]) ?_ 3 _ rfl; (with_reducible repeat (first | refine blk_drewN ?_ _ | refine blk_drew ?_ | refine blk_alloc ?_ _)); refine blk_put (cs := #[.int .i64 0, .int .i64 0, .int .i64 0, .int .i64 0, .string (⟨#[]⟩ : ByteArray)]) ?_ 2 _ rfl; (with_reducible repeat (first | refine blk_drewN ?_ _ | refine blk_drew ?_ | refine blk_alloc ?_ _)); refine blk_put (cs := #[.int .i64 0, .int .i64 0, .int .i64 0, .int .i64 0, .string (⟨#[]⟩ : ByteArray)]) ?_ 1 _ rfl; (with_reducible repeat (first | refine blk_drewN ?_ _ | refine blk_drew ?_ | refine blk_alloc ?_ _)); refine blk_put (cs := #[.int .i64 0, .int .i64 0, .int .i64 0, .int .i64 0, .string (⟨#[]⟩ : ByteArray)]) ?_ 0 _ rfl; (with_reducible repeat (first | refine blk_drewN ?_ _ | refine blk_drew ?_ | refine blk_alloc ?_ _)); exact ad.out) Tryd.underlying23 rfl (by kernel_rfl)) rfl ?_
  exact ⟨er, bw⟩
 rw [if_pos c6] at H
 have a8 : (t272 == (a0.size : Int)) = true := beq_iff_eq.mpr c6
 have a9 : (t272 != (a0.size : Int)) = false := bne_eq_false_iff_eq.mpr c6
 clear c6
 have H' := Aside0.mk H
 clear H
 go_enter Tryd.func9, Tryd.ntmps9
 go_wp2_with (first | ((with_reducible refine gate_dst (N := 2) rfl ?_); (try (refine gate_guard (by rfl) ?_; dsimp only)); refine box_event ?hg (N := 2) ?hd (cs := #[.int .i64 0, .int .i64 0, .int .i64 0, .int .i64 0, .string (⟨#[]⟩ : ByteArray)]) (t := 23) ?hr ?_; (case hd => rfl); (case hg => rfl); (case hr => first | (go_simp; done) | (go_simp; rfl)); intro af hg w7 hbox hb; have n0_ := Aside0.mk (below_step bw hb); have n1_ := Aside0.mk (hbox); have n2_ := Aside0.mk ((g1 hg bw : w.heap.size ≤ af)); have n3_ := Aside0.mk ((g1 hg bw : w.heap.size ≤ af)); clear HB; have HB := n0_; have ad := n1_; have a1 := n2_; have a2 := n3_; clear n0_ n1_ n2_ n3_; clear hb hbox hg) | ((with_reducible refine gate_callee (f := 23) rfl ?_); refine goesL_ (some 14) rfl rfl Tryd.func23 (by kernel_rfl) rfl #[.string a0] rfl am ?_; (with_reducible refine (carillonref02_Take.calls k a0 t271 t272 t273 _ A2.out).mono ?_); rintro e w' ⟨rfl, ⟨nd, rfl⟩⟩; refine ⟨_, rfl, ?_⟩) | ((with_reducible refine gate_callee (f := 24) rfl ?_); refine goesL_ (some 24) rfl rfl Tryd.func24 (by kernel_rfl) rfl #[.string (⟨#[108, 108, 108, 108, 116]⟩ : ByteArray), .string t271] rfl am ?_; (with_reducible refine (carillonref01_Decode.calls k (⟨#[108, 108, 108, 108, 116]⟩ : ByteArray) t271 t274 t275 _ A4.out).mono ?_); rintro e w8 ⟨v276, rfl, ho0, hb⟩; refine ⟨_, rfl, ?_⟩; have n0_ := Aside0.mk (Kd.R_lower ho0 (below_size bw)); have n1_ := Aside0.mk (nb ad.out hb); have n2_ := Aside0.mk (below_step bw hb); clear ad; clear HB; have a3 := n0_; have ad := n1_; have HB := n2_; clear n0_ n1_ n2_; (try clear hb); (try clear ho0)))
 go_loopg [9] k (fun kq v9 w' => ∃ (x9_1 : Int) (x271000_1 : Int) (x271001_1 : Int) (x271002_1 : Int) (x271003_1 : Int) (x271004_1 : ByteArray), v9 = .int .i64 x9_1 ∧ Aside0 (carillonref09_Decode.l0 kq t274 x9_1 = some (r1, r2, r3, r4, r5, r6)) ∧ Aside0 (kq ≤ k) ∧ Aside0 (Kd.R k50 50 w' w.heap.size (fun _ => True) v276 t274) ∧ Aside0 (w'.heap[af]? = some (.cells #[.int .i64 x271000_1, .int .i64 x271001_1, .int .i64 x271002_1, .int .i64 x271003_1, .string x271004_1] 23 (0, 0))) ∧ Aside0 (Below w.heap.size w w'))
 case atStart => exact ⟨(0), (0), (0), (0), (0), ((⟨#[]⟩ : ByteArray)), (by first | rfl | (simp; done) | (simp [*]; done)), H', ⟨Nat.le_refl _⟩, ⟨by (with_reducible repeat (first | apply Kd.R_alloc | apply Kd.R_drewN | apply Kd.R_drew)); exact a3.out⟩, ⟨by (with_reducible repeat (first | refine blk_drewN ?_ _ | refine blk_drew ?_ | refine blk_alloc ?_ _)); exact ad.out⟩, ⟨bw⟩⟩
 case round =>
  clear H'
  try clear c2
  try clear p2
  try clear c3
  try clear a4
  try clear a5
  try clear c5
  try clear a6
  try clear a7
  try clear c6
  try clear a8
  try clear a9
  obtain ⟨x9_1, x271000_1, x271001_1, x271002_1, x271003_1, x271004_1, rfl, HA, HK1, ac, ad, HB⟩ := hrel
  cases gk with
  | zero => exact absurd HA.out (by simp [carillonref09_Decode.l0])
  | succ k1 =>
   have H := HA.out
   clear HA
   simp only [carillonref09_Decode.l0] at H
   by_cases c9 : x9_1 < 4
   ·rw [if_pos c9] at H
    have c9b0 : decide (x9_1 < 4) = true := decide_eq_true c9
    clear c9
    by_cases c10 : 0 ≤ x9_1; rotate_left
    ·rw [if_neg c10] at H
     exact absurd H (by simp)
    rw [if_pos c10] at H
    have c10b0 : decide (0 ≤ x9_1) = true := decide_eq_true c10
    clear c10
    by_cases c11 : x9_1 < (t274.length : Int); rotate_left
    ·rw [if_neg c11] at H
     exact absurd H (by simp)
    rw [if_pos c11] at H
    have c11b0 : decide (x9_1 < (t274.length : Int)) = true := decide_eq_true c11
    clear c11
    by_cases c12 : ((rd_T50 t274 x9_1).f1) > 9007199254740991; rotate_left
    ·rw [if_neg c12] at H
     have c12b0 : decide (9007199254740991 < ((rd_T50 t274 x9_1).f1)) = false := decide_eq_false c12
     clear c12
     have H' := Aside0.mk H
     clear H
     obtain ⟨Ao15, co15, eo15⟩ := Kd.R_slice ac.out
     subst eo15
     have p278 : 0 ≤ (x9_1 : Int) := od
     have q278 : x9_1 < (t274.length : Int) := od
     obtain ⟨ad278, e278, hx278_0, hx278_1, hx278_2⟩ := at_T50 (Kd.R_reads' ac.out).2.2 x9_1 p278 q278
     cases e278
     replace p278 := eq_true p278
     replace q278 := eq_true q278
     go_wp2
     go_roundg k1
     case measure => have := HK1.out; omega
     case rel => exact ⟨(wrap64 (x9_1 + 1)), (x271000_1), (x271001_1), (x271002_1), (x271003_1), (x271004_1), (by first | rfl | (simp; done) | (simp [*]; done)), H', ⟨by have := HK1.out; omega⟩, ⟨by (with_reducible repeat (first | apply Kd.R_alloc | apply Kd.R_drewN | apply Kd.R_drew)); exact ac.out⟩, ⟨by (with_reducible repeat (first | refine blk_drewN ?_ _ | refine blk_drew ?_ | refine blk_alloc ?_ _)); exact ad.out⟩, ⟨bw⟩⟩
    rw [if_pos c12] at H
    have c12b0 : decide (9007199254740991 < ((rd_T50 t274 x9_1).f1)) = true := decide_eq_true c12
    clear c12
    simp only [Option.some.injEq, Prod.mk.injEq] at H
    obtain ⟨rfl, rfl, rfl, rfl, rfl, rfl⟩ := H
    obtain ⟨Ao13, co13, eo13⟩ := Kd.R_slice ac.out
    subst eo13
    have p278 : 0 ≤ (x9_1 : Int) := od
    have q278 : x9_1 < (t274.length : Int) := od
    obtain ⟨ad278, e278, hx278_0, hx278_1, hx278_2⟩ := at_T50 (Kd.R_reads' ac.out).2.2 x9_1 p278 q278
    cases e278
    replace p278 := eq_true p278
    replace q278 := eq_true q278
    obtain ⟨hcz14_0, hcz14_1, hcz14_2, hcz14_3, hcz14_4, hfz14_0, hfz14_1, hfz14_2, hfz14_3, hfz14_4⟩ := bx5 ad.out
    go_wp2
    refine bodyPost_ret (results_ct rfl _ _ af 23 #[.int .i64 0, .int .i64 0, .int .i64 0, .int .i64 0, .string (⟨#[]⟩ : ByteArray)] (0, 0) _ rfl (by (with_reducible repeat (first | refine blk_drewN ?_ _ | refine blk_drew ?_ | refine blk_alloc ?_ _)); refine blk_put (cs := #[.int .i64 0, .int .i64 0, .int .i64 0, .int .i64 0, .string x271004_1]) ?_ 4 _ rfl; (with_reducible repeat (first | refine blk_drewN ?_ _ | refine blk_drew ?_ | refine blk_alloc ?_ _)); refine blk_put (cs := #[.int .i64 0, .int .i64 0, .int .i64 0, .int .i64 x271003_1, .string x271004_1]) ?_ 3 _ rfl; (with_reducible repeat (first | refine blk_drewN ?_ _ | refine blk_drew ?_ | refine blk_alloc ?_ _)); refine blk_put (cs := #[.int .i64 0, .int .i64 0, .int .i64 x271002_1, .int .i64 x271003_1, .string x271004_1]) ?_ 2 _ rfl; (with_reducible repeat (first | refine blk_drewN ?_ _ | refine blk_drew ?_ | refine blk_alloc ?_ _)); refine blk_put (cs := #[.int .i64 0, .int .i64 x271001_1, .int .i64 x271002_1, .int .i64 x271003_1, .string x271004_1]) ?_ 1 _ rfl; (with_reducible repeat (first | refine blk_drewN ?_ _ | refine blk_drew ?_ | refine blk_alloc ?_ _)); refine blk_put (cs := #[.int .i64 x271000_1, .int .i64 x271001_1, .int .i64 x271002_1, .int .i64 x271003_1, .string x271004_1]) ?_ 0 _ rfl; (with_reducible repeat (first | refine blk_drewN ?_ _ | refine blk_drew ?_ | refine blk_alloc ?_ _)); exact ad.out) Tryd.underlying23 rfl (by kernel_rfl)) rfl ?_
    exact ⟨er, bw⟩
   rw [if_neg c9] at H
   have c9b0 : decide (x9_1 < 4) = false := decide_eq_false c9
   clear c9
   by_cases c16 : 0 < (t274.length : Int); rotate_left
   ·rw [if_neg c16] at H
    exact absurd H (by simp)
   rw [if_pos c16] at H
   have c16b0 : decide (0 < (t274.length : Int)) = true := decide_eq_true c16
   have c16b1 : decide (0 < t274.length) = true := decide_eq_true (by omega)
   clear c16
   by_cases c17 : 1 < (t274.length : Int); rotate_left
   ·rw [if_neg c17] at H
    exact absurd H (by simp)
   rw [if_pos c17] at H
   have c17b0 : decide (1 < (t274.length : Int)) = true := decide_eq_true c17
   have c17b1 : decide (1 < t274.length) = true := decide_eq_true (by omega)
   clear c17
   by_cases c18 : 2 < (t274.length : Int); rotate_left
   ·rw [if_neg c18] at H
    exact absurd H (by simp)
   rw [if_pos c18] at H
   have c18b0 : decide (2 < (t274.length : Int)) = true := decide_eq_true c18
   have c18b1 : decide (2 < t274.length) = true := decide_eq_true (by omega)
   clear c18
   by_cases c19 : 3 < (t274.length : Int); rotate_left
   ·rw [if_neg c19] at H
    exact absurd H (by simp)
   rw [if_pos c19] at H
   have c19b0 : decide (3 < (t274.length : Int)) = true := decide_eq_true c19
   have c19b1 : decide (3 < t274.length) = true := decide_eq_true (by omega)
   clear c19
   by_cases c20 : 4 < (t274.length : Int); rotate_left
   ·rw [if_neg c20] at H
    exact absurd H (by simp)
   rw [if_pos c20] at H
   have c20b0 : decide (4 < (t274.length : Int)) = true := decide_eq_true c20
   have c20b1 : decide (4 < t274.length) = true := decide_eq_true (by omega)
   clear c20
   replace H := Option.bind_eq_some_iff.mp H
   obtain ⟨t285, A210, H⟩ := H
   replace H : (if t285 = true then (some (wrap64 ((rd_T50 t274 0).f1), wrap64 ((rd_T50 t274 1).f1), wrap64 ((rd_T50 t274 2).f1), wrap64 ((rd_T50 t274 3).f1), (rd_T50 t274 4).f2, 0)) else (some (0, 0, 0, 0, (⟨#[]⟩ : ByteArray), 10))) = some (r1, r2, r3, r4, r5, r6) := H
   have A21 := Aside0.mk A210
   clear A210
   have HhZ := Aside0.mk H
   clear H
   try go_wp2
   have n0_ := Aside0.mk (Kd.R_drew ac.out)
   have n1_ := Aside0.mk (blk_drew ad.out)
   have n2_ := Aside0.mk (below_drew1 HB.out)
   clear ac
   clear ad
   clear HB
   have ac := n0_
   have ad := n1_
   have HB := n2_
   clear n0_ n1_ n2_
   obtain ⟨Ao24, co24, ba⟩ := Kd.R_slice ac.out
   (first | subst ba | (injection ba with f1_ f2_ f3_; have f4_ := f1_.symm; have f5_ := f3_.symm; clear f1_ f2_ f3_; subst f4_; subst f5_))
   have p279 : 0 ≤ (0 : Int) := (by omega)
   have q279 : 0 < (t274.length : Int) := od
   obtain ⟨ae, e279, ai, aj, ak⟩ := at_T50 (Kd.R_reads' ac.out).2.2 0 p279 q279
   cases e279
   have qi279 : (0 < t274.length) = True := eq_true (by omega)
   (try rw [show ((0 : Int)).toNat = 0 from rfl] at ai)
   (try rw [show 0 * 3 = 0 from rfl] at ai)
   (try rw [Addr.add_zero'] at ai)
   (try rw [show ((0 : Int)).toNat = 0 from rfl] at aj)
   (try rw [show 0 * 3 = 0 from rfl] at aj)
   (try rw [Addr.add_zero'] at aj)
   (try rw [show ((0 : Int)).toNat = 0 from rfl] at ak)
   (try rw [show 0 * 3 = 0 from rfl] at ak)
   (try rw [Addr.add_zero'] at ak)
   replace p279 := eq_true p279
   replace q279 := eq_true q279
   have p280 : 0 ≤ (1 : Int) := (by omega)
   have q280 : 1 < (t274.length : Int) := od
   obtain ⟨ad280, e280, al, an, ao⟩ := at_T50 (Kd.R_reads' ac.out).2.2 1 p280 q280
   obtain rfl : ae = ad280 := (by injection e280)
   (try simp only [show (1 : Int).toNat = 1 from rfl, Nat.reduceMul, Nat.reduceEqDiff, Go.Addr.add, ↓reduceIte] at al)
   (try simp only [show (1 : Int).toNat = 1 from rfl, Nat.reduceMul, Nat.reduceEqDiff, Go.Addr.add, ↓reduceIte] at an)
   (try simp only [show (1 : Int).toNat = 1 from rfl, Nat.reduceMul, Nat.reduceEqDiff, Go.Addr.add, ↓reduceIte] at ao)
   have qi280 : (1 < t274.length) = True := eq_true (by omega)
   (try rw [show ((1 : Int)).toNat = 1 from rfl] at al)
   (try rw [show 1 * 3 = 3 from rfl] at al)
   (try rw [show ((1 : Int)).toNat = 1 from rfl] at an)
   (try rw [show 1 * 3 = 3 from rfl] at an)
   (try rw [show ((1 : Int)).toNat = 1 from rfl] at ao)
   (try rw [show 1 * 3 = 3 from rfl] at ao)
   replace p280 := eq_true p280
   replace q280 := eq_true q280
   have p281 : 0 ≤ (2 : Int) := (by omega)
   have q281 : 2 < (t274.length : Int) := od
   obtain ⟨ad281, e281, ap, aq, ar⟩ := at_T50 (Kd.R_reads' ac.out).2.2 2 p281 q281
   obtain rfl : ae = ad281 := (by injection e281)
   (try simp only [show (2 : Int).toNat = 2 from rfl, Nat.reduceMul, Nat.reduceEqDiff, Go.Addr.add, ↓reduceIte] at ap)
   (try simp only [show (2 : Int).toNat = 2 from rfl, Nat.reduceMul, Nat.reduceEqDiff, Go.Addr.add, ↓reduceIte] at aq)
   (try simp only [show (2 : Int).toNat = 2 from rfl, Nat.reduceMul, Nat.reduceEqDiff, Go.Addr.add, ↓reduceIte] at ar)
   have qi281 : (2 < t274.length) = True := eq_true (by omega)
   (try rw [show ((2 : Int)).toNat = 2 from rfl] at ap)
   (try rw [show 2 * 3 = 6 from rfl] at ap)
   (try rw [show ((2 : Int)).toNat = 2 from rfl] at aq)
   (try rw [show 2 * 3 = 6 from rfl] at aq)
   (try rw [show ((2 : Int)).toNat = 2 from rfl] at ar)
   (try rw [show 2 * 3 = 6 from rfl] at ar)
   replace p281 := eq_true p281
   replace q281 := eq_true q281
   have p282 : 0 ≤ (3 : Int) := (by omega)
   have q282 : 3 < (t274.length : Int) := od
   obtain ⟨ad282, e282, au, av, aw⟩ := at_T50 (Kd.R_reads' ac.out).2.2 3 p282 q282
   obtain rfl : ae = ad282 := (by injection e282)
   (try simp only [show (3 : Int).toNat = 3 from rfl, Nat.reduceMul, Nat.reduceEqDiff, Go.Addr.add, ↓reduceIte] at au)
   (try simp only [show (3 : Int).toNat = 3 from rfl, Nat.reduceMul, Nat.reduceEqDiff, Go.Addr.add, ↓reduceIte] at av)
   (try simp only [show (3 : Int).toNat = 3 from rfl, Nat.reduceMul, Nat.reduceEqDiff, Go.Addr.add, ↓reduceIte] at aw)
   have qi282 : (3 < t274.length) = True := eq_true (by omega)
   (try rw [show ((3 : Int)).toNat = 3 from rfl] at au)
   (try rw [show 3 * 3 = 9 from rfl] at au)
   (try rw [show ((3 : Int)).toNat = 3 from rfl] at av)
   (try rw [show 3 * 3 = 9 from rfl] at av)
   (try rw [show ((3 : Int)).toNat = 3 from rfl] at aw)
   (try rw [show 3 * 3 = 9 from rfl] at aw)
   replace p282 := eq_true p282
   replace q282 := eq_true q282
   have p283 : 0 ≤ (4 : Int) := (by omega)
   have q283 : 4 < (t274.length : Int) := od
   obtain ⟨ad283, e283, ax, ay, az⟩ := at_T50 (Kd.R_reads' ac.out).2.2 4 p283 q283
   obtain rfl : ae = ad283 := (by injection e283)
   (try simp only [show (4 : Int).toNat = 4 from rfl, Nat.reduceMul, Nat.reduceEqDiff, Go.Addr.add, ↓reduceIte] at ax)
   (try simp only [show (4 : Int).toNat = 4 from rfl, Nat.reduceMul, Nat.reduceEqDiff, Go.Addr.add, ↓reduceIte] at ay)
   (try simp only [show (4 : Int).toNat = 4 from rfl, Nat.reduceMul, Nat.reduceEqDiff, Go.Addr.add, ↓reduceIte] at az)
   have qi283 : (4 < t274.length) = True := eq_true (by omega)
   (try rw [show ((4 : Int)).toNat = 4 from rfl] at ax)
   (try rw [show 4 * 3 = 12 from rfl] at ax)
   (try rw [show ((4 : Int)).toNat = 4 from rfl] at ay)
   (try rw [show 4 * 3 = 12 from rfl] at ay)
   (try rw [show ((4 : Int)).toNat = 4 from rfl] at az)
   (try rw [show 4 * 3 = 12 from rfl] at az)
   replace p283 := eq_true p283
   replace q283 := eq_true q283
   refine start_ (n := 27) (S := fun w' => w'.cell? ae = some (.int .i64 ((rd_T50 t274 0).f0)) ∧ w'.cell? ⟨ae.block, ae.off + 1, none⟩ = some (.int .u64 ((rd_T50 t274 0).f1)) ∧ w'.cell? ⟨ae.block, ae.off + 2, none⟩ = some (.string ((rd_T50 t274 0).f2)) ∧ w'.cell? ⟨ae.block, ae.off + 3, none⟩ = some (.int .i64 ((rd_T50 t274 1).f0)) ∧ w'.cell? ⟨ae.block, ae.off + 3 + 1, none⟩ = some (.int .u64 ((rd_T50 t274 1).f1)) ∧ w'.cell? ⟨ae.block, ae.off + 3 + 2, none⟩ = some (.string ((rd_T50 t274 1).f2)) ∧ w'.cell? ⟨ae.block, ae.off + 6, none⟩ = some (.int .i64 ((rd_T50 t274 2).f0)) ∧ w'.cell? ⟨ae.block, ae.off + 6 + 1, none⟩ = some (.int .u64 ((rd_T50 t274 2).f1)) ∧ w'.cell? ⟨ae.block, ae.off + 6 + 2, none⟩ = some (.string ((rd_T50 t274 2).f2)) ∧ w'.cell? ⟨ae.block, ae.off + 9, none⟩ = some (.int .i64 ((rd_T50 t274 3).f0)) ∧ w'.cell? ⟨ae.block, ae.off + 9 + 1, none⟩ = some (.int .u64 ((rd_T50 t274 3).f1)) ∧ w'.cell? ⟨ae.block, ae.off + 9 + 2, none⟩ = some (.string ((rd_T50 t274 3).f2)) ∧ w'.cell? ⟨ae.block, ae.off + 12, none⟩ = some (.int .i64 ((rd_T50 t274 4).f0)) ∧ w'.cell? ⟨ae.block, ae.off + 12 + 1, none⟩ = some (.int .u64 ((rd_T50 t274 4).f1)) ∧ w'.cell? ⟨ae.block, ae.off + 12 + 2, none⟩ = some (.string ((rd_T50 t274 4).f2))) (ds := []) (bz 27 0) (by kernel_rfl) rfl rfl ⟨ai, aj, ak, al, an, ao, ap, aq, ar, au, av, aw, ax, ay, az⟩ (fun hHeld => ?_); refine with_tabW carillonref09_Decode.tab12 carillonref09_Decode.bits12 (fun HT_ HW_ => ?_)
   generalize wr.drew = w23 at ac ad HB ai aj ak al an ao ap aq ar au av aw ax ay az hHeld ⊢
   refine pu_ 0 (some 47) (bz 27 1) HT_.out ?_
   refine pu_ 1 (some 48) (bz 27 3) HT_.out ?_
   refine pu_ 2 (some 49) (bz 27 7) HT_.out ?_
   refine pu_ 5 (some 52) (bz 27 39) HT_.out ?_
   refine pu_ 6 (some 53) (bz 27 103) HT_.out ?_
   refine pu_ 7 (some 54) (bz 27 231) HT_.out ?_
   refine pu_ 10 (some 57) (bz 27 1255) HT_.out ?_
   refine pu_ 11 (some 58) (bz 27 3303) HT_.out ?_
   refine pu_ 12 (some 59) (bz 27 7399) HT_.out ?_
   refine pu_ 15 (some 62) (bz 27 40167) HT_.out ?_
   refine pu_ 16 (some 63) (bz 27 105703) HT_.out ?_
   refine pu_ 17 (some 64) (bz 27 236775) HT_.out ?_
   refine pu_ 20 (some 67) (bz 27 1285351) HT_.out ?_
   refine pu_ 21 (some 68) (bz 27 3382503) HT_.out ?_
   refine pu_ 22 (some 69) (bz 27 7576807) HT_.out ?_
   refine take_ (i := 3) (N := some 50) (v := ?_) (a' := ?_) (bz 27 7576815) rfl rfl (take_ofW HT_.out HW_.out (by kernel_rfl)) (fun _ _ _ h => h) (Or.inl ⟨by rfl, ?_⟩) hHeld ?_ ?_
   rotate_left
   ·rintro w' ⟨s0, s1, s2, s3, s4, s5, s6, s7, s8, s9, s10, s11, s12, s13, s14⟩
    go_simp
    with_reducible rfl
   rotate_left
   ·simp only [Act.put, sl1, sl2, sl3, i64_w, i32_w]
    rfl
   refine pu_ 4 (some 51) (bz 27 7576831) HT_.out ?_
   refine take_ (i := 8) (N := some 55) (v := ?_) (a' := ?_) (bz 27 7577087) rfl rfl (take_ofW HT_.out HW_.out (by kernel_rfl)) (fun _ _ _ h => h) (Or.inl ⟨by rfl, ?_⟩) hHeld ?_ ?_
   rotate_left
   ·rintro w' ⟨s0, s1, s2, s3, s4, s5, s6, s7, s8, s9, s10, s11, s12, s13, s14⟩
    go_simp
    with_reducible rfl
   rotate_left
   ·simp only [Act.put, sl1, sl2, sl3, i64_w, i32_w]
    rfl
   refine pu_ 9 (some 56) (bz 27 7577599) HT_.out ?_
   refine take_ (i := 13) (N := some 60) (v := ?_) (a' := ?_) (bz 27 7585791) rfl rfl (take_ofW HT_.out HW_.out (by kernel_rfl)) (fun _ _ _ h => h) (Or.inl ⟨by rfl, ?_⟩) hHeld ?_ ?_
   rotate_left
   ·rintro w' ⟨s0, s1, s2, s3, s4, s5, s6, s7, s8, s9, s10, s11, s12, s13, s14⟩
    go_simp
    with_reducible rfl
   rotate_left
   ·simp only [Act.put, sl1, sl2, sl3, i64_w, i32_w]
    rfl
   refine pu_ 14 (some 61) (bz 27 7602175) HT_.out ?_
   refine take_ (i := 18) (N := some 65) (v := ?_) (a' := ?_) (bz 27 7864319) rfl rfl (take_ofW HT_.out HW_.out (by kernel_rfl)) (fun _ _ _ h => h) (Or.inl ⟨by rfl, ?_⟩) hHeld ?_ ?_
   rotate_left
   ·rintro w' ⟨s0, s1, s2, s3, s4, s5, s6, s7, s8, s9, s10, s11, s12, s13, s14⟩
    go_simp
    with_reducible rfl
   rotate_left
   ·simp only [Act.put, sl1, sl2, sl3, i64_w, i32_w]
    rfl
   refine pu_ 19 (some 66) (bz 27 8388607) HT_.out ?_
   refine take_ (i := 23) (N := some 70) (v := ?_) (a' := ?_) (bz 27 16777215) rfl rfl (take_ofW HT_.out HW_.out (by kernel_rfl)) (fun _ _ _ h => h) (Or.inl ⟨by rfl, ?_⟩) hHeld ?_ ?_
   rotate_left
   ·rintro w' ⟨s0, s1, s2, s3, s4, s5, s6, s7, s8, s9, s10, s11, s12, s13, s14⟩
    go_simp
    with_reducible rfl
   rotate_left
   ·simp only [Act.put, sl1, sl2, sl3, i64_w, i32_w]
    rfl
   refine pu_ 24 (some 71) (bz 27 33554431) HT_.out ?_
   refine one_ (i := 25) (N := some 10) (bz 27 67108863) rfl rfl (one_of HT_.out (by kernel_rfl)) (by decide) (fun K hK => ?_)
   refine box_step ?hg (N := 10) ?hd (cs := #[.int .i64 0, .int .i64 0, .int .i64 0, .int .i64 0, .string (⟨#[]⟩ : ByteArray)]) (t := 23) ?hr ?_; (case hd => rfl); (case hg => rfl); (case hr => first | (go_simp; done) | (go_simp; rfl))
   intro aa hg w25 hbox hb
   have HS0_ := (hb.cell (World.block_lt_of_cell? _ _ (hHeld.1))).trans (hHeld.1)
   have HS1_ := (hb.cell (World.block_lt_of_cell? _ _ (hHeld.2.1))).trans (hHeld.2.1)
   have HS2_ := (hb.cell (World.block_lt_of_cell? _ _ (hHeld.2.2.1))).trans (hHeld.2.2.1)
   have HS3_ := (hb.cell (World.block_lt_of_cell? _ _ (hHeld.2.2.2.1))).trans (hHeld.2.2.2.1)
   have HS4_ := (hb.cell (World.block_lt_of_cell? _ _ (hHeld.2.2.2.2.1))).trans (hHeld.2.2.2.2.1)
   have HS5_ := (hb.cell (World.block_lt_of_cell? _ _ (hHeld.2.2.2.2.2.1))).trans (hHeld.2.2.2.2.2.1)
   have HS6_ := (hb.cell (World.block_lt_of_cell? _ _ (hHeld.2.2.2.2.2.2.1))).trans (hHeld.2.2.2.2.2.2.1)
   have HS7_ := (hb.cell (World.block_lt_of_cell? _ _ (hHeld.2.2.2.2.2.2.2.1))).trans (hHeld.2.2.2.2.2.2.2.1)
   have HS8_ := (hb.cell (World.block_lt_of_cell? _ _ (hHeld.2.2.2.2.2.2.2.2.1))).trans (hHeld.2.2.2.2.2.2.2.2.1)
   have HS9_ := (hb.cell (World.block_lt_of_cell? _ _ (hHeld.2.2.2.2.2.2.2.2.2.1))).trans (hHeld.2.2.2.2.2.2.2.2.2.1)
   have HS10_ := (hb.cell (World.block_lt_of_cell? _ _ (hHeld.2.2.2.2.2.2.2.2.2.2.1))).trans (hHeld.2.2.2.2.2.2.2.2.2.2.1)
   have HS11_ := (hb.cell (World.block_lt_of_cell? _ _ (hHeld.2.2.2.2.2.2.2.2.2.2.2.1))).trans (hHeld.2.2.2.2.2.2.2.2.2.2.2.1)
   have HS12_ := (hb.cell (World.block_lt_of_cell? _ _ (hHeld.2.2.2.2.2.2.2.2.2.2.2.2.1))).trans (hHeld.2.2.2.2.2.2.2.2.2.2.2.2.1)
   have HS13_ := (hb.cell (World.block_lt_of_cell? _ _ (hHeld.2.2.2.2.2.2.2.2.2.2.2.2.2.1))).trans (hHeld.2.2.2.2.2.2.2.2.2.2.2.2.2.1)
   have HS14_ := (hb.cell (World.block_lt_of_cell? _ _ (hHeld.2.2.2.2.2.2.2.2.2.2.2.2.2.2))).trans (hHeld.2.2.2.2.2.2.2.2.2.2.2.2.2.2)
   have n0_ := Aside0.mk (Kd.R_below (by (with_reducible repeat (first | apply Kd.R_alloc | apply Kd.R_drewN | apply Kd.R_drew)); exact ac.out) hb)
   have n1_ := Aside0.mk (nb ad.out hb)
   have n2_ := Aside0.mk (below_step bw hb)
   have n3_ := Aside0.mk (hbox)
   have n4_ := Aside0.mk ((g1 hg bw : w.heap.size ≤ aa))
   have n5_ := Aside0.mk ((g1 hg bw : w.heap.size ≤ aa))
   have n6_ := Aside0.mk ((n1 hg ad.out : af ≠ aa))
   have n7_ := Aside0.mk ((n2 hg ad.out : aa ≠ af))
   clear ac
   clear ad
   clear HB
   have ac := n0_
   have ad := n1_
   have HB := n2_
   have ab := n3_
   have GW284 := n4_
   have GE284 := n5_
   have ag := n6_
   have ah := n7_
   clear n0_ n1_ n2_ n3_ n4_ n5_ n6_ n7_
   clear hb hbox hg
   refine hK.out _ _ ⟨HS0_, HS1_, HS2_, HS3_, HS4_, HS5_, HS6_, HS7_, HS8_, HS9_, HS10_, HS11_, HS12_, HS13_, HS14_⟩ (fun hHeld => ?_)
   clear hK K
   refine norm_ (a' := ?_) ?_ ?_
   rotate_left
   ·show Act.put _ (some 10) _ = _
    simp only [Act.put, sl1, sl2, sl3, i64_w, i32_w]
    rfl
   refine one_ (i := 26) (N := none) (bz 27 134217727) rfl rfl (one_of HT_.out (by kernel_rfl)) (by decide) (fun K hK => ?_)
   have hs26 : w25.cell? ⟨aa, 0, none⟩ = some (.int .i64 0) := (blk_cell ab.out 0).trans rfl
   have hfs26 := blk_frozen ab.out 0
   have hns26_0 := ag.out
   have hms26_0 := ah.out
   have hs27 : w25.cell? ⟨aa, 1, none⟩ = some (.int .i64 0) := (blk_cell ab.out 1).trans rfl
   have hfs27 := blk_frozen ab.out 1
   have hns27_0 := ag.out
   have hms27_0 := ah.out
   have hs28 : w25.cell? ⟨aa, 2, none⟩ = some (.int .i64 0) := (blk_cell ab.out 2).trans rfl
   have hfs28 := blk_frozen ab.out 2
   have hns28_0 := ag.out
   have hms28_0 := ah.out
   have hs29 : w25.cell? ⟨aa, 3, none⟩ = some (.int .i64 0) := (blk_cell ab.out 3).trans rfl
   have hfs29 := blk_frozen ab.out 3
   have hns29_0 := ag.out
   have hms29_0 := ah.out
   have hs30 : w25.cell? ⟨aa, 4, none⟩ = some (.string (⟨#[]⟩ : ByteArray)) := (blk_cell ab.out 4).trans rfl
   have hfs30 := blk_frozen ab.out 4
   have hns30_0 := ag.out
   have hms30_0 := ah.out
   refine skip_ (w1 := ?_) (by rfl) rfl ?_ ?_
   rotate_left
   ·go_simp
    rfl
   refine hK.out _ _ ⟨((cf (p := ⟨aa, _, none⟩) (Kd.own_blk (Kd.R_ne ac.out ab.out (by decide)))).trans (((cf (p := ⟨aa, _, none⟩) (Kd.own_blk (Kd.R_ne ac.out ab.out (by decide)))).trans (((cf (p := ⟨aa, _, none⟩) (Kd.own_blk (Kd.R_ne ac.out ab.out (by decide)))).trans (((cf (p := ⟨aa, _, none⟩) (Kd.own_blk (Kd.R_ne ac.out ab.out (by decide)))).trans (((cf (p := ⟨aa, _, none⟩) (Kd.own_blk (Kd.R_ne ac.out ab.out (by decide)))).trans (hHeld.1)))))))))), ((cf (p := ⟨aa, _, none⟩) (Kd.own_blk (Kd.R_ne ac.out ab.out (by decide)))).trans (((cf (p := ⟨aa, _, none⟩) (Kd.own_blk (Kd.R_ne ac.out ab.out (by decide)))).trans (((cf (p := ⟨aa, _, none⟩) (Kd.own_blk (Kd.R_ne ac.out ab.out (by decide)))).trans (((cf (p := ⟨aa, _, none⟩) (Kd.own_blk (Kd.R_ne ac.out ab.out (by decide)))).trans (((cf (p := ⟨aa, _, none⟩) (Kd.own_blk (Kd.R_ne ac.out ab.out (by decide)))).trans (hHeld.2.1)))))))))), ((cf (p := ⟨aa, _, none⟩) (Kd.own_blk (Kd.R_ne ac.out ab.out (by decide)))).trans (((cf (p := ⟨aa, _, none⟩) (Kd.own_blk (Kd.R_ne ac.out ab.out (by decide)))).trans (((cf (p := ⟨aa, _, none⟩) (Kd.own_blk (Kd.R_ne ac.out ab.out (by decide)))).trans (((cf (p := ⟨aa, _, none⟩) (Kd.own_blk (Kd.R_ne ac.out ab.out (by decide)))).trans (((cf (p := ⟨aa, _, none⟩) (Kd.own_blk (Kd.R_ne ac.out ab.out (by decide)))).trans (hHeld.2.2.1)))))))))), ((cf (p := ⟨aa, _, none⟩) (Kd.own_blk (Kd.R_ne ac.out ab.out (by decide)))).trans (((cf (p := ⟨aa, _, none⟩) (Kd.own_blk (Kd.R_ne ac.out ab.out (by decide)))).trans (((cf (p := ⟨aa, _, none⟩) (Kd.own_blk (Kd.R_ne ac.out ab.out (by decide)))).trans (((cf (p := ⟨aa, _, none⟩) (Kd.own_blk (Kd.R_ne ac.out ab.out (by decide)))).trans (((cf (p := ⟨aa, _, none⟩) (Kd.own_blk (Kd.R_ne ac.out ab.out (by decide)))).trans (hHeld.2.2.2.1)))))))))), ((cf (p := ⟨aa, _, none⟩) (Kd.own_blk (Kd.R_ne ac.out ab.out (by decide)))).trans (((cf (p := ⟨aa, _, none⟩) (Kd.own_blk (Kd.R_ne ac.out ab.out (by decide)))).trans (((cf (p := ⟨aa, _, none⟩) (Kd.own_blk (Kd.R_ne ac.out ab.out (by decide)))).trans (((cf (p := ⟨aa, _, none⟩) (Kd.own_blk (Kd.R_ne ac.out ab.out (by decide)))).trans (((cf (p := ⟨aa, _, none⟩) (Kd.own_blk (Kd.R_ne ac.out ab.out (by decide)))).trans (hHeld.2.2.2.2.1)))))))))), ((cf (p := ⟨aa, _, none⟩) (Kd.own_blk (Kd.R_ne ac.out ab.out (by decide)))).trans (((cf (p := ⟨aa, _, none⟩) (Kd.own_blk (Kd.R_ne ac.out ab.out (by decide)))).trans (((cf (p := ⟨aa, _, none⟩) (Kd.own_blk (Kd.R_ne ac.out ab.out (by decide)))).trans (((cf (p := ⟨aa, _, none⟩) (Kd.own_blk (Kd.R_ne ac.out ab.out (by decide)))).trans (((cf (p := ⟨aa, _, none⟩) (Kd.own_blk (Kd.R_ne ac.out ab.out (by decide)))).trans (hHeld.2.2.2.2.2.1)))))))))), ((cf (p := ⟨aa, _, none⟩) (Kd.own_blk (Kd.R_ne ac.out ab.out (by decide)))).trans (((cf (p := ⟨aa, _, none⟩) (Kd.own_blk (Kd.R_ne ac.out ab.out (by decide)))).trans (((cf (p := ⟨aa, _, none⟩) (Kd.own_blk (Kd.R_ne ac.out ab.out (by decide)))).trans (((cf (p := ⟨aa, _, none⟩) (Kd.own_blk (Kd.R_ne ac.out ab.out (by decide)))).trans (((cf (p := ⟨aa, _, none⟩) (Kd.own_blk (Kd.R_ne ac.out ab.out (by decide)))).trans (hHeld.2.2.2.2.2.2.1)))))))))), ((cf (p := ⟨aa, _, none⟩) (Kd.own_blk (Kd.R_ne ac.out ab.out (by decide)))).trans (((cf (p := ⟨aa, _, none⟩) (Kd.own_blk (Kd.R_ne ac.out ab.out (by decide)))).trans (((cf (p := ⟨aa, _, none⟩) (Kd.own_blk (Kd.R_ne ac.out ab.out (by decide)))).trans (((cf (p := ⟨aa, _, none⟩) (Kd.own_blk (Kd.R_ne ac.out ab.out (by decide)))).trans (((cf (p := ⟨aa, _, none⟩) (Kd.own_blk (Kd.R_ne ac.out ab.out (by decide)))).trans (hHeld.2.2.2.2.2.2.2.1)))))))))), ((cf (p := ⟨aa, _, none⟩) (Kd.own_blk (Kd.R_ne ac.out ab.out (by decide)))).trans (((cf (p := ⟨aa, _, none⟩) (Kd.own_blk (Kd.R_ne ac.out ab.out (by decide)))).trans (((cf (p := ⟨aa, _, none⟩) (Kd.own_blk (Kd.R_ne ac.out ab.out (by decide)))).trans (((cf (p := ⟨aa, _, none⟩) (Kd.own_blk (Kd.R_ne ac.out ab.out (by decide)))).trans (((cf (p := ⟨aa, _, none⟩) (Kd.own_blk (Kd.R_ne ac.out ab.out (by decide)))).trans (hHeld.2.2.2.2.2.2.2.2.1)))))))))), ((cf (p := ⟨aa, _, none⟩) (Kd.own_blk (Kd.R_ne ac.out ab.out (by decide)))).trans (((cf (p := ⟨aa, _, none⟩) (Kd.own_blk (Kd.R_ne ac.out ab.out (by decide)))).trans (((cf (p := ⟨aa, _, none⟩) (Kd.own_blk (Kd.R_ne ac.out ab.out (by decide)))).trans (((cf (p := ⟨aa, _, none⟩) (Kd.own_blk (Kd.R_ne ac.out ab.out (by decide)))).trans (((cf (p := ⟨aa, _, none⟩) (Kd.own_blk (Kd.R_ne ac.out ab.out (by decide)))).trans (hHeld.2.2.2.2.2.2.2.2.2.1)))))))))), ((cf (p := ⟨aa, _, none⟩) (Kd.own_blk (Kd.R_ne ac.out ab.out (by decide)))).trans (((cf (p := ⟨aa, _, none⟩) (Kd.own_blk (Kd.R_ne ac.out ab.out (by decide)))).trans (((cf (p := ⟨aa, _, none⟩) (Kd.own_blk (Kd.R_ne ac.out ab.out (by decide)))).trans (((cf (p := ⟨aa, _, none⟩) (Kd.own_blk (Kd.R_ne ac.out ab.out (by decide)))).trans (((cf (p := ⟨aa, _, none⟩) (Kd.own_blk (Kd.R_ne ac.out ab.out (by decide)))).trans (hHeld.2.2.2.2.2.2.2.2.2.2.1)))))))))), ((cf (p := ⟨aa, _, none⟩) (Kd.own_blk (Kd.R_ne ac.out ab.out (by decide)))).trans (((cf (p := ⟨aa, _, none⟩) (Kd.own_blk (Kd.R_ne ac.out ab.out (by decide)))).trans (((cf (p := ⟨aa, _, none⟩) (Kd.own_blk (Kd.R_ne ac.out ab.out (by decide)))).trans (((cf (p := ⟨aa, _, none⟩) (Kd.own_blk (Kd.R_ne ac.out ab.out (by decide)))).trans (((cf (p := ⟨aa, _, none⟩) (Kd.own_blk (Kd.R_ne ac.out ab.out (by decide)))).trans (hHeld.2.2.2.2.2.2.2.2.2.2.2.1)))))))))), ((cf (p := ⟨aa, _, none⟩) (Kd.own_blk (Kd.R_ne ac.out ab.out (by decide)))).trans (((cf (p := ⟨aa, _, none⟩) (Kd.own_blk (Kd.R_ne ac.out ab.out (by decide)))).trans (((cf (p := ⟨aa, _, none⟩) (Kd.own_blk (Kd.R_ne ac.out ab.out (by decide)))).trans (((cf (p := ⟨aa, _, none⟩) (Kd.own_blk (Kd.R_ne ac.out ab.out (by decide)))).trans (((cf (p := ⟨aa, _, none⟩) (Kd.own_blk (Kd.R_ne ac.out ab.out (by decide)))).trans (hHeld.2.2.2.2.2.2.2.2.2.2.2.2.1)))))))))), ((cf (p := ⟨aa, _, none⟩) (Kd.own_blk (Kd.R_ne ac.out ab.out (by decide)))).trans (((cf (p := ⟨aa, _, none⟩) (Kd.own_blk (Kd.R_ne ac.out ab.out (by decide)))).trans (((cf (p := ⟨aa, _, none⟩) (Kd.own_blk (Kd.R_ne ac.out ab.out (by decide)))).trans (((cf (p := ⟨aa, _, none⟩) (Kd.own_blk (Kd.R_ne ac.out ab.out (by decide)))).trans (((cf (p := ⟨aa, _, none⟩) (Kd.own_blk (Kd.R_ne ac.out ab.out (by decide)))).trans (hHeld.2.2.2.2.2.2.2.2.2.2.2.2.2.1)))))))))), ((cf (p := ⟨aa, _, none⟩) (Kd.own_blk (Kd.R_ne ac.out ab.out (by decide)))).trans (((cf (p := ⟨aa, _, none⟩) (Kd.own_blk (Kd.R_ne ac.out ab.out (by decide)))).trans (((cf (p := ⟨aa, _, none⟩) (Kd.own_blk (Kd.R_ne ac.out ab.out (by decide)))).trans (((cf (p := ⟨aa, _, none⟩) (Kd.own_blk (Kd.R_ne ac.out ab.out (by decide)))).trans (((cf (p := ⟨aa, _, none⟩) (Kd.own_blk (Kd.R_ne ac.out ab.out (by decide)))).trans (hHeld.2.2.2.2.2.2.2.2.2.2.2.2.2.2))))))))))⟩ (fun hHeld => ?_)
   clear hK K
   refine done_ (done_of HT_.out (by kernel_rfl)) ?_
   have hnb31 := ah.out
   have hnc31 := ag.out
   obtain ⟨hcz32_0, hcz32_1, hcz32_2, hcz32_3, hcz32_4, hfz32_0, hfz32_1, hfz32_2, hfz32_3, hfz32_4⟩ := bx5 ab.out
   have H := HhZ.out
   clear HhZ
   by_cases c22 : t285 = true
   ·subst c22
    have H1 : (some (wrap64 ((rd_T50 t274 0).f1), wrap64 ((rd_T50 t274 1).f1), wrap64 ((rd_T50 t274 2).f1), wrap64 ((rd_T50 t274 3).f1), (rd_T50 t274 4).f2, 0)) = some (r1, r2, r3, r4, r5, r6) := by rw [if_pos rfl] at H; exact H
    clear H
    have H := H1
    clear H1
    simp only [Option.some.injEq, Prod.mk.injEq] at H
    obtain ⟨rfl, rfl, rfl, rfl, rfl, rfl⟩ := H
    try go_wp2_with (first | ((with_reducible refine gate_callee (f := 18) rfl ?_); refine goesL_ (some 73) rfl rfl Tryd.func18 (by kernel_rfl) rfl #[.agg #[.int .i64 (wrap64 ((rd_T50 t274 0).f1)), .int .i64 (wrap64 ((rd_T50 t274 1).f1)), .int .i64 (wrap64 ((rd_T50 t274 2).f1)), .int .i64 (wrap64 ((rd_T50 t274 3).f1)), .string ((rd_T50 t274 4).f2)]] rfl am ?_; (with_reducible refine (carillonref09_Right.calls (wrap64 ((rd_T50 t274 0).f1)) (wrap64 ((rd_T50 t274 1).f1)) (wrap64 ((rd_T50 t274 2).f1)) (wrap64 ((rd_T50 t274 3).f1)) ((rd_T50 t274 4).f2) true _ A21.out).mono ?_); rintro e w33 ⟨rfl, hb⟩; refine ⟨_, rfl, ?_⟩; have n0_ := Aside0.mk (Kd.R_below (by (with_reducible repeat (first | apply Kd.R_alloc | apply Kd.R_drewN | apply Kd.R_drew)); exact (Kd.R_mono (Kd.R_far (p := ⟨aa, 4, none⟩) (Kd.R_far (p := ⟨aa, 3, none⟩) (Kd.R_far (p := ⟨aa, 2, none⟩) (Kd.R_far (p := ⟨aa, 1, none⟩) (Kd.R_far (p := ⟨aa, 0, none⟩) (Kd.R_types ac.out ab.out (by decide)) (fun _ hk => hk.2) (.int .i64 (wrap64 ((rd_T50 t274 0).f1)))) (fun _ hk => hk.2) (.int .i64 (wrap64 ((rd_T50 t274 1).f1)))) (fun _ hk => hk.2) (.int .i64 (wrap64 ((rd_T50 t274 2).f1)))) (fun _ hk => hk.2) (.int .i64 (wrap64 ((rd_T50 t274 3).f1)))) (fun _ hk => hk.2) (.string ((rd_T50 t274 4).f2))) (fun _ h_ => h_.1))) hb); have n1_ := Aside0.mk (blk_below (g := af) (o := .cells #[.int .i64 x271000_1, .int .i64 x271001_1, .int .i64 x271002_1, .int .i64 x271003_1, .string x271004_1] 23 (0, 0)) (by (with_reducible repeat (first | refine blk_drewN ?_ _ | refine blk_drew ?_ | refine blk_alloc ?_ _ | refine blk_far ?_ ag.out _)); exact ad.out) hb); have n2_ := Aside0.mk (blk_below (g := aa) (o := .cells #[.int .i64 (wrap64 ((rd_T50 t274 0).f1)), .int .i64 (wrap64 ((rd_T50 t274 1).f1)), .int .i64 (wrap64 ((rd_T50 t274 2).f1)), .int .i64 (wrap64 ((rd_T50 t274 3).f1)), .string ((rd_T50 t274 4).f2)] 23 (0, 0)) (by (with_reducible repeat (first | refine blk_drewN ?_ _ | refine blk_drew ?_ | refine blk_alloc ?_ _)); refine blk_put (cs := #[.int .i64 (wrap64 ((rd_T50 t274 0).f1)), .int .i64 (wrap64 ((rd_T50 t274 1).f1)), .int .i64 (wrap64 ((rd_T50 t274 2).f1)), .int .i64 (wrap64 ((rd_T50 t274 3).f1)), .string (⟨#[]⟩ : ByteArray)]) ?_ 4 _ rfl; (with_reducible repeat (first | refine blk_drewN ?_ _ | refine blk_drew ?_ | refine blk_alloc ?_ _)); refine blk_put (cs := #[.int .i64 (wrap64 ((rd_T50 t274 0).f1)), .int .i64 (wrap64 ((rd_T50 t274 1).f1)), .int .i64 (wrap64 ((rd_T50 t274 2).f1)), .int .i64 0, .string (⟨#[]⟩ : ByteArray)]) ?_ 3 _ rfl; (with_reducible repeat (first | refine blk_drewN ?_ _ | refine blk_drew ?_ | refine blk_alloc ?_ _)); refine blk_put (cs := #[.int .i64 (wrap64 ((rd_T50 t274 0).f1)), .int .i64 (wrap64 ((rd_T50 t274 1).f1)), .int .i64 0, .int .i64 0, .string (⟨#[]⟩ : ByteArray)]) ?_ 2 _ rfl; (with_reducible repeat (first | refine blk_drewN ?_ _ | refine blk_drew ?_ | refine blk_alloc ?_ _)); refine blk_put (cs := #[.int .i64 (wrap64 ((rd_T50 t274 0).f1)), .int .i64 0, .int .i64 0, .int .i64 0, .string (⟨#[]⟩ : ByteArray)]) ?_ 1 _ rfl; (with_reducible repeat (first | refine blk_drewN ?_ _ | refine blk_drew ?_ | refine blk_alloc ?_ _)); refine blk_put (cs := #[.int .i64 0, .int .i64 0, .int .i64 0, .int .i64 0, .string (⟨#[]⟩ : ByteArray)]) ?_ 0 _ rfl; (with_reducible repeat (first | refine blk_drewN ?_ _ | refine blk_drew ?_ | refine blk_alloc ?_ _)); exact ab.out) hb); have n3_ := Aside0.mk (below_step bw hb); clear ac; clear ad; clear ab; clear HB; have ac := n0_; have ad := n1_; have ab := n2_; have HB := n3_; clear n0_ n1_ n2_ n3_; (try clear hb); obtain ⟨hcz34_0, hcz34_1, hcz34_2, hcz34_3, hcz34_4, hfz34_0, hfz34_1, hfz34_2, hfz34_3, hfz34_4⟩ := bx5 ab.out; obtain ⟨hcz35_0, hcz35_1, hcz35_2, hcz35_3, hcz35_4, hfz35_0, hfz35_1, hfz35_2, hfz35_3, hfz35_4⟩ := bx5 ad.out))
    refine bodyPost_ret (results_ct rfl _ _ af 23 #[.int .i64 (wrap64 ((rd_T50 t274 0).f1)), .int .i64 (wrap64 ((rd_T50 t274 1).f1)), .int .i64 (wrap64 ((rd_T50 t274 2).f1)), .int .i64 (wrap64 ((rd_T50 t274 3).f1)), .string ((rd_T50 t274 4).f2)] (0, 0) _ rfl (by (with_reducible repeat (first | refine blk_drewN ?_ _ | refine blk_drew ?_ | refine blk_alloc ?_ _)); refine blk_put (cs := #[.int .i64 (wrap64 ((rd_T50 t274 0).f1)), .int .i64 (wrap64 ((rd_T50 t274 1).f1)), .int .i64 (wrap64 ((rd_T50 t274 2).f1)), .int .i64 (wrap64 ((rd_T50 t274 3).f1)), .string x271004_1]) ?_ 4 _ rfl; (with_reducible repeat (first | refine blk_drewN ?_ _ | refine blk_drew ?_ | refine blk_alloc ?_ _)); refine blk_put (cs := #[.int .i64 (wrap64 ((rd_T50 t274 0).f1)), .int .i64 (wrap64 ((rd_T50 t274 1).f1)), .int .i64 (wrap64 ((rd_T50 t274 2).f1)), .int .i64 x271003_1, .string x271004_1]) ?_ 3 _ rfl; (with_reducible repeat (first | refine blk_drewN ?_ _ | refine blk_drew ?_ | refine blk_alloc ?_ _)); refine blk_put (cs := #[.int .i64 (wrap64 ((rd_T50 t274 0).f1)), .int .i64 (wrap64 ((rd_T50 t274 1).f1)), .int .i64 x271002_1, .int .i64 x271003_1, .string x271004_1]) ?_ 2 _ rfl; (with_reducible repeat (first | refine blk_drewN ?_ _ | refine blk_drew ?_ | refine blk_alloc ?_ _)); refine blk_put (cs := #[.int .i64 (wrap64 ((rd_T50 t274 0).f1)), .int .i64 x271001_1, .int .i64 x271002_1, .int .i64 x271003_1, .string x271004_1]) ?_ 1 _ rfl; (with_reducible repeat (first | refine blk_drewN ?_ _ | refine blk_drew ?_ | refine blk_alloc ?_ _)); refine blk_put (cs := #[.int .i64 x271000_1, .int .i64 x271001_1, .int .i64 x271002_1, .int .i64 x271003_1, .string x271004_1]) ?_ 0 _ rfl; (with_reducible repeat (first | refine blk_drewN ?_ _ | refine blk_drew ?_ | refine blk_alloc ?_ _)); exact ad.out) Tryd.underlying23 rfl (by kernel_rfl)) rfl ?_
    exact ⟨er, bw⟩
   replace c22 := Bool.eq_false_iff.mpr c22
   subst c22
   have H1 : (some (0, 0, 0, 0, (⟨#[]⟩ : ByteArray), 10)) = some (r1, r2, r3, r4, r5, r6) := by rw [if_neg (show ¬ (false = true) by decide)] at H; exact H
   clear H
   have H := H1
   clear H1
   simp only [Option.some.injEq, Prod.mk.injEq] at H
   obtain ⟨rfl, rfl, rfl, rfl, rfl, rfl⟩ := H
   try go_wp2_with (first | ((with_reducible refine gate_callee (f := 18) rfl ?_); refine goesL_ (some 73) rfl rfl Tryd.func18 (by kernel_rfl) rfl #[.agg #[.int .i64 (wrap64 ((rd_T50 t274 0).f1)), .int .i64 (wrap64 ((rd_T50 t274 1).f1)), .int .i64 (wrap64 ((rd_T50 t274 2).f1)), .int .i64 (wrap64 ((rd_T50 t274 3).f1)), .string ((rd_T50 t274 4).f2)]] rfl am ?_; (with_reducible refine (carillonref09_Right.calls (wrap64 ((rd_T50 t274 0).f1)) (wrap64 ((rd_T50 t274 1).f1)) (wrap64 ((rd_T50 t274 2).f1)) (wrap64 ((rd_T50 t274 3).f1)) ((rd_T50 t274 4).f2) false _ A21.out).mono ?_); rintro e w46 ⟨rfl, hb⟩; refine ⟨_, rfl, ?_⟩; have n0_ := Aside0.mk (Kd.R_below (by (with_reducible repeat (first | apply Kd.R_alloc | apply Kd.R_drewN | apply Kd.R_drew)); exact (Kd.R_mono (Kd.R_far (p := ⟨aa, 4, none⟩) (Kd.R_far (p := ⟨aa, 3, none⟩) (Kd.R_far (p := ⟨aa, 2, none⟩) (Kd.R_far (p := ⟨aa, 1, none⟩) (Kd.R_far (p := ⟨aa, 0, none⟩) (Kd.R_types ac.out ab.out (by decide)) (fun _ hk => hk.2) (.int .i64 (wrap64 ((rd_T50 t274 0).f1)))) (fun _ hk => hk.2) (.int .i64 (wrap64 ((rd_T50 t274 1).f1)))) (fun _ hk => hk.2) (.int .i64 (wrap64 ((rd_T50 t274 2).f1)))) (fun _ hk => hk.2) (.int .i64 (wrap64 ((rd_T50 t274 3).f1)))) (fun _ hk => hk.2) (.string ((rd_T50 t274 4).f2))) (fun _ h_ => h_.1))) hb); have n1_ := Aside0.mk (blk_below (g := af) (o := .cells #[.int .i64 x271000_1, .int .i64 x271001_1, .int .i64 x271002_1, .int .i64 x271003_1, .string x271004_1] 23 (0, 0)) (by (with_reducible repeat (first | refine blk_drewN ?_ _ | refine blk_drew ?_ | refine blk_alloc ?_ _ | refine blk_far ?_ ag.out _)); exact ad.out) hb); have n2_ := Aside0.mk (blk_below (g := aa) (o := .cells #[.int .i64 (wrap64 ((rd_T50 t274 0).f1)), .int .i64 (wrap64 ((rd_T50 t274 1).f1)), .int .i64 (wrap64 ((rd_T50 t274 2).f1)), .int .i64 (wrap64 ((rd_T50 t274 3).f1)), .string ((rd_T50 t274 4).f2)] 23 (0, 0)) (by (with_reducible repeat (first | refine blk_drewN ?_ _ | refine blk_drew ?_ | refine blk_alloc ?_ _)); refine blk_put (cs := #[.int .i64 (wrap64 ((rd_T50 t274 0).f1)), .int .i64 (wrap64 ((rd_T50 t274 1).f1)), .int .i64 (wrap64 ((rd_T50 t274 2).f1)), .int .i64 (wrap64 ((rd_T50 t274 3).f1)), .string (⟨#[]⟩ : ByteArray)]) ?_ 4 _ rfl; (with_reducible repeat (first | refine blk_drewN ?_ _ | refine blk_drew ?_ | refine blk_alloc ?_ _)); refine blk_put (cs := #[.int .i64 (wrap64 ((rd_T50 t274 0).f1)), .int .i64 (wrap64 ((rd_T50 t274 1).f1)), .int .i64 (wrap64 ((rd_T50 t274 2).f1)), .int .i64 0, .string (⟨#[]⟩ : ByteArray)]) ?_ 3 _ rfl; (with_reducible repeat (first | refine blk_drewN ?_ _ | refine blk_drew ?_ | refine blk_alloc ?_ _)); refine blk_put (cs := #[.int .i64 (wrap64 ((rd_T50 t274 0).f1)), .int .i64 (wrap64 ((rd_T50 t274 1).f1)), .int .i64 0, .int .i64 0, .string (⟨#[]⟩ : ByteArray)]) ?_ 2 _ rfl; (with_reducible repeat (first | refine blk_drewN ?_ _ | refine blk_drew ?_ | refine blk_alloc ?_ _)); refine blk_put (cs := #[.int .i64 (wrap64 ((rd_T50 t274 0).f1)), .int .i64 0, .int .i64 0, .int .i64 0, .string (⟨#[]⟩ : ByteArray)]) ?_ 1 _ rfl; (with_reducible repeat (first | refine blk_drewN ?_ _ | refine blk_drew ?_ | refine blk_alloc ?_ _)); refine blk_put (cs := #[.int .i64 0, .int .i64 0, .int .i64 0, .int .i64 0, .string (⟨#[]⟩ : ByteArray)]) ?_ 0 _ rfl; (with_reducible repeat (first | refine blk_drewN ?_ _ | refine blk_drew ?_ | refine blk_alloc ?_ _)); exact ab.out) hb); have n3_ := Aside0.mk (below_step bw hb); clear ac; clear ad; clear ab; clear HB; have ac := n0_; have ad := n1_; have ab := n2_; have HB := n3_; clear n0_ n1_ n2_ n3_; (try clear hb); obtain ⟨hcz47_0, hcz47_1, hcz47_2, hcz47_3, hcz47_4, hfz47_0, hfz47_1, hfz47_2, hfz47_3, hfz47_4⟩ := bx5 ad.out))
   refine bodyPost_ret (results_ct rfl _ _ af 23 #[.int .i64 0, .int .i64 0, .int .i64 0, .int .i64 0, .string (⟨#[]⟩ : ByteArray)] (0, 0) _ rfl (by (with_reducible repeat (first | refine blk_drewN ?_ _ | refine blk_drew ?_ | refine blk_alloc ?_ _)); refine blk_put (cs := #[.int .i64 0, .int .i64 0, .int .i64 0, .int .i64 0, .string x271004_1]) ?_ 4 _ rfl; (with_reducible repeat (first | refine blk_drewN ?_ _ | refine blk_drew ?_ | refine blk_alloc ?_ _)); refine blk_put (cs := #[.int .i64 0, .int .i64 0, .int .i64 0, .int .i64 x271003_1, .string x271004_1]) ?_ 3 _ rfl; (with_reducible repeat (first | refine blk_drewN ?_ _ | refine blk_drew ?_ | refine blk_alloc ?_ _)); refine blk_put (cs := #[.int .i64 0, .int .i64 0, .int .i64 x271002_1, .int .i64 x271003_1, .string x271004_1]) ?_ 2 _ rfl; (with_reducible repeat (first | refine blk_drewN ?_ _ | refine blk_drew ?_ | refine blk_alloc ?_ _)); refine blk_put (cs := #[.int .i64 0, .int .i64 x271001_1, .int .i64 x271002_1, .int .i64 x271003_1, .string x271004_1]) ?_ 1 _ rfl; (with_reducible repeat (first | refine blk_drewN ?_ _ | refine blk_drew ?_ | refine blk_alloc ?_ _)); refine blk_put (cs := #[.int .i64 x271000_1, .int .i64 x271001_1, .int .i64 x271002_1, .int .i64 x271003_1, .string x271004_1]) ?_ 0 _ rfl; (with_reducible repeat (first | refine blk_drewN ?_ _ | refine blk_drew ?_ | refine blk_alloc ?_ _)); exact ad.out) Tryd.underlying23 rfl (by kernel_rfl)) rfl ?_
   exact ⟨er, bw⟩

end Go.Proofs.YtdpogggajdfedaaDoor.P
