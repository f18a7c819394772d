-- Printed by this session's program wip/xp.py (a turned copy of the kit's printer): functions, their contracts.
import Derived.Test.YtdpogggajdfedaaDoorPx0
import Derived.Test.YtdpogggajdfedaaDoorPx6
import Derived.Test.YtdpogggajdfedaaDoorPx7
import Derived.Test.YtdpogggajdfedaaDoorPx13
namespace Go.Proofs.YtdpogggajdfedaaDoor.P
open Go.RowKit Go.Proofs.YtdpogggajdfedaaDoorW.PrintWords Go.Proofs.YtdpogggajdfedaaDoorW.PrintLast Go.Proofs.YtdpogggajdfedaaDoorW.PrintMore
attribute [local go_sem] max2_int min2_int max_two min_two max_three min_three max_four min_four   -- for this text's walks alone
set_option linter.unusedVariables false
set_option linter.unusedSimpArgs false

/-! ### link_Decode: function 8 -/
def link_Decode.f (k : Nat) (a0 : ByteArray) : Option (Int × Int × Int × Int × ByteArray × Int) := (crc_Take.f a0).bind fun bt217 => (if bt217.2.2 = 0 then ((codec_Decode.f k (⟨#[108, 108, 108, 108, 116]⟩ : ByteArray) bt217.1).bind fun bt220 => (if bt220.2 = 0 then (if bt217.2.1 = (a0.size : Int) then (if 0 < (bt220.1.length : Int) then (if 1 < (bt220.1.length : Int) then (if 2 < (bt220.1.length : Int) then (if 3 < (bt220.1.length : Int) then (if (mx (mx (mx ((rd_T50 bt220.1 0).f1) ((rd_T50 bt220.1 1).f1)) ((rd_T50 bt220.1 2).f1)) ((rd_T50 bt220.1 3).f1)) > 9007199254740991 then (some (0, 0, 0, 0, (⟨#[]⟩ : ByteArray), 10)) else (if 4 < (bt220.1.length : Int) then ((link_right.f (wrap64 ((rd_T50 bt220.1 0).f1)) (wrap64 ((rd_T50 bt220.1 1).f1)) (wrap64 ((rd_T50 bt220.1 2).f1)) (wrap64 ((rd_T50 bt220.1 3).f1)) ((rd_T50 bt220.1 4).f2)).bind fun t234 => (if t234 = true then (some (wrap64 ((rd_T50 bt220.1 0).f1), wrap64 ((rd_T50 bt220.1 1).f1), wrap64 ((rd_T50 bt220.1 2).f1), wrap64 ((rd_T50 bt220.1 3).f1), (rd_T50 bt220.1 4).f2, 0)) else (some (0, 0, 0, 0, (⟨#[]⟩ : ByteArray), 10)))) else (none))) else (none)) else (none)) else (none)) else (none)) else (some (0, 0, 0, 0, (⟨#[]⟩ : ByteArray), 10))) else (some (0, 0, 0, 0, (⟨#[]⟩ : ByteArray), 10)))) else (some (0, 0, 0, 0, (⟨#[]⟩ : ByteArray), bt217.2.2)))
theorem link_Decode.mono : ∀ a0 k, LeO (link_Decode.f k a0) (link_Decode.f (k + 1) a0) := by
 intro a0 k
 unfold link_Decode.f
 repeat' first
   | (with_reducible exact codec_Decode.mono _ _ _)
   | (with_reducible exact LeO.refl _)
   | (with_reducible exact LeO.none _)
   | (with_reducible refine LeO.ite ?_ ?_)
   | (with_reducible refine LeO.bind ?_ (fun _ => ?_))
   | exact codec_Decode.mono _ _ _
   | exact LeO.none _
   | refine LeO.ite ?_ ?_
   | refine LeO.bind ?_ (fun _ => ?_)
def link_Decode.T5 : Bool × List (List Nat × List Nat) := (true, [([], []), ([0], [0]), ([1], [1]), ([2], [2]), ([2], [2]), ([4, 2], [2, 4]), ([3, 5, 2], [2, 3, 5]), ([2, 6], [2, 6]), ([7, 2], [7]), ([8], [8]), ([9, 8], [8, 9]), ([10, 8], [8, 10]), ([11, 8], [8, 11]), ([8], [8]), ([13, 8], [8, 13]), ([14, 8], [8, 14]), ([15, 8], [8, 15]), ([8], [8]), ([17, 8], [8, 17]), ([18, 8], [8, 18]), ([19, 8], [8, 19]), ([8], [8]), ([21, 8], [8, 21]), ([22, 8], [8, 22]), ([23, 8], [8, 23]), ([12, 16, 20, 24, 8], [8, 12, 16, 20, 24]), ([25, 8], [8, 25]), ([8, 26], [8, 26])])
def link_Decode.B5 : List Nat := [0, 1, 3, 7, 7, 23, 63, 127, 255, 511, 1023, 2047, 4095, 511, 8703, 25087, 57855, 511, 131583, 393727, 918015, 511, 2097663, 6291967, 14680575, 33554431, 67108863, 134217727]
theorem link_Decode.tab5 : rtab .any (opsOf Tryd.f8 5) = link_Decode.T5 := by kernel_rfl
theorem link_Decode.bits5 : waitsOk link_Decode.T5.2 link_Decode.B5 = true := by kernel_rfl
def link_Decode.T7 : Bool × List (List Nat × List Nat) := (true, [([], []), ([0], [0]), ([1], [1]), ([2], [2]), ([3], [3]), ([], []), ([5], [5]), ([6], [6]), ([7], [7]), ([8], [8]), ([], []), ([10], [10]), ([11], [11]), ([12], [12]), ([13], [13]), ([], []), ([15], [15]), ([16], [16]), ([17], [17]), ([18], [18]), ([], []), ([20], [20]), ([21], [21]), ([22], [22]), ([4, 9, 14, 19, 23], [4, 9, 14, 19, 23]), ([], []), ([25, 24, 0, 1, 2, 3, 4, 5, 6, 7, 8, 9, 10, 11, 12, 13, 14, 15, 16, 17, 18, 19, 20, 21, 22, 23, 24, 25], [24, 25])])
def link_Decode.B7 : List Nat := [0, 1, 3, 7, 15, 0, 32, 96, 224, 480, 0, 1024, 3072, 7168, 15360, 0, 32768, 98304, 229376, 491520, 0, 1048576, 3145728, 7340032, 16777215, 0, 67108863]
theorem link_Decode.tab7 : rtab .any (opsOf Tryd.f8 7) = link_Decode.T7 := by kernel_rfl
theorem link_Decode.bits7 : waitsOk link_Decode.T7.2 link_Decode.B7 = true := by kernel_rfl
set_option maxHeartbeats 8000000 in
set_option maxRecDepth 100000 in
theorem link_Decode.calls (k : Nat) (a0 : ByteArray) (r1 : Int) (r2 : Int) (r3 : Int) (r4 : Int) (r5 : ByteArray) (r6 : Int) (w : World) (HT_ : TabOk w) (h : link_Decode.f k a0 = some (r1, r2, r3, r4, r5, r6)) :
  Calls Tryd.prog 8 #[.string a0] w fun e w' => e = .returned (.tuple #[.agg #[.int .i64 r1, .int .i64 r2, .int .i64 r3, .int .i64 r4, .string r5], .int .i64 r6]) ∧ Below w.heap.size w w' := by
 have HT := Aside0.mk HT_
 clear HT_
 have hu23 := Tryd.underlying23
 have HB := Aside0.mk (Below.refl w.heap.size w)
 have H : ((crc_Take.f a0).bind fun bt217 => (if bt217.2.2 = 0 then ((codec_Decode.f k (⟨#[108, 108, 108, 108, 116]⟩ : ByteArray) bt217.1).bind fun bt220 => (if bt220.2 = 0 then (if bt217.2.1 = (a0.size : Int) then (if 0 < (bt220.1.length : Int) then (if 1 < (bt220.1.length : Int) then (if 2 < (bt220.1.length : Int) then (if 3 < (bt220.1.length : Int) then (if (mx (mx (mx ((rd_T50 bt220.1 0).f1) ((rd_T50 bt220.1 1).f1)) ((rd_T50 bt220.1 2).f1)) ((rd_T50 bt220.1 3).f1)) > 9007199254740991 then (some (0, 0, 0, 0, (⟨#[]⟩ : ByteArray), 10)) else (if 4 < (bt220.1.length : Int) then ((link_right.f (wrap64 ((rd_T50 bt220.1 0).f1)) (wrap64 ((rd_T50 bt220.1 1).f1)) (wrap64 ((rd_T50 bt220.1 2).f1)) (wrap64 ((rd_T50 bt220.1 3).f1)) ((rd_T50 bt220.1 4).f2)).bind fun t234 => (if t234 = true then (some (wrap64 ((rd_T50 bt220.1 0).f1), wrap64 ((rd_T50 bt220.1 1).f1), wrap64 ((rd_T50 bt220.1 2).f1), wrap64 ((rd_T50 bt220.1 3).f1), (rd_T50 bt220.1 4).f2, 0)) else (some (0, 0, 0, 0, (⟨#[]⟩ : ByteArray), 10)))) else (none))) else (none)) else (none)) else (none)) else (none)) else (some (0, 0, 0, 0, (⟨#[]⟩ : ByteArray), 10))) else (some (0, 0, 0, 0, (⟨#[]⟩ : ByteArray), 10)))) else (some (0, 0, 0, 0, (⟨#[]⟩ : ByteArray), bt217.2.2)))) = some (r1, r2, r3, r4, r5, r6) := h
 clear h
 replace H := Option.bind_eq_some_iff.mp H
 obtain ⟨⟨t217, t218, t219⟩, A20, H⟩ := H
 replace H : (if t219 = 0 then ((codec_Decode.f k (⟨#[108, 108, 108, 108, 116]⟩ : ByteArray) t217).bind fun bt220 => (if bt220.2 = 0 then (if t218 = (a0.size : Int) then (if 0 < (bt220.1.length : Int) then (if 1 < (bt220.1.length : Int) then (if 2 < (bt220.1.length : Int) then (if 3 < (bt220.1.length : Int) then (if (mx (mx (mx ((rd_T50 bt220.1 0).f1) ((rd_T50 bt220.1 1).f1)) ((rd_T50 bt220.1 2).f1)) ((rd_T50 bt220.1 3).f1)) > 9007199254740991 then (some (0, 0, 0, 0, (⟨#[]⟩ : ByteArray), 10)) else (if 4 < (bt220.1.length : Int) then ((link_right.f (wrap64 ((rd_T50 bt220.1 0).f1)) (wrap64 ((rd_T50 bt220.1 1).f1)) (wrap64 ((rd_T50 bt220.1 2).f1)) (wrap64 ((rd_T50 bt220.1 3).f1)) ((rd_T50 bt220.1 4).f2)).bind fun t234 => (if t234 = true then (some (wrap64 ((rd_T50 bt220.1 0).f1), wrap64 ((rd_T50 bt220.1 1).f1), wrap64 ((rd_T50 bt220.1 2).f1), wrap64 ((rd_T50 bt220.1 3).f1), (rd_T50 bt220.1 4).f2, 0)) else (some (0, 0, 0, 0, (⟨#[]⟩ : ByteArray), 10)))) else (none))) else (none)) else (none)) else (none)) else (none)) else (some (0, 0, 0, 0, (⟨#[]⟩ : ByteArray), 10))) else (some (0, 0, 0, 0, (⟨#[]⟩ : ByteArray), 10)))) else (some (0, 0, 0, 0, (⟨#[]⟩ : ByteArray), t219))) = some (r1, r2, r3, r4, r5, r6) := H
 have A2 := Aside0.mk A20
 clear A20
 by_cases c3 : t219 = 0; rotate_left
 ·rw [if_neg c3] at H
  have c3b0 : (t219 == 0) = false := beq_eq_false_iff_ne.mpr c3
  have c3b1 : (t219 != 0) = true := bne_iff_ne.mpr c3
  simp only [Option.some.injEq, Prod.mk.injEq] at H
  obtain ⟨rfl, rfl, rfl, rfl, rfl, rfl⟩ := H
  go_enter Tryd.func8, Tryd.ntmps8
  go_wp2_with (first | ((with_reducible refine gate_dst (N := 2) rfl ?_); (try (refine gate_guard (by rfl) ?_; dsimp only)); refine box_event ?hg (N := 2) ?hd (cs := #[.int .i64 0, .int .i64 0, .int .i64 0, .int .i64 0, .string (⟨#[]⟩ : ByteArray)]) (t := 23) ?hr ?_; (case hd => rfl); (case hg => rfl); (case hr => first | (go_simp; done) | (go_simp; rfl)); intro af hg w67 hbox hb; have n0_ := Aside0.mk (below_step bw hb); have n1_ := Aside0.mk (hbox); have n2_ := Aside0.mk ((g1 hg bw : w.heap.size ≤ af)); have n3_ := Aside0.mk ((g1 hg bw : w.heap.size ≤ af)); clear HB; have HB := n0_; have ae := n1_; have bd := n2_; have be := n3_; clear n0_ n1_ n2_ n3_; clear hb hbox hg) | ((with_reducible refine gate_callee (f := 21) rfl ?_); refine goesL_ (some 11) rfl rfl Tryd.func21 (by kernel_rfl) rfl #[.string a0] rfl am ?_; (with_reducible refine (crc_Take.calls a0 t217 t218 t219 _ tbk A2.out).mono ?_); rintro e w68 ⟨rfl, hb⟩; refine ⟨_, rfl, ?_⟩; have n0_ := Aside0.mk (nb ae.out hb); have n1_ := Aside0.mk (below_step bw hb); clear ae; clear HB; have ae := n0_; have HB := n1_; clear n0_ n1_; (try clear hb); obtain ⟨hcz69_0, hcz69_1, hcz69_2, hcz69_3, hcz69_4, hfz69_0, hfz69_1, hfz69_2, hfz69_3, hfz69_4⟩ := bx5 ae.out))
  refine bodyPost_ret (results_ct rfl _ _ af 23 #[.int .i64 0, .int .i64 0, .int .i64 0, .int .i64 0, .string (⟨#[]⟩ : ByteArray)] (0, 0) _ rfl (by (with_reducible repeat (first | refine blk_drewN ?_ _ | refine blk_drew ?_ | refine blk_alloc ?_ _)); refine blk_put (cs := #[.int .i64 0, .int .i64 0, .int .i64 0, .int .i64 0, .string (⟨#[]⟩ : ByteArray)]) ?_ 4 _ rfl; (with_reducible repeat (first | refine blk_drewN ?_ _ | refine blk_drew ?_ | refine blk_alloc ?_ _)); refine blk_put (cs := #[.int .i64 0, .int .i64 0, .int .i64 0, .int .i64 0, .string (⟨#[]⟩ : ByteArray)]) ?_ 3 _ rfl; (with_reducible repeat (first | refine blk_drewN ?_ _ | refine blk_drew ?_ | refine blk_alloc ?_ _)); refine blk_put (cs := #[.int .i64 0, .int .i64 0, .int .i64 0, .int .i64 0, .string (⟨#[]⟩ : ByteArray)]) ?_ 2 _ rfl; (with_reducible repeat (first | refine blk_drewN ?_ _ | refine blk_drew ?_ | refine blk_alloc ?_ _)); refine blk_put (cs := #[.int .i64 0, .int .i64 0, .int .i64 0, .int .i64 0, .string (⟨#[]⟩ : ByteArray)]) ?_ 1 _ rfl; (with_reducible repeat (first | refine blk_drewN ?_ _ | refine blk_drew ?_ | refine blk_alloc ?_ _)); refine blk_put (cs := #[.int .i64 0, .int .i64 0, .int .i64 0, .int .i64 0, .string (⟨#[]⟩ : ByteArray)]) ?_ 0 _ rfl; (with_reducible repeat (first | refine blk_drewN ?_ _ | refine blk_drew ?_ | refine blk_alloc ?_ _)); exact ae.out) Tryd.underlying23 rfl (by kernel_rfl)) rfl ?_
  exact ⟨er, bw⟩
 rw [if_pos c3] at H
 have c3b0 : (t219 == 0) = true := beq_iff_eq.mpr c3
 have c3b1 : (t219 != 0) = false := bne_eq_false_iff_eq.mpr c3
 clear c3
 replace H := Option.bind_eq_some_iff.mp H
 obtain ⟨⟨t220, t221⟩, A40, H⟩ := H
 replace H : (if t221 = 0 then (if t218 = (a0.size : Int) then (if 0 < (t220.length : Int) then (if 1 < (t220.length : Int) then (if 2 < (t220.length : Int) then (if 3 < (t220.length : Int) then (if (mx (mx (mx ((rd_T50 t220 0).f1) ((rd_T50 t220 1).f1)) ((rd_T50 t220 2).f1)) ((rd_T50 t220 3).f1)) > 9007199254740991 then (some (0, 0, 0, 0, (⟨#[]⟩ : ByteArray), 10)) else (if 4 < (t220.length : Int) then ((link_right.f (wrap64 ((rd_T50 t220 0).f1)) (wrap64 ((rd_T50 t220 1).f1)) (wrap64 ((rd_T50 t220 2).f1)) (wrap64 ((rd_T50 t220 3).f1)) ((rd_T50 t220 4).f2)).bind fun t234 => (if t234 = true then (some (wrap64 ((rd_T50 t220 0).f1), wrap64 ((rd_T50 t220 1).f1), wrap64 ((rd_T50 t220 2).f1), wrap64 ((rd_T50 t220 3).f1), (rd_T50 t220 4).f2, 0)) else (some (0, 0, 0, 0, (⟨#[]⟩ : ByteArray), 10)))) else (none))) else (none)) else (none)) else (none)) else (none)) else (some (0, 0, 0, 0, (⟨#[]⟩ : ByteArray), 10))) else (some (0, 0, 0, 0, (⟨#[]⟩ : ByteArray), 10))) = some (r1, r2, r3, r4, r5, r6) := H
 have A4 := Aside0.mk A40
 clear A40
 by_cases c5 : t221 = 0; rotate_left
 ·rw [if_neg c5] at H
  have c5b0 : (t221 == 0) = false := beq_eq_false_iff_ne.mpr c5
  have c5b1 : (t221 != 0) = true := bne_iff_ne.mpr c5
  simp only [Option.some.injEq, Prod.mk.injEq] at H
  obtain ⟨rfl, rfl, rfl, rfl, rfl, rfl⟩ := H
  go_enter Tryd.func8, Tryd.ntmps8
  try go_wp2_with (first | ((with_reducible refine gate_dst (N := 2) rfl ?_); (try (refine gate_guard (by rfl) ?_; dsimp only)); refine box_event ?hg (N := 2) ?hd (cs := #[.int .i64 0, .int .i64 0, .int .i64 0, .int .i64 0, .string (⟨#[]⟩ : ByteArray)]) (t := 23) ?hr ?_; (case hd => rfl); (case hg => rfl); (case hr => first | (go_simp; done) | (go_simp; rfl)); intro af hg w62 hbox hb; have n0_ := Aside0.mk (below_step bw hb); have n1_ := Aside0.mk (hbox); have n2_ := Aside0.mk ((g1 hg bw : w.heap.size ≤ af)); have n3_ := Aside0.mk ((g1 hg bw : w.heap.size ≤ af)); clear HB; have HB := n0_; have ae := n1_; have bd := n2_; have be := n3_; clear n0_ n1_ n2_ n3_; clear hb hbox hg) | ((with_reducible refine gate_callee (f := 21) rfl ?_); refine goesL_ (some 11) rfl rfl Tryd.func21 (by kernel_rfl) rfl #[.string a0] rfl am ?_; (with_reducible refine (crc_Take.calls a0 t217 t218 t219 _ tbk A2.out).mono ?_); rintro e w63 ⟨rfl, hb⟩; refine ⟨_, rfl, ?_⟩; have n0_ := Aside0.mk (nb ae.out hb); have n1_ := Aside0.mk (below_step bw hb); clear ae; clear HB; have ae := n0_; have HB := n1_; clear n0_ n1_; (try clear hb)) | ((with_reducible refine gate_callee (f := 22) rfl ?_); refine goesL_ (some 21) rfl rfl Tryd.func22 (by kernel_rfl) rfl #[.string (⟨#[108, 108, 108, 108, 116]⟩ : ByteArray), .string t217] rfl am ?_; (with_reducible refine (codec_Decode.calls k (⟨#[108, 108, 108, 108, 116]⟩ : ByteArray) t217 t220 t221 _ tbk A4.out).mono ?_); rintro e w64 ⟨v222, rfl, ho0, hb⟩; refine ⟨_, rfl, ?_⟩; have n0_ := Aside0.mk (Kd.R_lower ho0 (below_size bw)); have n1_ := Aside0.mk (nb ae.out hb); have n2_ := Aside0.mk (below_step bw hb); clear ae; clear HB; have aa := n0_; have ae := n1_; have HB := n2_; clear n0_ n1_ n2_; (try clear hb); (try clear ho0)))
  have n0_ := Aside0.mk (Kd.R_drew aa.out)
  have n1_ := Aside0.mk (blk_drew ae.out)
  have n2_ := Aside0.mk (below_drew1 HB.out)
  clear aa
  clear ae
  clear HB
  have aa := n0_
  have ae := n1_
  have HB := n2_
  clear n0_ n1_ n2_
  refine start_ (n := 28) (S := fun w' => True) (ds := []) (bz 28 0) (by kernel_rfl) rfl rfl trivial (fun hHeld => ?_); refine with_tabW link_Decode.tab5 link_Decode.bits5 (fun HT_ HW_ => ?_)
  generalize w64.drew = w65 at aa ae HB hHeld ⊢
  refine pu_ 0 (some 24) (bz 28 1) HT_.out ?_
  refine pu_ 1 (some 25) (bz 28 3) HT_.out ?_
  refine pu_ 2 (some 26) (bz 28 7) HT_.out ?_
  refine pure_ (i := 3) (N := some 27) (v := undef) (a' := ?_) (bz 28 15) rfl rfl (any_of HT_.out (by kernel_rfl)) (fun _ _ _ h => h) (Or.inr ⟨by rfl, rfl⟩) ?_ ?_
  rotate_left
  ·simp only [Act.put, sl1, sl2, sl3, i64_w, i32_w]
   rfl
  refine pure_ (i := 4) (N := some 28) (v := undef) (a' := ?_) (bz 28 31) rfl rfl (any_of HT_.out (by kernel_rfl)) (fun _ _ _ h => h) (Or.inr ⟨by rfl, rfl⟩) ?_ ?_
  rotate_left
  ·simp only [Act.put, sl1, sl2, sl3, i64_w, i32_w]
   rfl
  refine pure_ (i := 5) (N := some 29) (v := undef) (a' := ?_) (bz 28 63) rfl rfl (any_of HT_.out (by kernel_rfl)) (fun _ _ _ h => h) (Or.inr ⟨by rfl, rfl⟩) ?_ ?_
  rotate_left
  ·simp only [Act.put, sl1, sl2, sl3, i64_w, i32_w]
   rfl
  refine pure_ (i := 6) (N := some 30) (v := undef) (a' := ?_) (bz 28 127) rfl rfl (any_of HT_.out (by kernel_rfl)) (fun _ _ _ h => h) (Or.inr ⟨by rfl, rfl⟩) ?_ ?_
  rotate_left
  ·simp only [Act.put, sl1, sl2, sl3, i64_w, i32_w]
   rfl
  refine pu_ 7 (some 31) (bz 28 255) HT_.out ?_
  refine pu_ 8 (some 32) (bz 28 511) HT_.out ?_
  refine pure_ (i := 9) (N := some 33) (v := undef) (a' := ?_) (bz 28 1023) rfl rfl (any_of HT_.out (by kernel_rfl)) (fun _ _ _ h => h) (Or.inr ⟨by rfl, rfl⟩) ?_ ?_
  rotate_left
  ·simp only [Act.put, sl1, sl2, sl3, i64_w, i32_w]
   rfl
  refine pure_ (i := 10) (N := some 34) (v := undef) (a' := ?_) (bz 28 2047) rfl rfl (any_of HT_.out (by kernel_rfl)) (fun _ _ _ h => h) (Or.inr ⟨by rfl, rfl⟩) ?_ ?_
  rotate_left
  ·simp only [Act.put, sl1, sl2, sl3, i64_w, i32_w]
   rfl
  refine pure_ (i := 11) (N := some 35) (v := undef) (a' := ?_) (bz 28 4095) rfl rfl (any_of HT_.out (by kernel_rfl)) (fun _ _ _ h => h) (Or.inr ⟨by rfl, rfl⟩) ?_ ?_
  rotate_left
  ·simp only [Act.put, sl1, sl2, sl3, i64_w, i32_w]
   rfl
  refine pure_ (i := 12) (N := some 36) (v := undef) (a' := ?_) (bz 28 8191) rfl rfl (any_of HT_.out (by kernel_rfl)) (fun _ _ _ h => h) (Or.inr ⟨by rfl, rfl⟩) ?_ ?_
  rotate_left
  ·simp only [Act.put, sl1, sl2, sl3, i64_w, i32_w]
   rfl
  refine pure_ (i := 13) (N := some 37) (v := undef) (a' := ?_) (bz 28 16383) rfl rfl (any_of HT_.out (by kernel_rfl)) (fun _ _ _ h => h) (Or.inr ⟨by rfl, rfl⟩) ?_ ?_
  rotate_left
  ·simp only [Act.put, sl1, sl2, sl3, i64_w, i32_w]
   rfl
  refine pure_ (i := 14) (N := some 38) (v := undef) (a' := ?_) (bz 28 32767) rfl rfl (any_of HT_.out (by kernel_rfl)) (fun _ _ _ h => h) (Or.inr ⟨by rfl, rfl⟩) ?_ ?_
  rotate_left
  ·simp only [Act.put, sl1, sl2, sl3, i64_w, i32_w]
   rfl
  refine pure_ (i := 15) (N := some 39) (v := undef) (a' := ?_) (bz 28 65535) rfl rfl (any_of HT_.out (by kernel_rfl)) (fun _ _ _ h => h) (Or.inr ⟨by rfl, rfl⟩) ?_ ?_
  rotate_left
  ·simp only [Act.put, sl1, sl2, sl3, i64_w, i32_w]
   rfl
  refine pure_ (i := 16) (N := some 40) (v := undef) (a' := ?_) (bz 28 131071) rfl rfl (any_of HT_.out (by kernel_rfl)) (fun _ _ _ h => h) (Or.inr ⟨by rfl, rfl⟩) ?_ ?_
  rotate_left
  ·simp only [Act.put, sl1, sl2, sl3, i64_w, i32_w]
   rfl
  refine pure_ (i := 17) (N := some 41) (v := undef) (a' := ?_) (bz 28 262143) rfl rfl (any_of HT_.out (by kernel_rfl)) (fun _ _ _ h => h) (Or.inr ⟨by rfl, rfl⟩) ?_ ?_
  rotate_left
  ·simp only [Act.put, sl1, sl2, sl3, i64_w, i32_w]
   rfl
  refine pure_ (i := 18) (N := some 42) (v := undef) (a' := ?_) (bz 28 524287) rfl rfl (any_of HT_.out (by kernel_rfl)) (fun _ _ _ h => h) (Or.inr ⟨by rfl, rfl⟩) ?_ ?_
  rotate_left
  ·simp only [Act.put, sl1, sl2, sl3, i64_w, i32_w]
   rfl
  refine pure_ (i := 19) (N := some 43) (v := undef) (a' := ?_) (bz 28 1048575) rfl rfl (any_of HT_.out (by kernel_rfl)) (fun _ _ _ h => h) (Or.inr ⟨by rfl, rfl⟩) ?_ ?_
  rotate_left
  ·simp only [Act.put, sl1, sl2, sl3, i64_w, i32_w]
   rfl
  refine pure_ (i := 20) (N := some 44) (v := undef) (a' := ?_) (bz 28 2097151) rfl rfl (any_of HT_.out (by kernel_rfl)) (fun _ _ _ h => h) (Or.inr ⟨by rfl, rfl⟩) ?_ ?_
  rotate_left
  ·simp only [Act.put, sl1, sl2, sl3, i64_w, i32_w]
   rfl
  refine pure_ (i := 21) (N := some 45) (v := undef) (a' := ?_) (bz 28 4194303) rfl rfl (any_of HT_.out (by kernel_rfl)) (fun _ _ _ h => h) (Or.inr ⟨by rfl, rfl⟩) ?_ ?_
  rotate_left
  ·simp only [Act.put, sl1, sl2, sl3, i64_w, i32_w]
   rfl
  refine pure_ (i := 22) (N := some 46) (v := undef) (a' := ?_) (bz 28 8388607) rfl rfl (any_of HT_.out (by kernel_rfl)) (fun _ _ _ h => h) (Or.inr ⟨by rfl, rfl⟩) ?_ ?_
  rotate_left
  ·simp only [Act.put, sl1, sl2, sl3, i64_w, i32_w]
   rfl
  refine pure_ (i := 23) (N := some 47) (v := undef) (a' := ?_) (bz 28 16777215) rfl rfl (any_of HT_.out (by kernel_rfl)) (fun _ _ _ h => h) (Or.inr ⟨by rfl, rfl⟩) ?_ ?_
  rotate_left
  ·simp only [Act.put, sl1, sl2, sl3, i64_w, i32_w]
   rfl
  refine pure_ (i := 24) (N := some 48) (v := undef) (a' := ?_) (bz 28 33554431) rfl rfl (any_of HT_.out (by kernel_rfl)) (fun _ _ _ h => h) (Or.inr ⟨by rfl, rfl⟩) ?_ ?_
  rotate_left
  ·simp only [Act.put, sl1, sl2, sl3, i64_w, i32_w]
   rfl
  refine pure_ (i := 25) (N := some 49) (v := undef) (a' := ?_) (bz 28 67108863) rfl rfl (any_of HT_.out (by kernel_rfl)) (fun _ _ _ h => h) (Or.inr ⟨by rfl, rfl⟩) ?_ ?_
  rotate_left
  ·simp only [Act.put, sl1, sl2, sl3, i64_w, i32_w]
   rfl
  refine pure_ (i := 26) (N := some 50) (v := undef) (a' := ?_) (bz 28 134217727) rfl rfl (any_of HT_.out (by kernel_rfl)) (fun _ _ _ h => h) (Or.inr ⟨by rfl, rfl⟩) ?_ ?_
  rotate_left
  ·simp only [Act.put, sl1, sl2, sl3, i64_w, i32_w]
   rfl
  refine pu_ 27 (some 51) (bz 28 268435455) HT_.out ?_
  refine done_ (done_of HT_.out (by kernel_rfl)) ?_
  obtain ⟨hcz66_0, hcz66_1, hcz66_2, hcz66_3, hcz66_4, hfz66_0, hfz66_1, hfz66_2, hfz66_3, hfz66_4⟩ := bx5 ae.out
  try go_wp2
  refine bodyPost_ret (results_ct rfl _ _ af 23 #[.int .i64 0, .int .i64 0, .int .i64 0, .int .i64 0, .string (⟨#[]⟩ : ByteArray)] (0, 0) _ rfl (by (with_reducible repeat (first | refine blk_drewN ?_ _ | refine blk_drew ?_ | refine blk_alloc ?_ _)); refine blk_put (cs := #[.int .i64 0, .int .i64 0, .int .i64 0, .int .i64 0, .string (⟨#[]⟩ : ByteArray)]) ?_ 4 _ rfl; (with_reducible repeat (first | refine blk_drewN ?_ _ | refine blk_drew ?_ | refine blk_alloc ?_ _)); refine blk_put (cs := #[.int .i64 0, .int .i64 0, .int .i64 0, .int .i64 0, .string (⟨#[]⟩ : ByteArray)]) ?_ 3 _ rfl; (with_reducible repeat (first | refine blk_drewN ?_ _ | refine blk_drew ?_ | refine blk_alloc ?_ _)); refine blk_put (cs := #[.int .i64 0, .int .i64 0, .int .i64 0, .int .i64 0, .string (⟨#[]⟩ : ByteArray)]) ?_ 2 _ rfl; (with_reducible repeat (first | refine blk_drewN ?_ _ | refine blk_drew ?_ | refine blk_alloc ?_ _)); refine blk_put (cs := #[.int .i64 0, .int .i64 0, .int .i64 0, .int .i64 0, .string (⟨#[]⟩ : ByteArray)]) ?_ 1 _ rfl; (with_reducible repeat (first | refine blk_drewN ?_ _ | refine blk_drew ?_ | refine blk_alloc ?_ _)); refine blk_put (cs := #[.int .i64 0, .int .i64 0, .int .i64 0, .int .i64 0, .string (⟨#[]⟩ : ByteArray)]) ?_ 0 _ rfl; (with_reducible repeat (first | refine blk_drewN ?_ _ | refine blk_drew ?_ | refine blk_alloc ?_ _)); exact ae.out) Tryd.underlying23 rfl (by kernel_rfl)) rfl ?_
  exact ⟨er, bw⟩
 rw [if_pos c5] at H
 have c5b0 : (t221 == 0) = true := beq_iff_eq.mpr c5
 have c5b1 : (t221 != 0) = false := bne_eq_false_iff_eq.mpr c5
 clear c5
 by_cases c6 : t218 = (a0.size : Int); rotate_left
 ·rw [if_neg c6] at H
  have c6b0 : (t218 == (a0.size : Int)) = false := beq_eq_false_iff_ne.mpr c6
  have c6b1 : (t218 != (a0.size : Int)) = true := bne_iff_ne.mpr c6
  simp only [Option.some.injEq, Prod.mk.injEq] at H
  obtain ⟨rfl, rfl, rfl, rfl, rfl, rfl⟩ := H
  go_enter Tryd.func8, Tryd.ntmps8
  try go_wp2_with (first | ((with_reducible refine gate_dst (N := 2) rfl ?_); (try (refine gate_guard (by rfl) ?_; dsimp only)); refine box_event ?hg (N := 2) ?hd (cs := #[.int .i64 0, .int .i64 0, .int .i64 0, .int .i64 0, .string (⟨#[]⟩ : ByteArray)]) (t := 23) ?hr ?_; (case hd => rfl); (case hg => rfl); (case hr => first | (go_simp; done) | (go_simp; rfl)); intro af hg w57 hbox hb; have n0_ := Aside0.mk (below_step bw hb); have n1_ := Aside0.mk (hbox); have n2_ := Aside0.mk ((g1 hg bw : w.heap.size ≤ af)); have n3_ := Aside0.mk ((g1 hg bw : w.heap.size ≤ af)); clear HB; have HB := n0_; have ae := n1_; have bd := n2_; have be := n3_; clear n0_ n1_ n2_ n3_; clear hb hbox hg) | ((with_reducible refine gate_callee (f := 21) rfl ?_); refine goesL_ (some 11) rfl rfl Tryd.func21 (by kernel_rfl) rfl #[.string a0] rfl am ?_; (with_reducible refine (crc_Take.calls a0 t217 t218 t219 _ tbk A2.out).mono ?_); rintro e w58 ⟨rfl, hb⟩; refine ⟨_, rfl, ?_⟩; have n0_ := Aside0.mk (nb ae.out hb); have n1_ := Aside0.mk (below_step bw hb); clear ae; clear HB; have ae := n0_; have HB := n1_; clear n0_ n1_; (try clear hb)) | ((with_reducible refine gate_callee (f := 22) rfl ?_); refine goesL_ (some 21) rfl rfl Tryd.func22 (by kernel_rfl) rfl #[.string (⟨#[108, 108, 108, 108, 116]⟩ : ByteArray), .string t217] rfl am ?_; (with_reducible refine (codec_Decode.calls k (⟨#[108, 108, 108, 108, 116]⟩ : ByteArray) t217 t220 t221 _ tbk A4.out).mono ?_); rintro e w59 ⟨v222, rfl, ho0, hb⟩; refine ⟨_, rfl, ?_⟩; have n0_ := Aside0.mk (Kd.R_lower ho0 (below_size bw)); have n1_ := Aside0.mk (nb ae.out hb); have n2_ := Aside0.mk (below_step bw hb); clear ae; clear HB; have aa := n0_; have ae := n1_; have HB := n2_; clear n0_ n1_ n2_; (try clear hb); (try clear ho0)))
  have n0_ := Aside0.mk (Kd.R_drew aa.out)
  have n1_ := Aside0.mk (blk_drew ae.out)
  have n2_ := Aside0.mk (below_drew1 HB.out)
  clear aa
  clear ae
  clear HB
  have aa := n0_
  have ae := n1_
  have HB := n2_
  clear n0_ n1_ n2_
  refine start_ (n := 28) (S := fun w' => True) (ds := []) (bz 28 0) (by kernel_rfl) rfl rfl trivial (fun hHeld => ?_); refine with_tabW link_Decode.tab5 link_Decode.bits5 (fun HT_ HW_ => ?_)
  generalize w59.drew = w60 at aa ae HB hHeld ⊢
  refine pu_ 0 (some 24) (bz 28 1) HT_.out ?_
  refine pu_ 1 (some 25) (bz 28 3) HT_.out ?_
  refine pu_ 2 (some 26) (bz 28 7) HT_.out ?_
  refine pu_ 3 (some 27) (bz 28 15) HT_.out ?_
  refine pu_ 4 (some 28) (bz 28 31) HT_.out ?_
  refine pu_ 5 (some 29) (bz 28 63) HT_.out ?_
  refine pu_ 6 (some 30) (bz 28 127) HT_.out ?_
  refine pu_ 7 (some 31) (bz 28 255) HT_.out ?_
  refine pu_ 8 (some 32) (bz 28 511) HT_.out ?_
  refine pure_ (i := 9) (N := some 33) (v := undef) (a' := ?_) (bz 28 1023) rfl rfl (any_of HT_.out (by kernel_rfl)) (fun _ _ _ h => h) (Or.inr ⟨by rfl, rfl⟩) ?_ ?_
  rotate_left
  ·simp only [Act.put, sl1, sl2, sl3, i64_w, i32_w]
   rfl
  refine pure_ (i := 10) (N := some 34) (v := undef) (a' := ?_) (bz 28 2047) rfl rfl (any_of HT_.out (by kernel_rfl)) (fun _ _ _ h => h) (Or.inr ⟨by rfl, rfl⟩) ?_ ?_
  rotate_left
  ·simp only [Act.put, sl1, sl2, sl3, i64_w, i32_w]
   rfl
  refine pure_ (i := 11) (N := some 35) (v := undef) (a' := ?_) (bz 28 4095) rfl rfl (any_of HT_.out (by kernel_rfl)) (fun _ _ _ h => h) (Or.inr ⟨by rfl, rfl⟩) ?_ ?_
  rotate_left
  ·simp only [Act.put, sl1, sl2, sl3, i64_w, i32_w]
   rfl
  refine pure_ (i := 12) (N := some 36) (v := undef) (a' := ?_) (bz 28 8191) rfl rfl (any_of HT_.out (by kernel_rfl)) (fun _ _ _ h => h) (Or.inr ⟨by rfl, rfl⟩) ?_ ?_
  rotate_left
  ·simp only [Act.put, sl1, sl2, sl3, i64_w, i32_w]
   rfl
  refine pure_ (i := 13) (N := some 37) (v := undef) (a' := ?_) (bz 28 16383) rfl rfl (any_of HT_.out (by kernel_rfl)) (fun _ _ _ h => h) (Or.inr ⟨by rfl, rfl⟩) ?_ ?_
  rotate_left
  ·simp only [Act.put, sl1, sl2, sl3, i64_w, i32_w]
   rfl
  refine pure_ (i := 14) (N := some 38) (v := undef) (a' := ?_) (bz 28 32767) rfl rfl (any_of HT_.out (by kernel_rfl)) (fun _ _ _ h => h) (Or.inr ⟨by rfl, rfl⟩) ?_ ?_
  rotate_left
  ·simp only [Act.put, sl1, sl2, sl3, i64_w, i32_w]
   rfl
  refine pure_ (i := 15) (N := some 39) (v := undef) (a' := ?_) (bz 28 65535) rfl rfl (any_of HT_.out (by kernel_rfl)) (fun _ _ _ h => h) (Or.inr ⟨by rfl, rfl⟩) ?_ ?_
  rotate_left
  ·simp only [Act.put, sl1, sl2, sl3, i64_w, i32_w]
   rfl
  refine pure_ (i := 16) (N := some 40) (v := undef) (a' := ?_) (bz 28 131071) rfl rfl (any_of HT_.out (by kernel_rfl)) (fun _ _ _ h => h) (Or.inr ⟨by rfl, rfl⟩) ?_ ?_
  rotate_left
  ·simp only [Act.put, sl1, sl2, sl3, i64_w, i32_w]
   rfl
  refine pure_ (i := 17) (N := some 41) (v := undef) (a' := ?_) (bz 28 262143) rfl rfl (any_of HT_.out (by kernel_rfl)) (fun _ _ _ h => h) (Or.inr ⟨by rfl, rfl⟩) ?_ ?_
  rotate_left
  ·simp only [Act.put, sl1, sl2, sl3, i64_w, i32_w]
   rfl
  refine pure_ (i := 18) (N := some 42) (v := undef) (a' := ?_) (bz 28 524287) rfl rfl (any_of HT_.out (by kernel_rfl)) (fun _ _ _ h => h) (Or.inr ⟨by rfl, rfl⟩) ?_ ?_
  rotate_left
  ·simp only [Act.put, sl1, sl2, sl3, i64_w, i32_w]
   rfl
  refine pure_ (i := 19) (N := some 43) (v := undef) (a' := ?_) (bz 28 1048575) rfl rfl (any_of HT_.out (by kernel_rfl)) (fun _ _ _ h => h) (Or.inr ⟨by rfl, rfl⟩) ?_ ?_
  rotate_left
  ·simp only [Act.put, sl1, sl2, sl3, i64_w, i32_w]
   rfl
  refine pure_ (i := 20) (N := some 44) (v := undef) (a' := ?_) (bz 28 2097151) rfl rfl (any_of HT_.out (by kernel_rfl)) (fun _ _ _ h => h) (Or.inr ⟨by rfl, rfl⟩) ?_ ?_
  rotate_left
  ·simp only [Act.put, sl1, sl2, sl3, i64_w, i32_w]
   rfl
  refine pure_ (i := 21) (N := some 45) (v := undef) (a' := ?_) (bz 28 4194303) rfl rfl (any_of HT_.out (by kernel_rfl)) (fun _ _ _ h => h) (Or.inr ⟨by rfl, rfl⟩) ?_ ?_
  rotate_left
  ·simp only [Act.put, sl1, sl2, sl3, i64_w, i32_w]
   rfl
  refine pure_ (i := 22) (N := some 46) (v := undef) (a' := ?_) (bz 28 8388607) rfl rfl (any_of HT_.out (by kernel_rfl)) (fun _ _ _ h => h) (Or.inr ⟨by rfl, rfl⟩) ?_ ?_
  rotate_left
  ·simp only [Act.put, sl1, sl2, sl3, i64_w, i32_w]
   rfl
  refine pure_ (i := 23) (N := some 47) (v := undef) (a' := ?_) (bz 28 16777215) rfl rfl (any_of HT_.out (by kernel_rfl)) (fun _ _ _ h => h) (Or.inr ⟨by rfl, rfl⟩) ?_ ?_
  rotate_left
  ·simp only [Act.put, sl1, sl2, sl3, i64_w, i32_w]
   rfl
  refine pure_ (i := 24) (N := some 48) (v := undef) (a' := ?_) (bz 28 33554431) rfl rfl (any_of HT_.out (by kernel_rfl)) (fun _ _ _ h => h) (Or.inr ⟨by rfl, rfl⟩) ?_ ?_
  rotate_left
  ·simp only [Act.put, sl1, sl2, sl3, i64_w, i32_w]
   rfl
  refine pure_ (i := 25) (N := some 49) (v := undef) (a' := ?_) (bz 28 67108863) rfl rfl (any_of HT_.out (by kernel_rfl)) (fun _ _ _ h => h) (Or.inr ⟨by rfl, rfl⟩) ?_ ?_
  rotate_left
  ·simp only [Act.put, sl1, sl2, sl3, i64_w, i32_w]
   rfl
  refine pure_ (i := 26) (N := some 50) (v := undef) (a' := ?_) (bz 28 134217727) rfl rfl (any_of HT_.out (by kernel_rfl)) (fun _ _ _ h => h) (Or.inr ⟨by rfl, rfl⟩) ?_ ?_
  rotate_left
  ·simp only [Act.put, sl1, sl2, sl3, i64_w, i32_w]
   rfl
  refine pu_ 27 (some 51) (bz 28 268435455) HT_.out ?_
  refine done_ (done_of HT_.out (by kernel_rfl)) ?_
  obtain ⟨hcz61_0, hcz61_1, hcz61_2, hcz61_3, hcz61_4, hfz61_0, hfz61_1, hfz61_2, hfz61_3, hfz61_4⟩ := bx5 ae.out
  try go_wp2
  refine bodyPost_ret (results_ct rfl _ _ af 23 #[.int .i64 0, .int .i64 0, .int .i64 0, .int .i64 0, .string (⟨#[]⟩ : ByteArray)] (0, 0) _ rfl (by (with_reducible repeat (first | refine blk_drewN ?_ _ | refine blk_drew ?_ | refine blk_alloc ?_ _)); refine blk_put (cs := #[.int .i64 0, .int .i64 0, .int .i64 0, .int .i64 0, .string (⟨#[]⟩ : ByteArray)]) ?_ 4 _ rfl; (with_reducible repeat (first | refine blk_drewN ?_ _ | refine blk_drew ?_ | refine blk_alloc ?_ _)); refine blk_put (cs := #[.int .i64 0, .int .i64 0, .int .i64 0, .int .i64 0, .string (⟨#[]⟩ : ByteArray)]) ?_ 3 _ rfl; (with_reducible repeat (first | refine blk_drewN ?_ _ | refine blk_drew ?_ | refine blk_alloc ?_ _)); refine blk_put (cs := #[.int .i64 0, .int .i64 0, .int .i64 0, .int .i64 0, .string (⟨#[]⟩ : ByteArray)]) ?_ 2 _ rfl; (with_reducible repeat (first | refine blk_drewN ?_ _ | refine blk_drew ?_ | refine blk_alloc ?_ _)); refine blk_put (cs := #[.int .i64 0, .int .i64 0, .int .i64 0, .int .i64 0, .string (⟨#[]⟩ : ByteArray)]) ?_ 1 _ rfl; (with_reducible repeat (first | refine blk_drewN ?_ _ | refine blk_drew ?_ | refine blk_alloc ?_ _)); refine blk_put (cs := #[.int .i64 0, .int .i64 0, .int .i64 0, .int .i64 0, .string (⟨#[]⟩ : ByteArray)]) ?_ 0 _ rfl; (with_reducible repeat (first | refine blk_drewN ?_ _ | refine blk_drew ?_ | refine blk_alloc ?_ _)); exact ae.out) Tryd.underlying23 rfl (by kernel_rfl)) rfl ?_
  exact ⟨er, bw⟩
 rw [if_pos c6] at H
 have c6b0 : (t218 == (a0.size : Int)) = true := beq_iff_eq.mpr c6
 have c6b1 : (t218 != (a0.size : Int)) = false := bne_eq_false_iff_eq.mpr c6
 clear c6
 by_cases c7 : 0 < (t220.length : Int); rotate_left
 ·rw [if_neg c7] at H
  exact absurd H (by simp)
 rw [if_pos c7] at H
 have c7b0 : decide (0 < (t220.length : Int)) = true := decide_eq_true c7
 have c7b1 : decide (0 < t220.length) = true := decide_eq_true (by omega)
 clear c7
 by_cases c8 : 1 < (t220.length : Int); rotate_left
 ·rw [if_neg c8] at H
  exact absurd H (by simp)
 rw [if_pos c8] at H
 have c8b0 : decide (1 < (t220.length : Int)) = true := decide_eq_true c8
 have c8b1 : decide (1 < t220.length) = true := decide_eq_true (by omega)
 clear c8
 by_cases c9 : 2 < (t220.length : Int); rotate_left
 ·rw [if_neg c9] at H
  exact absurd H (by simp)
 rw [if_pos c9] at H
 have c9b0 : decide (2 < (t220.length : Int)) = true := decide_eq_true c9
 have c9b1 : decide (2 < t220.length) = true := decide_eq_true (by omega)
 clear c9
 by_cases c10 : 3 < (t220.length : Int); rotate_left
 ·rw [if_neg c10] at H
  exact absurd H (by simp)
 rw [if_pos c10] at H
 have c10b0 : decide (3 < (t220.length : Int)) = true := decide_eq_true c10
 have c10b1 : decide (3 < t220.length) = true := decide_eq_true (by omega)
 clear c10
 obtain ⟨ji11, hji11⟩ : ∃ j_ : Int, (mx ((rd_T50 t220 0).f1) ((rd_T50 t220 1).f1)) = j_ := ⟨_, rfl⟩
 replace H : (if (mx (mx (ji11) ((rd_T50 t220 2).f1)) ((rd_T50 t220 3).f1)) > 9007199254740991 then (some (0, 0, 0, 0, (⟨#[]⟩ : ByteArray), 10)) else (if 4 < (t220.length : Int) then ((link_right.f (wrap64 ((rd_T50 t220 0).f1)) (wrap64 ((rd_T50 t220 1).f1)) (wrap64 ((rd_T50 t220 2).f1)) (wrap64 ((rd_T50 t220 3).f1)) ((rd_T50 t220 4).f2)).bind fun t234 => (if t234 = true then (some (wrap64 ((rd_T50 t220 0).f1), wrap64 ((rd_T50 t220 1).f1), wrap64 ((rd_T50 t220 2).f1), wrap64 ((rd_T50 t220 3).f1), (rd_T50 t220 4).f2, 0)) else (some (0, 0, 0, 0, (⟨#[]⟩ : ByteArray), 10)))) else (none))) = some (r1, r2, r3, r4, r5, r6) := by first | (rw [hji11] at H; exact H) | (simp only [hji11] at H ⊢; exact H)
 (try rw [hji11] at A2)
 (try rw [hji11] at A4)
 have hji11_ : (if ((rd_T50 t220 0).f1) < ((rd_T50 t220 1).f1) then ((rd_T50 t220 1).f1) else ((rd_T50 t220 0).f1)) = ji11 := hji11
 obtain ⟨ji12, hji12⟩ : ∃ j_ : Int, (mx (ji11) ((rd_T50 t220 2).f1)) = j_ := ⟨_, rfl⟩
 replace H : (if (mx (ji12) ((rd_T50 t220 3).f1)) > 9007199254740991 then (some (0, 0, 0, 0, (⟨#[]⟩ : ByteArray), 10)) else (if 4 < (t220.length : Int) then ((link_right.f (wrap64 ((rd_T50 t220 0).f1)) (wrap64 ((rd_T50 t220 1).f1)) (wrap64 ((rd_T50 t220 2).f1)) (wrap64 ((rd_T50 t220 3).f1)) ((rd_T50 t220 4).f2)).bind fun t234 => (if t234 = true then (some (wrap64 ((rd_T50 t220 0).f1), wrap64 ((rd_T50 t220 1).f1), wrap64 ((rd_T50 t220 2).f1), wrap64 ((rd_T50 t220 3).f1), (rd_T50 t220 4).f2, 0)) else (some (0, 0, 0, 0, (⟨#[]⟩ : ByteArray), 10)))) else (none))) = some (r1, r2, r3, r4, r5, r6) := by first | (rw [hji12] at H; exact H) | (simp only [hji12] at H ⊢; exact H)
 (try rw [hji12] at A2)
 (try rw [hji12] at A4)
 have hji12_ : (if (ji11) < ((rd_T50 t220 2).f1) then ((rd_T50 t220 2).f1) else (ji11)) = ji12 := hji12
 obtain ⟨ji13, hji13⟩ : ∃ j_ : Int, (mx (ji12) ((rd_T50 t220 3).f1)) = j_ := ⟨_, rfl⟩
 replace H : (if (ji13) > 9007199254740991 then (some (0, 0, 0, 0, (⟨#[]⟩ : ByteArray), 10)) else (if 4 < (t220.length : Int) then ((link_right.f (wrap64 ((rd_T50 t220 0).f1)) (wrap64 ((rd_T50 t220 1).f1)) (wrap64 ((rd_T50 t220 2).f1)) (wrap64 ((rd_T50 t220 3).f1)) ((rd_T50 t220 4).f2)).bind fun t234 => (if t234 = true then (some (wrap64 ((rd_T50 t220 0).f1), wrap64 ((rd_T50 t220 1).f1), wrap64 ((rd_T50 t220 2).f1), wrap64 ((rd_T50 t220 3).f1), (rd_T50 t220 4).f2, 0)) else (some (0, 0, 0, 0, (⟨#[]⟩ : ByteArray), 10)))) else (none))) = some (r1, r2, r3, r4, r5, r6) := by first | (rw [hji13] at H; exact H) | (simp only [hji13] at H ⊢; exact H)
 (try rw [hji13] at A2)
 (try rw [hji13] at A4)
 have hji13_ : (if (ji12) < ((rd_T50 t220 3).f1) then ((rd_T50 t220 3).f1) else (ji12)) = ji13 := hji13
 by_cases c14 : (ji13) > 9007199254740991
 ·rw [if_pos c14] at H
  have c14b0 : decide (9007199254740991 < (ji13)) = true := decide_eq_true c14
  clear c14
  simp only [Option.some.injEq, Prod.mk.injEq] at H
  obtain ⟨rfl, rfl, rfl, rfl, rfl, rfl⟩ := H
  go_enter Tryd.func8, Tryd.ntmps8
  try go_wp2_with (first | ((with_reducible refine gate_dst (N := 2) rfl ?_); (try (refine gate_guard (by rfl) ?_; dsimp only)); refine box_event ?hg (N := 2) ?hd (cs := #[.int .i64 0, .int .i64 0, .int .i64 0, .int .i64 0, .string (⟨#[]⟩ : ByteArray)]) (t := 23) ?hr ?_; (case hd => rfl); (case hg => rfl); (case hr => first | (go_simp; done) | (go_simp; rfl)); intro af hg w15 hbox hb; have n0_ := Aside0.mk (below_step bw hb); have n1_ := Aside0.mk (hbox); have n2_ := Aside0.mk ((g1 hg bw : w.heap.size ≤ af)); have n3_ := Aside0.mk ((g1 hg bw : w.heap.size ≤ af)); clear HB; have HB := n0_; have ae := n1_; have bd := n2_; have be := n3_; clear n0_ n1_ n2_ n3_; clear hb hbox hg) | ((with_reducible refine gate_callee (f := 21) rfl ?_); refine goesL_ (some 11) rfl rfl Tryd.func21 (by kernel_rfl) rfl #[.string a0] rfl am ?_; (with_reducible refine (crc_Take.calls a0 t217 t218 t219 _ tbk A2.out).mono ?_); rintro e w16 ⟨rfl, hb⟩; refine ⟨_, rfl, ?_⟩; have n0_ := Aside0.mk (nb ae.out hb); have n1_ := Aside0.mk (below_step bw hb); clear ae; clear HB; have ae := n0_; have HB := n1_; clear n0_ n1_; (try clear hb)) | ((with_reducible refine gate_callee (f := 22) rfl ?_); refine goesL_ (some 21) rfl rfl Tryd.func22 (by kernel_rfl) rfl #[.string (⟨#[108, 108, 108, 108, 116]⟩ : ByteArray), .string t217] rfl am ?_; (with_reducible refine (codec_Decode.calls k (⟨#[108, 108, 108, 108, 116]⟩ : ByteArray) t217 t220 t221 _ tbk A4.out).mono ?_); rintro e w17 ⟨v222, rfl, ho0, hb⟩; refine ⟨_, rfl, ?_⟩; have n0_ := Aside0.mk (Kd.R_lower ho0 (below_size bw)); have n1_ := Aside0.mk (nb ae.out hb); have n2_ := Aside0.mk (below_step bw hb); clear ae; clear HB; have aa := n0_; have ae := n1_; have HB := n2_; clear n0_ n1_ n2_; (try clear hb); (try clear ho0)))
  have n0_ := Aside0.mk (Kd.R_drew aa.out)
  have n1_ := Aside0.mk (blk_drew ae.out)
  have n2_ := Aside0.mk (below_drew1 HB.out)
  clear aa
  clear ae
  clear HB
  have aa := n0_
  have ae := n1_
  have HB := n2_
  clear n0_ n1_ n2_
  obtain ⟨Ao19, co19, bi⟩ := Kd.R_slice aa.out
  (first | subst bi | (injection bi with f1_ f2_ f3_; have f4_ := f1_.symm; have f5_ := f3_.symm; clear f1_ f2_ f3_; subst f4_; subst f5_))
  have p224 : 0 ≤ (0 : Int) := (by omega)
  have q224 : 0 < (t220.length : Int) := od
  obtain ⟨ad, e224, ah, ai, aj⟩ := at_T50 (Kd.R_reads' aa.out).2.2 0 p224 q224
  cases e224
  have qi224 : (0 < t220.length) = True := eq_true (by omega)
  (try rw [show ((0 : Int)).toNat = 0 from rfl] at ah)
  (try rw [show 0 * 3 = 0 from rfl] at ah)
  (try rw [Addr.add_zero'] at ah)
  (try rw [show ((0 : Int)).toNat = 0 from rfl] at ai)
  (try rw [show 0 * 3 = 0 from rfl] at ai)
  (try rw [Addr.add_zero'] at ai)
  (try rw [show ((0 : Int)).toNat = 0 from rfl] at aj)
  (try rw [show 0 * 3 = 0 from rfl] at aj)
  (try rw [Addr.add_zero'] at aj)
  replace p224 := eq_true p224
  replace q224 := eq_true q224
  have p225 : 0 ≤ (1 : Int) := (by omega)
  have q225 : 1 < (t220.length : Int) := od
  obtain ⟨bf, e225, ak, al, an⟩ := at_T50 (Kd.R_reads' aa.out).2.2 1 p225 q225
  obtain rfl : ad = bf := (by injection e225)
  (try simp only [show (1 : Int).toNat = 1 from rfl, Nat.reduceMul, Nat.reduceEqDiff, Go.Addr.add, ↓reduceIte] at ak)
  (try simp only [show (1 : Int).toNat = 1 from rfl, Nat.reduceMul, Nat.reduceEqDiff, Go.Addr.add, ↓reduceIte] at al)
  (try simp only [show (1 : Int).toNat = 1 from rfl, Nat.reduceMul, Nat.reduceEqDiff, Go.Addr.add, ↓reduceIte] at an)
  have qi225 : (1 < t220.length) = True := eq_true (by omega)
  (try rw [show ((1 : Int)).toNat = 1 from rfl] at ak)
  (try rw [show 1 * 3 = 3 from rfl] at ak)
  (try rw [show ((1 : Int)).toNat = 1 from rfl] at al)
  (try rw [show 1 * 3 = 3 from rfl] at al)
  (try rw [show ((1 : Int)).toNat = 1 from rfl] at an)
  (try rw [show 1 * 3 = 3 from rfl] at an)
  replace p225 := eq_true p225
  replace q225 := eq_true q225
  have p226 : 0 ≤ (2 : Int) := (by omega)
  have q226 : 2 < (t220.length : Int) := od
  obtain ⟨bg, e226, ao, ap, aq⟩ := at_T50 (Kd.R_reads' aa.out).2.2 2 p226 q226
  obtain rfl : ad = bg := (by injection e226)
  (try simp only [show (2 : Int).toNat = 2 from rfl, Nat.reduceMul, Nat.reduceEqDiff, Go.Addr.add, ↓reduceIte] at ao)
  (try simp only [show (2 : Int).toNat = 2 from rfl, Nat.reduceMul, Nat.reduceEqDiff, Go.Addr.add, ↓reduceIte] at ap)
  (try simp only [show (2 : Int).toNat = 2 from rfl, Nat.reduceMul, Nat.reduceEqDiff, Go.Addr.add, ↓reduceIte] at aq)
  have qi226 : (2 < t220.length) = True := eq_true (by omega)
  (try rw [show ((2 : Int)).toNat = 2 from rfl] at ao)
  (try rw [show 2 * 3 = 6 from rfl] at ao)
  (try rw [show ((2 : Int)).toNat = 2 from rfl] at ap)
  (try rw [show 2 * 3 = 6 from rfl] at ap)
  (try rw [show ((2 : Int)).toNat = 2 from rfl] at aq)
  (try rw [show 2 * 3 = 6 from rfl] at aq)
  replace p226 := eq_true p226
  replace q226 := eq_true q226
  have p227 : 0 ≤ (3 : Int) := (by omega)
  have q227 : 3 < (t220.length : Int) := od
  obtain ⟨bh, e227, ar, au, av⟩ := at_T50 (Kd.R_reads' aa.out).2.2 3 p227 q227
  obtain rfl : ad = bh := (by injection e227)
  (try simp only [show (3 : Int).toNat = 3 from rfl, Nat.reduceMul, Nat.reduceEqDiff, Go.Addr.add, ↓reduceIte] at ar)
  (try simp only [show (3 : Int).toNat = 3 from rfl, Nat.reduceMul, Nat.reduceEqDiff, Go.Addr.add, ↓reduceIte] at au)
  (try simp only [show (3 : Int).toNat = 3 from rfl, Nat.reduceMul, Nat.reduceEqDiff, Go.Addr.add, ↓reduceIte] at av)
  have qi227 : (3 < t220.length) = True := eq_true (by omega)
  (try rw [show ((3 : Int)).toNat = 3 from rfl] at ar)
  (try rw [show 3 * 3 = 9 from rfl] at ar)
  (try rw [show ((3 : Int)).toNat = 3 from rfl] at au)
  (try rw [show 3 * 3 = 9 from rfl] at au)
  (try rw [show ((3 : Int)).toNat = 3 from rfl] at av)
  (try rw [show 3 * 3 = 9 from rfl] at av)
  replace p227 := eq_true p227
  replace q227 := eq_true q227
  refine start_ (n := 28) (S := fun w' => w'.cell? ad = some (.int .i64 ((rd_T50 t220 0).f0)) ∧ w'.cell? ⟨ad.block, ad.off + 1, none⟩ = some (.int .u64 ((rd_T50 t220 0).f1)) ∧ w'.cell? ⟨ad.block, ad.off + 2, none⟩ = some (.string ((rd_T50 t220 0).f2)) ∧ w'.cell? ⟨ad.block, ad.off + 3, none⟩ = some (.int .i64 ((rd_T50 t220 1).f0)) ∧ w'.cell? ⟨ad.block, ad.off + 3 + 1, none⟩ = some (.int .u64 ((rd_T50 t220 1).f1)) ∧ w'.cell? ⟨ad.block, ad.off + 3 + 2, none⟩ = some (.string ((rd_T50 t220 1).f2)) ∧ w'.cell? ⟨ad.block, ad.off + 6, none⟩ = some (.int .i64 ((rd_T50 t220 2).f0)) ∧ w'.cell? ⟨ad.block, ad.off + 6 + 1, none⟩ = some (.int .u64 ((rd_T50 t220 2).f1)) ∧ w'.cell? ⟨ad.block, ad.off + 6 + 2, none⟩ = some (.string ((rd_T50 t220 2).f2)) ∧ w'.cell? ⟨ad.block, ad.off + 9, none⟩ = some (.int .i64 ((rd_T50 t220 3).f0)) ∧ w'.cell? ⟨ad.block, ad.off + 9 + 1, none⟩ = some (.int .u64 ((rd_T50 t220 3).f1)) ∧ w'.cell? ⟨ad.block, ad.off + 9 + 2, none⟩ = some (.string ((rd_T50 t220 3).f2))) (ds := []) (bz 28 0) (by kernel_rfl) rfl rfl ⟨ah, ai, aj, ak, al, an, ao, ap, aq, ar, au, av⟩ (fun hHeld => ?_); refine with_tabW link_Decode.tab5 link_Decode.bits5 (fun HT_ HW_ => ?_)
  generalize w17.drew = w18 at aa ae HB ah ai aj ak al an ao ap aq ar au av hHeld ⊢
  refine pu_ 0 (some 24) (bz 28 1) HT_.out ?_
  refine pu_ 1 (some 25) (bz 28 3) HT_.out ?_
  refine pu_ 2 (some 26) (bz 28 7) HT_.out ?_
  refine pu_ 3 (some 27) (bz 28 15) HT_.out ?_
  refine pu_ 4 (some 28) (bz 28 31) HT_.out ?_
  refine pu_ 5 (some 29) (bz 28 63) HT_.out ?_
  refine pu_ 6 (some 30) (bz 28 127) HT_.out ?_
  refine pu_ 7 (some 31) (bz 28 255) HT_.out ?_
  refine pu_ 8 (some 32) (bz 28 511) HT_.out ?_
  refine pu_ 9 (some 33) (bz 28 1023) HT_.out ?_
  refine pu_ 10 (some 34) (bz 28 2047) HT_.out ?_
  refine pu_ 11 (some 35) (bz 28 4095) HT_.out ?_
  refine pu_ 13 (some 37) (bz 28 12287) HT_.out ?_
  refine pu_ 14 (some 38) (bz 28 28671) HT_.out ?_
  refine pu_ 15 (some 39) (bz 28 61439) HT_.out ?_
  refine pu_ 17 (some 41) (bz 28 192511) HT_.out ?_
  refine pu_ 18 (some 42) (bz 28 454655) HT_.out ?_
  refine pu_ 19 (some 43) (bz 28 978943) HT_.out ?_
  refine pu_ 21 (some 45) (bz 28 3076095) HT_.out ?_
  refine pu_ 22 (some 46) (bz 28 7270399) HT_.out ?_
  refine pu_ 23 (some 47) (bz 28 15659007) HT_.out ?_
  refine take_ (i := 12) (N := some 36) (v := ?_) (a' := ?_) (bz 28 15663103) rfl rfl (take_ofW HT_.out HW_.out (by kernel_rfl)) (fun _ _ _ h => h) (Or.inl ⟨by rfl, ?_⟩) hHeld ?_ ?_
  rotate_left
  ·rintro w' ⟨s0, s1, s2, s3, s4, s5, s6, s7, s8, s9, s10, s11⟩
   go_simp
   with_reducible rfl
  rotate_left
  ·simp only [Act.put, sl1, sl2, sl3, i64_w, i32_w]
   rfl
  refine take_ (i := 16) (N := some 40) (v := ?_) (a' := ?_) (bz 28 15728639) rfl rfl (take_ofW HT_.out HW_.out (by kernel_rfl)) (fun _ _ _ h => h) (Or.inl ⟨by rfl, ?_⟩) hHeld ?_ ?_
  rotate_left
  ·rintro w' ⟨s0, s1, s2, s3, s4, s5, s6, s7, s8, s9, s10, s11⟩
   go_simp
   with_reducible rfl
  rotate_left
  ·simp only [Act.put, sl1, sl2, sl3, i64_w, i32_w]
   rfl
  refine take_ (i := 20) (N := some 44) (v := ?_) (a' := ?_) (bz 28 16777215) rfl rfl (take_ofW HT_.out HW_.out (by kernel_rfl)) (fun _ _ _ h => h) (Or.inl ⟨by rfl, ?_⟩) hHeld ?_ ?_
  rotate_left
  ·rintro w' ⟨s0, s1, s2, s3, s4, s5, s6, s7, s8, s9, s10, s11⟩
   go_simp
   with_reducible rfl
  rotate_left
  ·simp only [Act.put, sl1, sl2, sl3, i64_w, i32_w]
   rfl
  refine take_ (i := 24) (N := some 48) (v := ?_) (a' := ?_) (bz 28 33554431) rfl rfl (take_ofW HT_.out HW_.out (by kernel_rfl)) (fun _ _ _ h => h) (Or.inl ⟨by rfl, ?_⟩) hHeld ?_ ?_
  rotate_left
  ·rintro w' ⟨s0, s1, s2, s3, s4, s5, s6, s7, s8, s9, s10, s11⟩
   go_simp
   with_reducible rfl
  rotate_left
  ·simp only [Act.put, sl1, sl2, sl3, i64_w, i32_w]
   rfl
  refine pu_ 25 (some 49) (bz 28 67108863) HT_.out ?_
  refine pu_ 26 (some 50) (bz 28 134217727) HT_.out ?_
  refine pu_ 27 (some 51) (bz 28 268435455) HT_.out ?_
  refine done_ (done_of HT_.out (by kernel_rfl)) ?_
  obtain ⟨hcz20_0, hcz20_1, hcz20_2, hcz20_3, hcz20_4, hfz20_0, hfz20_1, hfz20_2, hfz20_3, hfz20_4⟩ := bx5 ae.out
  try go_wp2
  refine bodyPost_ret (results_ct rfl _ _ af 23 #[.int .i64 0, .int .i64 0, .int .i64 0, .int .i64 0, .string (⟨#[]⟩ : ByteArray)] (0, 0) _ rfl (by (with_reducible repeat (first | refine blk_drewN ?_ _ | refine blk_drew ?_ | refine blk_alloc ?_ _)); refine blk_put (cs := #[.int .i64 0, .int .i64 0, .int .i64 0, .int .i64 0, .string (⟨#[]⟩ : ByteArray)]) ?_ 4 _ rfl; (with_reducible repeat (first | refine blk_drewN ?_ _ | refine blk_drew ?_ | refine blk_alloc ?_ _)); refine blk_put (cs := #[.int .i64 0, .int .i64 0, .int .i64 0, .int .i64 0, .string (⟨#[]⟩ : ByteArray)]) ?_ 3 _ rfl; (with_reducible repeat (first | refine blk_drewN ?_ _ | refine blk_drew ?_ | refine blk_alloc ?_ _)); refine blk_put (cs := #[.int .i64 0, .int .i64 0, .int .i64 0, .int .i64 0, .string (⟨#[]⟩ : ByteArray)]) ?_ 2 _ rfl; (with_reducible repeat (first | refine blk_drewN ?_ _ | refine blk_drew ?_ | refine blk_alloc ?_ _)); refine blk_put (cs := #[.int .i64 0, .int .i64 0, .int .i64 0, .int .i64 0, .string (⟨#[]⟩ : ByteArray)]) ?_ 1 _ rfl; (with_reducible repeat (first | refine blk_drewN ?_ _ | refine blk_drew ?_ | refine blk_alloc ?_ _)); refine blk_put (cs := #[.int .i64 0, .int .i64 0, .int .i64 0, .int .i64 0, .string (⟨#[]⟩ : ByteArray)]) ?_ 0 _ rfl; (with_reducible repeat (first | refine blk_drewN ?_ _ | refine blk_drew ?_ | refine blk_alloc ?_ _)); exact ae.out) Tryd.underlying23 rfl (by kernel_rfl)) rfl ?_
  exact ⟨by first | rfl | (simp [errW_none, errW_some] <;> rfl) | (simp only [← hji11, ← hji12, ← hji13]; first | rfl | (simp [errW_none, errW_some] <;> rfl)) | (simp [*, errW_none, errW_some] <;> rfl), bw⟩
 rw [if_neg c14] at H
 have c14b0 : decide (9007199254740991 < (ji13)) = false := decide_eq_false c14
 clear c14
 by_cases c21 : 4 < (t220.length : Int); rotate_left
 ·rw [if_neg c21] at H
  exact absurd H (by simp)
 rw [if_pos c21] at H
 have c21b0 : decide (4 < (t220.length : Int)) = true := decide_eq_true c21
 have c21b1 : decide (4 < t220.length) = true := decide_eq_true (by omega)
 clear c21
 replace H := Option.bind_eq_some_iff.mp H
 obtain ⟨t234, A220, H⟩ := H
 replace H : (if t234 = true then (some (wrap64 ((rd_T50 t220 0).f1), wrap64 ((rd_T50 t220 1).f1), wrap64 ((rd_T50 t220 2).f1), wrap64 ((rd_T50 t220 3).f1), (rd_T50 t220 4).f2, 0)) else (some (0, 0, 0, 0, (⟨#[]⟩ : ByteArray), 10))) = some (r1, r2, r3, r4, r5, r6) := H
 have A22 := Aside0.mk A220
 clear A220
 have HhZ := Aside0.mk H
 clear H
 go_enter Tryd.func8, Tryd.ntmps8
 try go_wp2_with (first | ((with_reducible refine gate_dst (N := 2) rfl ?_); (try (refine gate_guard (by rfl) ?_; dsimp only)); refine box_event ?hg (N := 2) ?hd (cs := #[.int .i64 0, .int .i64 0, .int .i64 0, .int .i64 0, .string (⟨#[]⟩ : ByteArray)]) (t := 23) ?hr ?_; (case hd => rfl); (case hg => rfl); (case hr => first | (go_simp; done) | (go_simp; rfl)); intro af hg w24 hbox hb; have n0_ := Aside0.mk (below_step bw hb); have n1_ := Aside0.mk (hbox); have n2_ := Aside0.mk ((g1 hg bw : w.heap.size ≤ af)); have n3_ := Aside0.mk ((g1 hg bw : w.heap.size ≤ af)); clear HB; have HB := n0_; have ae := n1_; have bd := n2_; have be := n3_; clear n0_ n1_ n2_ n3_; clear hb hbox hg) | ((with_reducible refine gate_callee (f := 21) rfl ?_); refine goesL_ (some 11) rfl rfl Tryd.func21 (by kernel_rfl) rfl #[.string a0] rfl am ?_; (with_reducible refine (crc_Take.calls a0 t217 t218 t219 _ tbk A2.out).mono ?_); rintro e w25 ⟨rfl, hb⟩; refine ⟨_, rfl, ?_⟩; have n0_ := Aside0.mk (nb ae.out hb); have n1_ := Aside0.mk (below_step bw hb); clear ae; clear HB; have ae := n0_; have HB := n1_; clear n0_ n1_; (try clear hb)) | ((with_reducible refine gate_callee (f := 22) rfl ?_); refine goesL_ (some 21) rfl rfl Tryd.func22 (by kernel_rfl) rfl #[.string (⟨#[108, 108, 108, 108, 116]⟩ : ByteArray), .string t217] rfl am ?_; (with_reducible refine (codec_Decode.calls k (⟨#[108, 108, 108, 108, 116]⟩ : ByteArray) t217 t220 t221 _ tbk A4.out).mono ?_); rintro e w26 ⟨v222, rfl, ho0, hb⟩; refine ⟨_, rfl, ?_⟩; have n0_ := Aside0.mk (Kd.R_lower ho0 (below_size bw)); have n1_ := Aside0.mk (nb ae.out hb); have n2_ := Aside0.mk (below_step bw hb); clear ae; clear HB; have aa := n0_; have ae := n1_; have HB := n2_; clear n0_ n1_ n2_; (try clear hb); (try clear ho0)))
 have n0_ := Aside0.mk (Kd.R_drew aa.out)
 have n1_ := Aside0.mk (blk_drew ae.out)
 have n2_ := Aside0.mk (below_drew1 HB.out)
 clear aa
 clear ae
 clear HB
 have aa := n0_
 have ae := n1_
 have HB := n2_
 clear n0_ n1_ n2_
 obtain ⟨Ao28, co28, bj⟩ := Kd.R_slice aa.out
 (first | subst bj | (injection bj with f1_ f2_ f3_; have f4_ := f1_.symm; have f5_ := f3_.symm; clear f1_ f2_ f3_; subst f4_; subst f5_))
 have p224 : 0 ≤ (0 : Int) := (by omega)
 have q224 : 0 < (t220.length : Int) := od
 obtain ⟨ad, e224, ah, ai, aj⟩ := at_T50 (Kd.R_reads' aa.out).2.2 0 p224 q224
 cases e224
 have qi224 : (0 < t220.length) = True := eq_true (by omega)
 (try rw [show ((0 : Int)).toNat = 0 from rfl] at ah)
 (try rw [show 0 * 3 = 0 from rfl] at ah)
 (try rw [Addr.add_zero'] at ah)
 (try rw [show ((0 : Int)).toNat = 0 from rfl] at ai)
 (try rw [show 0 * 3 = 0 from rfl] at ai)
 (try rw [Addr.add_zero'] at ai)
 (try rw [show ((0 : Int)).toNat = 0 from rfl] at aj)
 (try rw [show 0 * 3 = 0 from rfl] at aj)
 (try rw [Addr.add_zero'] at aj)
 replace p224 := eq_true p224
 replace q224 := eq_true q224
 have p225 : 0 ≤ (1 : Int) := (by omega)
 have q225 : 1 < (t220.length : Int) := od
 obtain ⟨bf, e225, ak, al, an⟩ := at_T50 (Kd.R_reads' aa.out).2.2 1 p225 q225
 obtain rfl : ad = bf := (by injection e225)
 (try simp only [show (1 : Int).toNat = 1 from rfl, Nat.reduceMul, Nat.reduceEqDiff, Go.Addr.add, ↓reduceIte] at ak)
 (try simp only [show (1 : Int).toNat = 1 from rfl, Nat.reduceMul, Nat.reduceEqDiff, Go.Addr.add, ↓reduceIte] at al)
 (try simp only [show (1 : Int).toNat = 1 from rfl, Nat.reduceMul, Nat.reduceEqDiff, Go.Addr.add, ↓reduceIte] at an)
 have qi225 : (1 < t220.length) = True := eq_true (by omega)
 (try rw [show ((1 : Int)).toNat = 1 from rfl] at ak)
 (try rw [show 1 * 3 = 3 from rfl] at ak)
 (try rw [show ((1 : Int)).toNat = 1 from rfl] at al)
 (try rw [show 1 * 3 = 3 from rfl] at al)
 (try rw [show ((1 : Int)).toNat = 1 from rfl] at an)
 (try rw [show 1 * 3 = 3 from rfl] at an)
 replace p225 := eq_true p225
 replace q225 := eq_true q225
 have p226 : 0 ≤ (2 : Int) := (by omega)
 have q226 : 2 < (t220.length : Int) := od
 obtain ⟨bg, e226, ao, ap, aq⟩ := at_T50 (Kd.R_reads' aa.out).2.2 2 p226 q226
 obtain rfl : ad = bg := (by injection e226)
 (try simp only [show (2 : Int).toNat = 2 from rfl, Nat.reduceMul, Nat.reduceEqDiff, Go.Addr.add, ↓reduceIte] at ao)
 (try simp only [show (2 : Int).toNat = 2 from rfl, Nat.reduceMul, Nat.reduceEqDiff, Go.Addr.add, ↓reduceIte] at ap)
 (try simp only [show (2 : Int).toNat = 2 from rfl, Nat.reduceMul, Nat.reduceEqDiff, Go.Addr.add, ↓reduceIte] at aq)
 have qi226 : (2 < t220.length) = True := eq_true (by omega)
 (try rw [show ((2 : Int)).toNat = 2 from rfl] at ao)
 (try rw [show 2 * 3 = 6 from rfl] at ao)
 (try rw [show ((2 : Int)).toNat = 2 from rfl] at ap)
 (try rw [show 2 * 3 = 6 from rfl] at ap)
 (try rw [show ((2 : Int)).toNat = 2 from rfl] at aq)
 (try rw [show 2 * 3 = 6 from rfl] at aq)
 replace p226 := eq_true p226
 replace q226 := eq_true q226
 have p227 : 0 ≤ (3 : Int) := (by omega)
 have q227 : 3 < (t220.length : Int) := od
 obtain ⟨bh, e227, ar, au, av⟩ := at_T50 (Kd.R_reads' aa.out).2.2 3 p227 q227
 obtain rfl : ad = bh := (by injection e227)
 (try simp only [show (3 : Int).toNat = 3 from rfl, Nat.reduceMul, Nat.reduceEqDiff, Go.Addr.add, ↓reduceIte] at ar)
 (try simp only [show (3 : Int).toNat = 3 from rfl, Nat.reduceMul, Nat.reduceEqDiff, Go.Addr.add, ↓reduceIte] at au)
 (try simp only [show (3 : Int).toNat = 3 from rfl, Nat.reduceMul, Nat.reduceEqDiff, Go.Addr.add, ↓reduceIte] at av)
 have qi227 : (3 < t220.length) = True := eq_true (by omega)
 (try rw [show ((3 : Int)).toNat = 3 from rfl] at ar)
 (try rw [show 3 * 3 = 9 from rfl] at ar)
 (try rw [show ((3 : Int)).toNat = 3 from rfl] at au)
 (try rw [show 3 * 3 = 9 from rfl] at au)
 (try rw [show ((3 : Int)).toNat = 3 from rfl] at av)
 (try rw [show 3 * 3 = 9 from rfl] at av)
 replace p227 := eq_true p227
 replace q227 := eq_true q227
 refine start_ (n := 28) (S := fun w' => w'.cell? ad = some (.int .i64 ((rd_T50 t220 0).f0)) ∧ w'.cell? ⟨ad.block, ad.off + 1, none⟩ = some (.int .u64 ((rd_T50 t220 0).f1)) ∧ w'.cell? ⟨ad.block, ad.off + 2, none⟩ = some (.string ((rd_T50 t220 0).f2)) ∧ w'.cell? ⟨ad.block, ad.off + 3, none⟩ = some (.int .i64 ((rd_T50 t220 1).f0)) ∧ w'.cell? ⟨ad.block, ad.off + 3 + 1, none⟩ = some (.int .u64 ((rd_T50 t220 1).f1)) ∧ w'.cell? ⟨ad.block, ad.off + 3 + 2, none⟩ = some (.string ((rd_T50 t220 1).f2)) ∧ w'.cell? ⟨ad.block, ad.off + 6, none⟩ = some (.int .i64 ((rd_T50 t220 2).f0)) ∧ w'.cell? ⟨ad.block, ad.off + 6 + 1, none⟩ = some (.int .u64 ((rd_T50 t220 2).f1)) ∧ w'.cell? ⟨ad.block, ad.off + 6 + 2, none⟩ = some (.string ((rd_T50 t220 2).f2)) ∧ w'.cell? ⟨ad.block, ad.off + 9, none⟩ = some (.int .i64 ((rd_T50 t220 3).f0)) ∧ w'.cell? ⟨ad.block, ad.off + 9 + 1, none⟩ = some (.int .u64 ((rd_T50 t220 3).f1)) ∧ w'.cell? ⟨ad.block, ad.off + 9 + 2, none⟩ = some (.string ((rd_T50 t220 3).f2))) (ds := []) (bz 28 0) (by kernel_rfl) rfl rfl ⟨ah, ai, aj, ak, al, an, ao, ap, aq, ar, au, av⟩ (fun hHeld => ?_); refine with_tabW link_Decode.tab5 link_Decode.bits5 (fun HT_ HW_ => ?_)
 generalize w26.drew = w27 at aa ae HB ah ai aj ak al an ao ap aq ar au av hHeld ⊢
 refine pu_ 0 (some 24) (bz 28 1) HT_.out ?_
 refine pu_ 1 (some 25) (bz 28 3) HT_.out ?_
 refine pu_ 2 (some 26) (bz 28 7) HT_.out ?_
 refine pu_ 3 (some 27) (bz 28 15) HT_.out ?_
 refine pu_ 4 (some 28) (bz 28 31) HT_.out ?_
 refine pu_ 5 (some 29) (bz 28 63) HT_.out ?_
 refine pu_ 6 (some 30) (bz 28 127) HT_.out ?_
 refine pu_ 7 (some 31) (bz 28 255) HT_.out ?_
 refine pu_ 8 (some 32) (bz 28 511) HT_.out ?_
 refine pu_ 9 (some 33) (bz 28 1023) HT_.out ?_
 refine pu_ 10 (some 34) (bz 28 2047) HT_.out ?_
 refine pu_ 11 (some 35) (bz 28 4095) HT_.out ?_
 refine pu_ 13 (some 37) (bz 28 12287) HT_.out ?_
 refine pu_ 14 (some 38) (bz 28 28671) HT_.out ?_
 refine pu_ 15 (some 39) (bz 28 61439) HT_.out ?_
 refine pu_ 17 (some 41) (bz 28 192511) HT_.out ?_
 refine pu_ 18 (some 42) (bz 28 454655) HT_.out ?_
 refine pu_ 19 (some 43) (bz 28 978943) HT_.out ?_
 refine pu_ 21 (some 45) (bz 28 3076095) HT_.out ?_
 refine pu_ 22 (some 46) (bz 28 7270399) HT_.out ?_
 refine pu_ 23 (some 47) (bz 28 15659007) HT_.out ?_
 refine take_ (i := 12) (N := some 36) (v := ?_) (a' := ?_) (bz 28 15663103) rfl rfl (take_ofW HT_.out HW_.out (by kernel_rfl)) (fun _ _ _ h => h) (Or.inl ⟨by rfl, ?_⟩) hHeld ?_ ?_
 rotate_left
 ·rintro w' ⟨s0, s1, s2, s3, s4, s5, s6, s7, s8, s9, s10, s11⟩
  go_simp
  with_reducible rfl
 rotate_left
 ·simp only [Act.put, sl1, sl2, sl3, i64_w, i32_w]
  rfl
 refine take_ (i := 16) (N := some 40) (v := ?_) (a' := ?_) (bz 28 15728639) rfl rfl (take_ofW HT_.out HW_.out (by kernel_rfl)) (fun _ _ _ h => h) (Or.inl ⟨by rfl, ?_⟩) hHeld ?_ ?_
 rotate_left
 ·rintro w' ⟨s0, s1, s2, s3, s4, s5, s6, s7, s8, s9, s10, s11⟩
  go_simp
  with_reducible rfl
 rotate_left
 ·simp only [Act.put, sl1, sl2, sl3, i64_w, i32_w]
  rfl
 refine take_ (i := 20) (N := some 44) (v := ?_) (a' := ?_) (bz 28 16777215) rfl rfl (take_ofW HT_.out HW_.out (by kernel_rfl)) (fun _ _ _ h => h) (Or.inl ⟨by rfl, ?_⟩) hHeld ?_ ?_
 rotate_left
 ·rintro w' ⟨s0, s1, s2, s3, s4, s5, s6, s7, s8, s9, s10, s11⟩
  go_simp
  with_reducible rfl
 rotate_left
 ·simp only [Act.put, sl1, sl2, sl3, i64_w, i32_w]
  rfl
 refine take_ (i := 24) (N := some 48) (v := ?_) (a' := ?_) (bz 28 33554431) rfl rfl (take_ofW HT_.out HW_.out (by kernel_rfl)) (fun _ _ _ h => h) (Or.inl ⟨by rfl, ?_⟩) hHeld ?_ ?_
 rotate_left
 ·rintro w' ⟨s0, s1, s2, s3, s4, s5, s6, s7, s8, s9, s10, s11⟩
  go_simp
  with_reducible rfl
 rotate_left
 ·simp only [Act.put, sl1, sl2, sl3, i64_w, i32_w]
  rfl
 refine pu_ 25 (some 49) (bz 28 67108863) HT_.out ?_
 refine pu_ 26 (some 50) (bz 28 134217727) HT_.out ?_
 refine pu_ 27 (some 51) (bz 28 268435455) HT_.out ?_
 refine done_ (done_of HT_.out (by kernel_rfl)) ?_
 try go_wp2
 have n0_ := Aside0.mk (Kd.R_drew aa.out)
 have n1_ := Aside0.mk (blk_drew ae.out)
 have n2_ := Aside0.mk (below_drew1 HB.out)
 clear aa
 clear ae
 clear HB
 have aa := n0_
 have ae := n1_
 have HB := n2_
 clear n0_ n1_ n2_
 have p228 : 0 ≤ (0 : Int) := (by omega)
 have q228 : 0 < (t220.length : Int) := od
 obtain ⟨ad228, e228, ax, ay, az⟩ := at_T50 (Kd.R_reads' aa.out).2.2 0 p228 q228
 obtain rfl : ad = ad228 := (by injection e228)
 have qi228 : (0 < t220.length) = True := eq_true (by omega)
 (try rw [show ((0 : Int)).toNat = 0 from rfl] at ax)
 (try rw [show 0 * 3 = 0 from rfl] at ax)
 (try rw [Addr.add_zero'] at ax)
 (try rw [show ((0 : Int)).toNat = 0 from rfl] at ay)
 (try rw [show 0 * 3 = 0 from rfl] at ay)
 (try rw [Addr.add_zero'] at ay)
 (try rw [show ((0 : Int)).toNat = 0 from rfl] at az)
 (try rw [show 0 * 3 = 0 from rfl] at az)
 (try rw [Addr.add_zero'] at az)
 replace p228 := eq_true p228
 replace q228 := eq_true q228
 have p229 : 0 ≤ (1 : Int) := (by omega)
 have q229 : 1 < (t220.length : Int) := od
 obtain ⟨ad229, e229, a1, a2, a3⟩ := at_T50 (Kd.R_reads' aa.out).2.2 1 p229 q229
 obtain rfl : ad = ad229 := (by injection e229)
 (try simp only [show (1 : Int).toNat = 1 from rfl, Nat.reduceMul, Nat.reduceEqDiff, Go.Addr.add, ↓reduceIte] at a1)
 (try simp only [show (1 : Int).toNat = 1 from rfl, Nat.reduceMul, Nat.reduceEqDiff, Go.Addr.add, ↓reduceIte] at a2)
 (try simp only [show (1 : Int).toNat = 1 from rfl, Nat.reduceMul, Nat.reduceEqDiff, Go.Addr.add, ↓reduceIte] at a3)
 have qi229 : (1 < t220.length) = True := eq_true (by omega)
 (try rw [show ((1 : Int)).toNat = 1 from rfl] at a1)
 (try rw [show 1 * 3 = 3 from rfl] at a1)
 (try rw [show ((1 : Int)).toNat = 1 from rfl] at a2)
 (try rw [show 1 * 3 = 3 from rfl] at a2)
 (try rw [show ((1 : Int)).toNat = 1 from rfl] at a3)
 (try rw [show 1 * 3 = 3 from rfl] at a3)
 replace p229 := eq_true p229
 replace q229 := eq_true q229
 have p230 : 0 ≤ (2 : Int) := (by omega)
 have q230 : 2 < (t220.length : Int) := od
 obtain ⟨ad230, e230, a4, a5, a6⟩ := at_T50 (Kd.R_reads' aa.out).2.2 2 p230 q230
 obtain rfl : ad = ad230 := (by injection e230)
 (try simp only [show (2 : Int).toNat = 2 from rfl, Nat.reduceMul, Nat.reduceEqDiff, Go.Addr.add, ↓reduceIte] at a4)
 (try simp only [show (2 : Int).toNat = 2 from rfl, Nat.reduceMul, Nat.reduceEqDiff, Go.Addr.add, ↓reduceIte] at a5)
 (try simp only [show (2 : Int).toNat = 2 from rfl, Nat.reduceMul, Nat.reduceEqDiff, Go.Addr.add, ↓reduceIte] at a6)
 have qi230 : (2 < t220.length) = True := eq_true (by omega)
 (try rw [show ((2 : Int)).toNat = 2 from rfl] at a4)
 (try rw [show 2 * 3 = 6 from rfl] at a4)
 (try rw [show ((2 : Int)).toNat = 2 from rfl] at a5)
 (try rw [show 2 * 3 = 6 from rfl] at a5)
 (try rw [show ((2 : Int)).toNat = 2 from rfl] at a6)
 (try rw [show 2 * 3 = 6 from rfl] at a6)
 replace p230 := eq_true p230
 replace q230 := eq_true q230
 have p231 : 0 ≤ (3 : Int) := (by omega)
 have q231 : 3 < (t220.length : Int) := od
 obtain ⟨ad231, e231, a7, a8, a9⟩ := at_T50 (Kd.R_reads' aa.out).2.2 3 p231 q231
 obtain rfl : ad = ad231 := (by injection e231)
 (try simp only [show (3 : Int).toNat = 3 from rfl, Nat.reduceMul, Nat.reduceEqDiff, Go.Addr.add, ↓reduceIte] at a7)
 (try simp only [show (3 : Int).toNat = 3 from rfl, Nat.reduceMul, Nat.reduceEqDiff, Go.Addr.add, ↓reduceIte] at a8)
 (try simp only [show (3 : Int).toNat = 3 from rfl, Nat.reduceMul, Nat.reduceEqDiff, Go.Addr.add, ↓reduceIte] at a9)
 have qi231 : (3 < t220.length) = True := eq_true (by omega)
 (try rw [show ((3 : Int)).toNat = 3 from rfl] at a7)
 (try rw [show 3 * 3 = 9 from rfl] at a7)
 (try rw [show ((3 : Int)).toNat = 3 from rfl] at a8)
 (try rw [show 3 * 3 = 9 from rfl] at a8)
 (try rw [show ((3 : Int)).toNat = 3 from rfl] at a9)
 (try rw [show 3 * 3 = 9 from rfl] at a9)
 replace p231 := eq_true p231
 replace q231 := eq_true q231
 have p232 : 0 ≤ (4 : Int) := (by omega)
 have q232 : 4 < (t220.length : Int) := od
 obtain ⟨ad232, e232, ba, bb, bc⟩ := at_T50 (Kd.R_reads' aa.out).2.2 4 p232 q232
 obtain rfl : ad = ad232 := (by injection e232)
 (try simp only [show (4 : Int).toNat = 4 from rfl, Nat.reduceMul, Nat.reduceEqDiff, Go.Addr.add, ↓reduceIte] at ba)
 (try simp only [show (4 : Int).toNat = 4 from rfl, Nat.reduceMul, Nat.reduceEqDiff, Go.Addr.add, ↓reduceIte] at bb)
 (try simp only [show (4 : Int).toNat = 4 from rfl, Nat.reduceMul, Nat.reduceEqDiff, Go.Addr.add, ↓reduceIte] at bc)
 have qi232 : (4 < t220.length) = True := eq_true (by omega)
 (try rw [show ((4 : Int)).toNat = 4 from rfl] at ba)
 (try rw [show 4 * 3 = 12 from rfl] at ba)
 (try rw [show ((4 : Int)).toNat = 4 from rfl] at bb)
 (try rw [show 4 * 3 = 12 from rfl] at bb)
 (try rw [show ((4 : Int)).toNat = 4 from rfl] at bc)
 (try rw [show 4 * 3 = 12 from rfl] at bc)
 replace p232 := eq_true p232
 replace q232 := eq_true q232
 refine start_ (n := 27) (S := fun w' => w'.cell? ad = some (.int .i64 ((rd_T50 t220 0).f0)) ∧ w'.cell? ⟨ad.block, ad.off + 1, none⟩ = some (.int .u64 ((rd_T50 t220 0).f1)) ∧ w'.cell? ⟨ad.block, ad.off + 2, none⟩ = some (.string ((rd_T50 t220 0).f2)) ∧ w'.cell? ⟨ad.block, ad.off + 3, none⟩ = some (.int .i64 ((rd_T50 t220 1).f0)) ∧ w'.cell? ⟨ad.block, ad.off + 3 + 1, none⟩ = some (.int .u64 ((rd_T50 t220 1).f1)) ∧ w'.cell? ⟨ad.block, ad.off + 3 + 2, none⟩ = some (.string ((rd_T50 t220 1).f2)) ∧ w'.cell? ⟨ad.block, ad.off + 6, none⟩ = some (.int .i64 ((rd_T50 t220 2).f0)) ∧ w'.cell? ⟨ad.block, ad.off + 6 + 1, none⟩ = some (.int .u64 ((rd_T50 t220 2).f1)) ∧ w'.cell? ⟨ad.block, ad.off + 6 + 2, none⟩ = some (.string ((rd_T50 t220 2).f2)) ∧ w'.cell? ⟨ad.block, ad.off + 9, none⟩ = some (.int .i64 ((rd_T50 t220 3).f0)) ∧ w'.cell? ⟨ad.block, ad.off + 9 + 1, none⟩ = some (.int .u64 ((rd_T50 t220 3).f1)) ∧ w'.cell? ⟨ad.block, ad.off + 9 + 2, none⟩ = some (.string ((rd_T50 t220 3).f2)) ∧ w'.cell? ⟨ad.block, ad.off + 12, none⟩ = some (.int .i64 ((rd_T50 t220 4).f0)) ∧ w'.cell? ⟨ad.block, ad.off + 12 + 1, none⟩ = some (.int .u64 ((rd_T50 t220 4).f1)) ∧ w'.cell? ⟨ad.block, ad.off + 12 + 2, none⟩ = some (.string ((rd_T50 t220 4).f2))) (ds := []) (bz 27 0) (by kernel_rfl) rfl rfl ⟨ax, ay, az, a1, a2, a3, a4, a5, a6, a7, a8, a9, ba, bb, bc⟩ (fun hHeld => ?_); refine with_tabW link_Decode.tab7 link_Decode.bits7 (fun HT_ HW_ => ?_)
 generalize w27.drew = w29 at aa ae HB ax ay az a1 a2 a3 a4 a5 a6 a7 a8 a9 ba bb bc hHeld ⊢
 refine pu_ 0 (some 53) (bz 27 1) HT_.out ?_
 refine pu_ 1 (some 54) (bz 27 3) HT_.out ?_
 refine pu_ 2 (some 55) (bz 27 7) HT_.out ?_
 refine pu_ 5 (some 58) (bz 27 39) HT_.out ?_
 refine pu_ 6 (some 59) (bz 27 103) HT_.out ?_
 refine pu_ 7 (some 60) (bz 27 231) HT_.out ?_
 refine pu_ 10 (some 63) (bz 27 1255) HT_.out ?_
 refine pu_ 11 (some 64) (bz 27 3303) HT_.out ?_
 refine pu_ 12 (some 65) (bz 27 7399) HT_.out ?_
 refine pu_ 15 (some 68) (bz 27 40167) HT_.out ?_
 refine pu_ 16 (some 69) (bz 27 105703) HT_.out ?_
 refine pu_ 17 (some 70) (bz 27 236775) HT_.out ?_
 refine pu_ 20 (some 73) (bz 27 1285351) HT_.out ?_
 refine pu_ 21 (some 74) (bz 27 3382503) HT_.out ?_
 refine pu_ 22 (some 75) (bz 27 7576807) HT_.out ?_
 refine take_ (i := 3) (N := some 56) (v := ?_) (a' := ?_) (bz 27 7576815) rfl rfl (take_ofW HT_.out HW_.out (by kernel_rfl)) (fun _ _ _ h => h) (Or.inl ⟨by rfl, ?_⟩) hHeld ?_ ?_
 rotate_left
 ·rintro w' ⟨s0, s1, s2, s3, s4, s5, s6, s7, s8, s9, s10, s11, s12, s13, s14⟩
  go_simp
  with_reducible rfl
 rotate_left
 ·simp only [Act.put, sl1, sl2, sl3, i64_w, i32_w]
  rfl
 refine pu_ 4 (some 57) (bz 27 7576831) HT_.out ?_
 refine take_ (i := 8) (N := some 61) (v := ?_) (a' := ?_) (bz 27 7577087) rfl rfl (take_ofW HT_.out HW_.out (by kernel_rfl)) (fun _ _ _ h => h) (Or.inl ⟨by rfl, ?_⟩) hHeld ?_ ?_
 rotate_left
 ·rintro w' ⟨s0, s1, s2, s3, s4, s5, s6, s7, s8, s9, s10, s11, s12, s13, s14⟩
  go_simp
  with_reducible rfl
 rotate_left
 ·simp only [Act.put, sl1, sl2, sl3, i64_w, i32_w]
  rfl
 refine pu_ 9 (some 62) (bz 27 7577599) HT_.out ?_
 refine take_ (i := 13) (N := some 66) (v := ?_) (a' := ?_) (bz 27 7585791) rfl rfl (take_ofW HT_.out HW_.out (by kernel_rfl)) (fun _ _ _ h => h) (Or.inl ⟨by rfl, ?_⟩) hHeld ?_ ?_
 rotate_left
 ·rintro w' ⟨s0, s1, s2, s3, s4, s5, s6, s7, s8, s9, s10, s11, s12, s13, s14⟩
  go_simp
  with_reducible rfl
 rotate_left
 ·simp only [Act.put, sl1, sl2, sl3, i64_w, i32_w]
  rfl
 refine pu_ 14 (some 67) (bz 27 7602175) HT_.out ?_
 refine take_ (i := 18) (N := some 71) (v := ?_) (a' := ?_) (bz 27 7864319) rfl rfl (take_ofW HT_.out HW_.out (by kernel_rfl)) (fun _ _ _ h => h) (Or.inl ⟨by rfl, ?_⟩) hHeld ?_ ?_
 rotate_left
 ·rintro w' ⟨s0, s1, s2, s3, s4, s5, s6, s7, s8, s9, s10, s11, s12, s13, s14⟩
  go_simp
  with_reducible rfl
 rotate_left
 ·simp only [Act.put, sl1, sl2, sl3, i64_w, i32_w]
  rfl
 refine pu_ 19 (some 72) (bz 27 8388607) HT_.out ?_
 refine take_ (i := 23) (N := some 76) (v := ?_) (a' := ?_) (bz 27 16777215) rfl rfl (take_ofW HT_.out HW_.out (by kernel_rfl)) (fun _ _ _ h => h) (Or.inl ⟨by rfl, ?_⟩) hHeld ?_ ?_
 rotate_left
 ·rintro w' ⟨s0, s1, s2, s3, s4, s5, s6, s7, s8, s9, s10, s11, s12, s13, s14⟩
  go_simp
  with_reducible rfl
 rotate_left
 ·simp only [Act.put, sl1, sl2, sl3, i64_w, i32_w]
  rfl
 refine pu_ 24 (some 77) (bz 27 33554431) HT_.out ?_
 refine one_ (i := 25) (N := some 8) (bz 27 67108863) rfl rfl (one_of HT_.out (by kernel_rfl)) (by decide) (fun K hK => ?_)
 refine box_step ?hg (N := 8) ?hd (cs := #[.int .i64 0, .int .i64 0, .int .i64 0, .int .i64 0, .string (⟨#[]⟩ : ByteArray)]) (t := 23) ?hr ?_; (case hd => rfl); (case hg => rfl); (case hr => first | (go_simp; done) | (go_simp; rfl))
 intro ab hg w30 hbox hb
 have HS0_ := (hb.cell (World.block_lt_of_cell? _ _ (hHeld.1))).trans (hHeld.1)
 have HS1_ := (hb.cell (World.block_lt_of_cell? _ _ (hHeld.2.1))).trans (hHeld.2.1)
 have HS2_ := (hb.cell (World.block_lt_of_cell? _ _ (hHeld.2.2.1))).trans (hHeld.2.2.1)
 have HS3_ := (hb.cell (World.block_lt_of_cell? _ _ (hHeld.2.2.2.1))).trans (hHeld.2.2.2.1)
 have HS4_ := (hb.cell (World.block_lt_of_cell? _ _ (hHeld.2.2.2.2.1))).trans (hHeld.2.2.2.2.1)
 have HS5_ := (hb.cell (World.block_lt_of_cell? _ _ (hHeld.2.2.2.2.2.1))).trans (hHeld.2.2.2.2.2.1)
 have HS6_ := (hb.cell (World.block_lt_of_cell? _ _ (hHeld.2.2.2.2.2.2.1))).trans (hHeld.2.2.2.2.2.2.1)
 have HS7_ := (hb.cell (World.block_lt_of_cell? _ _ (hHeld.2.2.2.2.2.2.2.1))).trans (hHeld.2.2.2.2.2.2.2.1)
 have HS8_ := (hb.cell (World.block_lt_of_cell? _ _ (hHeld.2.2.2.2.2.2.2.2.1))).trans (hHeld.2.2.2.2.2.2.2.2.1)
 have HS9_ := (hb.cell (World.block_lt_of_cell? _ _ (hHeld.2.2.2.2.2.2.2.2.2.1))).trans (hHeld.2.2.2.2.2.2.2.2.2.1)
 have HS10_ := (hb.cell (World.block_lt_of_cell? _ _ (hHeld.2.2.2.2.2.2.2.2.2.2.1))).trans (hHeld.2.2.2.2.2.2.2.2.2.2.1)
 have HS11_ := (hb.cell (World.block_lt_of_cell? _ _ (hHeld.2.2.2.2.2.2.2.2.2.2.2.1))).trans (hHeld.2.2.2.2.2.2.2.2.2.2.2.1)
 have HS12_ := (hb.cell (World.block_lt_of_cell? _ _ (hHeld.2.2.2.2.2.2.2.2.2.2.2.2.1))).trans (hHeld.2.2.2.2.2.2.2.2.2.2.2.2.1)
 have HS13_ := (hb.cell (World.block_lt_of_cell? _ _ (hHeld.2.2.2.2.2.2.2.2.2.2.2.2.2.1))).trans (hHeld.2.2.2.2.2.2.2.2.2.2.2.2.2.1)
 have HS14_ := (hb.cell (World.block_lt_of_cell? _ _ (hHeld.2.2.2.2.2.2.2.2.2.2.2.2.2.2))).trans (hHeld.2.2.2.2.2.2.2.2.2.2.2.2.2.2)
 have n0_ := Aside0.mk (Kd.R_below (by (with_reducible repeat (first | apply Kd.R_alloc | apply Kd.R_drewN | apply Kd.R_drew)); exact aa.out) hb)
 have n1_ := Aside0.mk (nb ae.out hb)
 have n2_ := Aside0.mk (below_step bw hb)
 have n3_ := Aside0.mk (hbox)
 have n4_ := Aside0.mk ((g1 hg bw : w.heap.size ≤ ab))
 have n5_ := Aside0.mk ((g1 hg bw : w.heap.size ≤ ab))
 have n6_ := Aside0.mk ((n1 hg ae.out : af ≠ ab))
 have n7_ := Aside0.mk ((n2 hg ae.out : ab ≠ af))
 clear aa
 clear ae
 clear HB
 have aa := n0_
 have ae := n1_
 have HB := n2_
 have ac := n3_
 have GW233 := n4_
 have GE233 := n5_
 have ag := n6_
 have aw := n7_
 clear n0_ n1_ n2_ n3_ n4_ n5_ n6_ n7_
 clear hb hbox hg
 refine hK.out _ _ ⟨HS0_, HS1_, HS2_, HS3_, HS4_, HS5_, HS6_, HS7_, HS8_, HS9_, HS10_, HS11_, HS12_, HS13_, HS14_⟩ (fun hHeld => ?_)
 clear hK K
 refine norm_ (a' := ?_) ?_ ?_
 rotate_left
 ·show Act.put _ (some 8) _ = _
  simp only [Act.put, sl1, sl2, sl3, i64_w, i32_w]
  rfl
 refine one_ (i := 26) (N := none) (bz 27 134217727) rfl rfl (one_of HT_.out (by kernel_rfl)) (by decide) (fun K hK => ?_)
 have hs31 : w30.cell? ⟨ab, 0, none⟩ = some (.int .i64 0) := (blk_cell ac.out 0).trans rfl
 have hfs31 := blk_frozen ac.out 0
 have hns31_0 := ag.out
 have hms31_0 := aw.out
 have hs32 : w30.cell? ⟨ab, 1, none⟩ = some (.int .i64 0) := (blk_cell ac.out 1).trans rfl
 have hfs32 := blk_frozen ac.out 1
 have hns32_0 := ag.out
 have hms32_0 := aw.out
 have hs33 : w30.cell? ⟨ab, 2, none⟩ = some (.int .i64 0) := (blk_cell ac.out 2).trans rfl
 have hfs33 := blk_frozen ac.out 2
 have hns33_0 := ag.out
 have hms33_0 := aw.out
 have hs34 : w30.cell? ⟨ab, 3, none⟩ = some (.int .i64 0) := (blk_cell ac.out 3).trans rfl
 have hfs34 := blk_frozen ac.out 3
 have hns34_0 := ag.out
 have hms34_0 := aw.out
 have hs35 : w30.cell? ⟨ab, 4, none⟩ = some (.string (⟨#[]⟩ : ByteArray)) := (blk_cell ac.out 4).trans rfl
 have hfs35 := blk_frozen ac.out 4
 have hns35_0 := ag.out
 have hms35_0 := aw.out
 refine skip_ (w1 := ?_) (by rfl) rfl ?_ ?_
 rotate_left
 ·go_simp
  rfl
 refine hK.out _ _ ⟨((cf (p := ⟨ab, _, none⟩) (Kd.own_blk (Kd.R_ne aa.out ac.out (by decide)))).trans (((cf (p := ⟨ab, _, none⟩) (Kd.own_blk (Kd.R_ne aa.out ac.out (by decide)))).trans (((cf (p := ⟨ab, _, none⟩) (Kd.own_blk (Kd.R_ne aa.out ac.out (by decide)))).trans (((cf (p := ⟨ab, _, none⟩) (Kd.own_blk (Kd.R_ne aa.out ac.out (by decide)))).trans (((cf (p := ⟨ab, _, none⟩) (Kd.own_blk (Kd.R_ne aa.out ac.out (by decide)))).trans (hHeld.1)))))))))), ((cf (p := ⟨ab, _, none⟩) (Kd.own_blk (Kd.R_ne aa.out ac.out (by decide)))).trans (((cf (p := ⟨ab, _, none⟩) (Kd.own_blk (Kd.R_ne aa.out ac.out (by decide)))).trans (((cf (p := ⟨ab, _, none⟩) (Kd.own_blk (Kd.R_ne aa.out ac.out (by decide)))).trans (((cf (p := ⟨ab, _, none⟩) (Kd.own_blk (Kd.R_ne aa.out ac.out (by decide)))).trans (((cf (p := ⟨ab, _, none⟩) (Kd.own_blk (Kd.R_ne aa.out ac.out (by decide)))).trans (hHeld.2.1)))))))))), ((cf (p := ⟨ab, _, none⟩) (Kd.own_blk (Kd.R_ne aa.out ac.out (by decide)))).trans (((cf (p := ⟨ab, _, none⟩) (Kd.own_blk (Kd.R_ne aa.out ac.out (by decide)))).trans (((cf (p := ⟨ab, _, none⟩) (Kd.own_blk (Kd.R_ne aa.out ac.out (by decide)))).trans (((cf (p := ⟨ab, _, none⟩) (Kd.own_blk (Kd.R_ne aa.out ac.out (by decide)))).trans (((cf (p := ⟨ab, _, none⟩) (Kd.own_blk (Kd.R_ne aa.out ac.out (by decide)))).trans (hHeld.2.2.1)))))))))), ((cf (p := ⟨ab, _, none⟩) (Kd.own_blk (Kd.R_ne aa.out ac.out (by decide)))).trans (((cf (p := ⟨ab, _, none⟩) (Kd.own_blk (Kd.R_ne aa.out ac.out (by decide)))).trans (((cf (p := ⟨ab, _, none⟩) (Kd.own_blk (Kd.R_ne aa.out ac.out (by decide)))).trans (((cf (p := ⟨ab, _, none⟩) (Kd.own_blk (Kd.R_ne aa.out ac.out (by decide)))).trans (((cf (p := ⟨ab, _, none⟩) (Kd.own_blk (Kd.R_ne aa.out ac.out (by decide)))).trans (hHeld.2.2.2.1)))))))))), ((cf (p := ⟨ab, _, none⟩) (Kd.own_blk (Kd.R_ne aa.out ac.out (by decide)))).trans (((cf (p := ⟨ab, _, none⟩) (Kd.own_blk (Kd.R_ne aa.out ac.out (by decide)))).trans (((cf (p := ⟨ab, _, none⟩) (Kd.own_blk (Kd.R_ne aa.out ac.out (by decide)))).trans (((cf (p := ⟨ab, _, none⟩) (Kd.own_blk (Kd.R_ne aa.out ac.out (by decide)))).trans (((cf (p := ⟨ab, _, none⟩) (Kd.own_blk (Kd.R_ne aa.out ac.out (by decide)))).trans (hHeld.2.2.2.2.1)))))))))), ((cf (p := ⟨ab, _, none⟩) (Kd.own_blk (Kd.R_ne aa.out ac.out (by decide)))).trans (((cf (p := ⟨ab, _, none⟩) (Kd.own_blk (Kd.R_ne aa.out ac.out (by decide)))).trans (((cf (p := ⟨ab, _, none⟩) (Kd.own_blk (Kd.R_ne aa.out ac.out (by decide)))).trans (((cf (p := ⟨ab, _, none⟩) (Kd.own_blk (Kd.R_ne aa.out ac.out (by decide)))).trans (((cf (p := ⟨ab, _, none⟩) (Kd.own_blk (Kd.R_ne aa.out ac.out (by decide)))).trans (hHeld.2.2.2.2.2.1)))))))))), ((cf (p := ⟨ab, _, none⟩) (Kd.own_blk (Kd.R_ne aa.out ac.out (by decide)))).trans (((cf (p := ⟨ab, _, none⟩) (Kd.own_blk (Kd.R_ne aa.out ac.out (by decide)))).trans (((cf (p := ⟨ab, _, none⟩) (Kd.own_blk (Kd.R_ne aa.out ac.out (by decide)))).trans (((cf (p := ⟨ab, _, none⟩) (Kd.own_blk (Kd.R_ne aa.out ac.out (by decide)))).trans (((cf (p := ⟨ab, _, none⟩) (Kd.own_blk (Kd.R_ne aa.out ac.out (by decide)))).trans (hHeld.2.2.2.2.2.2.1)))))))))), ((cf (p := ⟨ab, _, none⟩) (Kd.own_blk (Kd.R_ne aa.out ac.out (by decide)))).trans (((cf (p := ⟨ab, _, none⟩) (Kd.own_blk (Kd.R_ne aa.out ac.out (by decide)))).trans (((cf (p := ⟨ab, _, none⟩) (Kd.own_blk (Kd.R_ne aa.out ac.out (by decide)))).trans (((cf (p := ⟨ab, _, none⟩) (Kd.own_blk (Kd.R_ne aa.out ac.out (by decide)))).trans (((cf (p := ⟨ab, _, none⟩) (Kd.own_blk (Kd.R_ne aa.out ac.out (by decide)))).trans (hHeld.2.2.2.2.2.2.2.1)))))))))), ((cf (p := ⟨ab, _, none⟩) (Kd.own_blk (Kd.R_ne aa.out ac.out (by decide)))).trans (((cf (p := ⟨ab, _, none⟩) (Kd.own_blk (Kd.R_ne aa.out ac.out (by decide)))).trans (((cf (p := ⟨ab, _, none⟩) (Kd.own_blk (Kd.R_ne aa.out ac.out (by decide)))).trans (((cf (p := ⟨ab, _, none⟩) (Kd.own_blk (Kd.R_ne aa.out ac.out (by decide)))).trans (((cf (p := ⟨ab, _, none⟩) (Kd.own_blk (Kd.R_ne aa.out ac.out (by decide)))).trans (hHeld.2.2.2.2.2.2.2.2.1)))))))))), ((cf (p := ⟨ab, _, none⟩) (Kd.own_blk (Kd.R_ne aa.out ac.out (by decide)))).trans (((cf (p := ⟨ab, _, none⟩) (Kd.own_blk (Kd.R_ne aa.out ac.out (by decide)))).trans (((cf (p := ⟨ab, _, none⟩) (Kd.own_blk (Kd.R_ne aa.out ac.out (by decide)))).trans (((cf (p := ⟨ab, _, none⟩) (Kd.own_blk (Kd.R_ne aa.out ac.out (by decide)))).trans (((cf (p := ⟨ab, _, none⟩) (Kd.own_blk (Kd.R_ne aa.out ac.out (by decide)))).trans (hHeld.2.2.2.2.2.2.2.2.2.1)))))))))), ((cf (p := ⟨ab, _, none⟩) (Kd.own_blk (Kd.R_ne aa.out ac.out (by decide)))).trans (((cf (p := ⟨ab, _, none⟩) (Kd.own_blk (Kd.R_ne aa.out ac.out (by decide)))).trans (((cf (p := ⟨ab, _, none⟩) (Kd.own_blk (Kd.R_ne aa.out ac.out (by decide)))).trans (((cf (p := ⟨ab, _, none⟩) (Kd.own_blk (Kd.R_ne aa.out ac.out (by decide)))).trans (((cf (p := ⟨ab, _, none⟩) (Kd.own_blk (Kd.R_ne aa.out ac.out (by decide)))).trans (hHeld.2.2.2.2.2.2.2.2.2.2.1)))))))))), ((cf (p := ⟨ab, _, none⟩) (Kd.own_blk (Kd.R_ne aa.out ac.out (by decide)))).trans (((cf (p := ⟨ab, _, none⟩) (Kd.own_blk (Kd.R_ne aa.out ac.out (by decide)))).trans (((cf (p := ⟨ab, _, none⟩) (Kd.own_blk (Kd.R_ne aa.out ac.out (by decide)))).trans (((cf (p := ⟨ab, _, none⟩) (Kd.own_blk (Kd.R_ne aa.out ac.out (by decide)))).trans (((cf (p := ⟨ab, _, none⟩) (Kd.own_blk (Kd.R_ne aa.out ac.out (by decide)))).trans (hHeld.2.2.2.2.2.2.2.2.2.2.2.1)))))))))), ((cf (p := ⟨ab, _, none⟩) (Kd.own_blk (Kd.R_ne aa.out ac.out (by decide)))).trans (((cf (p := ⟨ab, _, none⟩) (Kd.own_blk (Kd.R_ne aa.out ac.out (by decide)))).trans (((cf (p := ⟨ab, _, none⟩) (Kd.own_blk (Kd.R_ne aa.out ac.out (by decide)))).trans (((cf (p := ⟨ab, _, none⟩) (Kd.own_blk (Kd.R_ne aa.out ac.out (by decide)))).trans (((cf (p := ⟨ab, _, none⟩) (Kd.own_blk (Kd.R_ne aa.out ac.out (by decide)))).trans (hHeld.2.2.2.2.2.2.2.2.2.2.2.2.1)))))))))), ((cf (p := ⟨ab, _, none⟩) (Kd.own_blk (Kd.R_ne aa.out ac.out (by decide)))).trans (((cf (p := ⟨ab, _, none⟩) (Kd.own_blk (Kd.R_ne aa.out ac.out (by decide)))).trans (((cf (p := ⟨ab, _, none⟩) (Kd.own_blk (Kd.R_ne aa.out ac.out (by decide)))).trans (((cf (p := ⟨ab, _, none⟩) (Kd.own_blk (Kd.R_ne aa.out ac.out (by decide)))).trans (((cf (p := ⟨ab, _, none⟩) (Kd.own_blk (Kd.R_ne aa.out ac.out (by decide)))).trans (hHeld.2.2.2.2.2.2.2.2.2.2.2.2.2.1)))))))))), ((cf (p := ⟨ab, _, none⟩) (Kd.own_blk (Kd.R_ne aa.out ac.out (by decide)))).trans (((cf (p := ⟨ab, _, none⟩) (Kd.own_blk (Kd.R_ne aa.out ac.out (by decide)))).trans (((cf (p := ⟨ab, _, none⟩) (Kd.own_blk (Kd.R_ne aa.out ac.out (by decide)))).trans (((cf (p := ⟨ab, _, none⟩) (Kd.own_blk (Kd.R_ne aa.out ac.out (by decide)))).trans (((cf (p := ⟨ab, _, none⟩) (Kd.own_blk (Kd.R_ne aa.out ac.out (by decide)))).trans (hHeld.2.2.2.2.2.2.2.2.2.2.2.2.2.2))))))))))⟩ (fun hHeld => ?_)
 clear hK K
 refine done_ (done_of HT_.out (by kernel_rfl)) ?_
 have hnb36 := aw.out
 have hnc36 := ag.out
 obtain ⟨hcz37_0, hcz37_1, hcz37_2, hcz37_3, hcz37_4, hfz37_0, hfz37_1, hfz37_2, hfz37_3, hfz37_4⟩ := bx5 ac.out
 have H := HhZ.out
 clear HhZ
 by_cases c23 : t234 = true
 ·subst c23
  have H1 : (some (wrap64 ((rd_T50 t220 0).f1), wrap64 ((rd_T50 t220 1).f1), wrap64 ((rd_T50 t220 2).f1), wrap64 ((rd_T50 t220 3).f1), (rd_T50 t220 4).f2, 0)) = some (r1, r2, r3, r4, r5, r6) := by rw [if_pos rfl] at H; exact H
  clear H
  have H := H1
  clear H1
  simp only [Option.some.injEq, Prod.mk.injEq] at H
  obtain ⟨rfl, rfl, rfl, rfl, rfl, rfl⟩ := H
  try go_wp2_with (first | ((with_reducible refine gate_callee (f := 15) rfl ?_); refine goesL_ (some 79) rfl rfl Tryd.func15 (by kernel_rfl) rfl #[.agg #[.int .i64 (wrap64 ((rd_T50 t220 0).f1)), .int .i64 (wrap64 ((rd_T50 t220 1).f1)), .int .i64 (wrap64 ((rd_T50 t220 2).f1)), .int .i64 (wrap64 ((rd_T50 t220 3).f1)), .string ((rd_T50 t220 4).f2)]] rfl am ?_; (with_reducible refine (link_right.calls (wrap64 ((rd_T50 t220 0).f1)) (wrap64 ((rd_T50 t220 1).f1)) (wrap64 ((rd_T50 t220 2).f1)) (wrap64 ((rd_T50 t220 3).f1)) ((rd_T50 t220 4).f2) true _ A22.out).mono ?_); rintro e w38 ⟨rfl, hb⟩; refine ⟨_, rfl, ?_⟩; have n0_ := Aside0.mk (Kd.R_below (by (with_reducible repeat (first | apply Kd.R_alloc | apply Kd.R_drewN | apply Kd.R_drew)); exact (Kd.R_mono (Kd.R_far (p := ⟨ab, 4, none⟩) (Kd.R_far (p := ⟨ab, 3, none⟩) (Kd.R_far (p := ⟨ab, 2, none⟩) (Kd.R_far (p := ⟨ab, 1, none⟩) (Kd.R_far (p := ⟨ab, 0, none⟩) (Kd.R_types aa.out ac.out (by decide)) (fun _ hk => hk.2) (.int .i64 (wrap64 ((rd_T50 t220 0).f1)))) (fun _ hk => hk.2) (.int .i64 (wrap64 ((rd_T50 t220 1).f1)))) (fun _ hk => hk.2) (.int .i64 (wrap64 ((rd_T50 t220 2).f1)))) (fun _ hk => hk.2) (.int .i64 (wrap64 ((rd_T50 t220 3).f1)))) (fun _ hk => hk.2) (.string ((rd_T50 t220 4).f2))) (fun _ h_ => h_.1))) hb); have n1_ := Aside0.mk (blk_below (g := af) (o := .cells #[.int .i64 0, .int .i64 0, .int .i64 0, .int .i64 0, .string (⟨#[]⟩ : ByteArray)] 23 (0, 0)) (by (with_reducible repeat (first | refine blk_drewN ?_ _ | refine blk_drew ?_ | refine blk_alloc ?_ _ | refine blk_far ?_ ag.out _)); exact ae.out) hb); have n2_ := Aside0.mk (blk_below (g := ab) (o := .cells #[.int .i64 (wrap64 ((rd_T50 t220 0).f1)), .int .i64 (wrap64 ((rd_T50 t220 1).f1)), .int .i64 (wrap64 ((rd_T50 t220 2).f1)), .int .i64 (wrap64 ((rd_T50 t220 3).f1)), .string ((rd_T50 t220 4).f2)] 23 (0, 0)) (by (with_reducible repeat (first | refine blk_drewN ?_ _ | refine blk_drew ?_ | refine blk_alloc ?_ _)); refine blk_put (cs := #[.int .i64 (wrap64 ((rd_T50 t220 0).f1)), .int .i64 (wrap64 ((rd_T50 t220 1).f1)), .int .i64 (wrap64 ((rd_T50 t220 2).f1)), .int .i64 (wrap64 ((rd_T50 t220 3).f1)), .string (⟨#[]⟩ : ByteArray)]) ?_ 4 _ rfl; (with_reducible repeat (first | refine blk_drewN ?_ _ | refine blk_drew ?_ | refine blk_alloc ?_ _)); refine blk_put (cs := #[.int .i64 (wrap64 ((rd_T50 t220 0).f1)), .int .i64 (wrap64 ((rd_T50 t220 1).f1)), .int .i64 (wrap64 ((rd_T50 t220 2).f1)), .int .i64 0, .string (⟨#[]⟩ : ByteArray)]) ?_ 3 _ rfl; (with_reducible repeat (first | refine blk_drewN ?_ _ | refine blk_drew ?_ | refine blk_alloc ?_ _)); refine blk_put (cs := #[.int .i64 (wrap64 ((rd_T50 t220 0).f1)), .int .i64 (wrap64 ((rd_T50 t220 1).f1)), .int .i64 0, .int .i64 0, .string (⟨#[]⟩ : ByteArray)]) ?_ 2 _ rfl; (with_reducible repeat (first | refine blk_drewN ?_ _ | refine blk_drew ?_ | refine blk_alloc ?_ _)); refine blk_put (cs := #[.int .i64 (wrap64 ((rd_T50 t220 0).f1)), .int .i64 0, .int .i64 0, .int .i64 0, .string (⟨#[]⟩ : ByteArray)]) ?_ 1 _ rfl; (with_reducible repeat (first | refine blk_drewN ?_ _ | refine blk_drew ?_ | refine blk_alloc ?_ _)); refine blk_put (cs := #[.int .i64 0, .int .i64 0, .int .i64 0, .int .i64 0, .string (⟨#[]⟩ : ByteArray)]) ?_ 0 _ rfl; (with_reducible repeat (first | refine blk_drewN ?_ _ | refine blk_drew ?_ | refine blk_alloc ?_ _)); exact ac.out) hb); have n3_ := Aside0.mk (below_step bw hb); clear aa; clear ae; clear ac; clear HB; have aa := n0_; have ae := n1_; have ac := n2_; have HB := n3_; clear n0_ n1_ n2_ n3_; (try clear hb); obtain ⟨hcz39_0, hcz39_1, hcz39_2, hcz39_3, hcz39_4, hfz39_0, hfz39_1, hfz39_2, hfz39_3, hfz39_4⟩ := bx5 ac.out; obtain ⟨hcz40_0, hcz40_1, hcz40_2, hcz40_3, hcz40_4, hfz40_0, hfz40_1, hfz40_2, hfz40_3, hfz40_4⟩ := bx5 ae.out))
  refine bodyPost_ret (results_ct rfl _ _ af 23 #[.int .i64 (wrap64 ((rd_T50 t220 0).f1)), .int .i64 (wrap64 ((rd_T50 t220 1).f1)), .int .i64 (wrap64 ((rd_T50 t220 2).f1)), .int .i64 (wrap64 ((rd_T50 t220 3).f1)), .string ((rd_T50 t220 4).f2)] (0, 0) _ rfl (by (with_reducible repeat (first | refine blk_drewN ?_ _ | refine blk_drew ?_ | refine blk_alloc ?_ _)); refine blk_put (cs := #[.int .i64 (wrap64 ((rd_T50 t220 0).f1)), .int .i64 (wrap64 ((rd_T50 t220 1).f1)), .int .i64 (wrap64 ((rd_T50 t220 2).f1)), .int .i64 (wrap64 ((rd_T50 t220 3).f1)), .string (⟨#[]⟩ : ByteArray)]) ?_ 4 _ rfl; (with_reducible repeat (first | refine blk_drewN ?_ _ | refine blk_drew ?_ | refine blk_alloc ?_ _)); refine blk_put (cs := #[.int .i64 (wrap64 ((rd_T50 t220 0).f1)), .int .i64 (wrap64 ((rd_T50 t220 1).f1)), .int .i64 (wrap64 ((rd_T50 t220 2).f1)), .int .i64 0, .string (⟨#[]⟩ : ByteArray)]) ?_ 3 _ rfl; (with_reducible repeat (first | refine blk_drewN ?_ _ | refine blk_drew ?_ | refine blk_alloc ?_ _)); refine blk_put (cs := #[.int .i64 (wrap64 ((rd_T50 t220 0).f1)), .int .i64 (wrap64 ((rd_T50 t220 1).f1)), .int .i64 0, .int .i64 0, .string (⟨#[]⟩ : ByteArray)]) ?_ 2 _ rfl; (with_reducible repeat (first | refine blk_drewN ?_ _ | refine blk_drew ?_ | refine blk_alloc ?_ _)); refine blk_put (cs := #[.int .i64 (wrap64 ((rd_T50 t220 0).f1)), .int .i64 0, .int .i64 0, .int .i64 0, .string (⟨#[]⟩ : ByteArray)]) ?_ 1 _ rfl; (with_reducible repeat (first | refine blk_drewN ?_ _ | refine blk_drew ?_ | refine blk_alloc ?_ _)); refine blk_put (cs := #[.int .i64 0, .int .i64 0, .int .i64 0, .int .i64 0, .string (⟨#[]⟩ : ByteArray)]) ?_ 0 _ rfl; (with_reducible repeat (first | refine blk_drewN ?_ _ | refine blk_drew ?_ | refine blk_alloc ?_ _)); exact ae.out) Tryd.underlying23 rfl (by kernel_rfl)) rfl ?_
  exact ⟨by first | rfl | (simp [errW_none, errW_some] <;> rfl) | (simp only [← hji11, ← hji12, ← hji13]; first | rfl | (simp [errW_none, errW_some] <;> rfl)) | (simp [*, errW_none, errW_some] <;> rfl), bw⟩
 replace c23 := Bool.eq_false_iff.mpr c23
 subst c23
 have H1 : (some (0, 0, 0, 0, (⟨#[]⟩ : ByteArray), 10)) = some (r1, r2, r3, r4, r5, r6) := by rw [if_neg (show ¬ (false = true) by decide)] at H; exact H
 clear H
 have H := H1
 clear H1
 simp only [Option.some.injEq, Prod.mk.injEq] at H
 obtain ⟨rfl, rfl, rfl, rfl, rfl, rfl⟩ := H
 try go_wp2_with (first | ((with_reducible refine gate_callee (f := 15) rfl ?_); refine goesL_ (some 79) rfl rfl Tryd.func15 (by kernel_rfl) rfl #[.agg #[.int .i64 (wrap64 ((rd_T50 t220 0).f1)), .int .i64 (wrap64 ((rd_T50 t220 1).f1)), .int .i64 (wrap64 ((rd_T50 t220 2).f1)), .int .i64 (wrap64 ((rd_T50 t220 3).f1)), .string ((rd_T50 t220 4).f2)]] rfl am ?_; (with_reducible refine (link_right.calls (wrap64 ((rd_T50 t220 0).f1)) (wrap64 ((rd_T50 t220 1).f1)) (wrap64 ((rd_T50 t220 2).f1)) (wrap64 ((rd_T50 t220 3).f1)) ((rd_T50 t220 4).f2) false _ A22.out).mono ?_); rintro e w55 ⟨rfl, hb⟩; refine ⟨_, rfl, ?_⟩; have n0_ := Aside0.mk (Kd.R_below (by (with_reducible repeat (first | apply Kd.R_alloc | apply Kd.R_drewN | apply Kd.R_drew)); exact (Kd.R_mono (Kd.R_far (p := ⟨ab, 4, none⟩) (Kd.R_far (p := ⟨ab, 3, none⟩) (Kd.R_far (p := ⟨ab, 2, none⟩) (Kd.R_far (p := ⟨ab, 1, none⟩) (Kd.R_far (p := ⟨ab, 0, none⟩) (Kd.R_types aa.out ac.out (by decide)) (fun _ hk => hk.2) (.int .i64 (wrap64 ((rd_T50 t220 0).f1)))) (fun _ hk => hk.2) (.int .i64 (wrap64 ((rd_T50 t220 1).f1)))) (fun _ hk => hk.2) (.int .i64 (wrap64 ((rd_T50 t220 2).f1)))) (fun _ hk => hk.2) (.int .i64 (wrap64 ((rd_T50 t220 3).f1)))) (fun _ hk => hk.2) (.string ((rd_T50 t220 4).f2))) (fun _ h_ => h_.1))) hb); have n1_ := Aside0.mk (blk_below (g := af) (o := .cells #[.int .i64 0, .int .i64 0, .int .i64 0, .int .i64 0, .string (⟨#[]⟩ : ByteArray)] 23 (0, 0)) (by (with_reducible repeat (first | refine blk_drewN ?_ _ | refine blk_drew ?_ | refine blk_alloc ?_ _ | refine blk_far ?_ ag.out _)); exact ae.out) hb); have n2_ := Aside0.mk (blk_below (g := ab) (o := .cells #[.int .i64 (wrap64 ((rd_T50 t220 0).f1)), .int .i64 (wrap64 ((rd_T50 t220 1).f1)), .int .i64 (wrap64 ((rd_T50 t220 2).f1)), .int .i64 (wrap64 ((rd_T50 t220 3).f1)), .string ((rd_T50 t220 4).f2)] 23 (0, 0)) (by (with_reducible repeat (first | refine blk_drewN ?_ _ | refine blk_drew ?_ | refine blk_alloc ?_ _)); refine blk_put (cs := #[.int .i64 (wrap64 ((rd_T50 t220 0).f1)), .int .i64 (wrap64 ((rd_T50 t220 1).f1)), .int .i64 (wrap64 ((rd_T50 t220 2).f1)), .int .i64 (wrap64 ((rd_T50 t220 3).f1)), .string (⟨#[]⟩ : ByteArray)]) ?_ 4 _ rfl; (with_reducible repeat (first | refine blk_drewN ?_ _ | refine blk_drew ?_ | refine blk_alloc ?_ _)); refine blk_put (cs := #[.int .i64 (wrap64 ((rd_T50 t220 0).f1)), .int .i64 (wrap64 ((rd_T50 t220 1).f1)), .int .i64 (wrap64 ((rd_T50 t220 2).f1)), .int .i64 0, .string (⟨#[]⟩ : ByteArray)]) ?_ 3 _ rfl; (with_reducible repeat (first | refine blk_drewN ?_ _ | refine blk_drew ?_ | refine blk_alloc ?_ _)); refine blk_put (cs := #[.int .i64 (wrap64 ((rd_T50 t220 0).f1)), .int .i64 (wrap64 ((rd_T50 t220 1).f1)), .int .i64 0, .int .i64 0, .string (⟨#[]⟩ : ByteArray)]) ?_ 2 _ rfl; (with_reducible repeat (first | refine blk_drewN ?_ _ | refine blk_drew ?_ | refine blk_alloc ?_ _)); refine blk_put (cs := #[.int .i64 (wrap64 ((rd_T50 t220 0).f1)), .int .i64 0, .int .i64 0, .int .i64 0, .string (⟨#[]⟩ : ByteArray)]) ?_ 1 _ rfl; (with_reducible repeat (first | refine blk_drewN ?_ _ | refine blk_drew ?_ | refine blk_alloc ?_ _)); refine blk_put (cs := #[.int .i64 0, .int .i64 0, .int .i64 0, .int .i64 0, .string (⟨#[]⟩ : ByteArray)]) ?_ 0 _ rfl; (with_reducible repeat (first | refine blk_drewN ?_ _ | refine blk_drew ?_ | refine blk_alloc ?_ _)); exact ac.out) hb); have n3_ := Aside0.mk (below_step bw hb); clear aa; clear ae; clear ac; clear HB; have aa := n0_; have ae := n1_; have ac := n2_; have HB := n3_; clear n0_ n1_ n2_ n3_; (try clear hb); obtain ⟨hcz56_0, hcz56_1, hcz56_2, hcz56_3, hcz56_4, hfz56_0, hfz56_1, hfz56_2, hfz56_3, hfz56_4⟩ := bx5 ae.out))
 refine bodyPost_ret (results_ct rfl _ _ af 23 #[.int .i64 0, .int .i64 0, .int .i64 0, .int .i64 0, .string (⟨#[]⟩ : ByteArray)] (0, 0) _ rfl (by (with_reducible repeat (first | refine blk_drewN ?_ _ | refine blk_drew ?_ | refine blk_alloc ?_ _)); refine blk_put (cs := #[.int .i64 0, .int .i64 0, .int .i64 0, .int .i64 0, .string (⟨#[]⟩ : ByteArray)]) ?_ 4 _ rfl; (with_reducible repeat (first | refine blk_drewN ?_ _ | refine blk_drew ?_ | refine blk_alloc ?_ _)); refine blk_put (cs := #[.int .i64 0, .int .i64 0, .int .i64 0, .int .i64 0, .string (⟨#[]⟩ : ByteArray)]) ?_ 3 _ rfl; (with_reducible repeat (first | refine blk_drewN ?_ _ | refine blk_drew ?_ | refine blk_alloc ?_ _)); refine blk_put (cs := #[.int .i64 0, .int .i64 0, .int .i64 0, .int .i64 0, .string (⟨#[]⟩ : ByteArray)]) ?_ 2 _ rfl; (with_reducible repeat (first | refine blk_drewN ?_ _ | refine blk_drew ?_ | refine blk_alloc ?_ _)); refine blk_put (cs := #[.int .i64 0, .int .i64 0, .int .i64 0, .int .i64 0, .string (⟨#[]⟩ : ByteArray)]) ?_ 1 _ rfl; (with_reducible repeat (first | refine blk_drewN ?_ _ | refine blk_drew ?_ | refine blk_alloc ?_ _)); refine blk_put (cs := #[.int .i64 0, .int .i64 0, .int .i64 0, .int .i64 0, .string (⟨#[]⟩ : ByteArray)]) ?_ 0 _ rfl; (with_reducible repeat (first | refine blk_drewN ?_ _ | refine blk_drew ?_ | refine blk_alloc ?_ _)); exact ae.out) Tryd.underlying23 rfl (by kernel_rfl)) rfl ?_
 exact ⟨by first | rfl | (simp [errW_none, errW_some] <;> rfl) | (simp only [← hji11, ← hji12, ← hji13]; first | rfl | (simp [errW_none, errW_some] <;> rfl)) | (simp [*, errW_none, errW_some] <;> rfl), bw⟩

end Go.Proofs.YtdpogggajdfedaaDoor.P
