-- Printed by this session's program wip/xp.py (a turned copy of the kit's printer): functions, their contracts.
import Derived.Test.YtpgiagdpepkooaaDoorPx0
import Derived.Test.YtpgiagdpepkooaaDoorPx14
import Derived.Test.YtpgiagdpepkooaaDoorPx15
import Derived.Test.YtpgiagdpepkooaaDoorPx16
namespace Go.Proofs.YtpgiagdpepkooaaDoor.P
open Go.RowKit Go.Proofs.YtpgiagdpepkooaaDoorW.PrintWords Go.Proofs.YtpgiagdpepkooaaDoorW.PrintLast Go.Proofs.YtpgiagdpepkooaaDoorW.PrintMore
attribute [local go_sem] max2_int min2_int max_two min_two max_three min_three max_four min_four   -- for this text's walks alone
set_option linter.unusedVariables false
set_option linter.unusedSimpArgs false

/-! ### carillonref14_Encode: function 13 -/
def carillonref14_Encode.f (k : Nat) (a0_0 : Int) (a0_1 : ByteArray) (a0_2 : ByteArray) (a0_3 : Int) (a0_4 : ByteArray) (a0_5 : ByteArray) (a0_6 : Int) (a0_7 : Int) (a0_8 : Int) : Option (ByteArray × Bool) := (carillonref14_Right.f k a0_0 a0_1 a0_2 a0_3 a0_4 a0_5 a0_6 a0_7 a0_8).bind fun t394 => (if t394 = true then ((carillonref14_small.f a0_0).bind fun bt395 => ((carillonref14_text.f a0_1).bind fun bt398 => ((carillonref14_text.f a0_2).bind fun bt401 => ((carillonref14_long.f a0_3).bind fun bt404 => ((carillonref14_text.f a0_4).bind fun bt407 => ((carillonref14_text.f a0_5).bind fun bt410 => ((carillonref14_long.f (wrap64 (a0_6 + 1))).bind fun bt413 => ((carillonref14_small.f a0_7).bind fun bt416 => ((carillonref14_long.f a0_8).bind fun bt419 => ((carillonref01_Encode.f k (([(⟨bt395.1, bt395.2.1, bt395.2.2⟩ : S57), (⟨bt398.1, bt398.2.1, bt398.2.2⟩ : S57), (⟨bt401.1, bt401.2.1, bt401.2.2⟩ : S57), (⟨bt404.1, bt404.2.1, bt404.2.2⟩ : S57), (⟨bt407.1, bt407.2.1, bt407.2.2⟩ : S57), (⟨bt410.1, bt410.2.1, bt410.2.2⟩ : S57), (⟨bt413.1, bt413.2.1, bt413.2.2⟩ : S57), (⟨bt416.1, bt416.2.1, bt416.2.2⟩ : S57), (⟨bt419.1, bt419.2.1, bt419.2.2⟩ : S57)] : List (S57)))).bind fun bt425 => (some (bt425.1, true)))))))))))) else (some ((⟨#[]⟩ : ByteArray), false)))
def carillonref14_Encode.T4 : Bool × List (List Nat × List Nat) := (true, [([], []), ([0], [0]), ([1], [1]), ([], []), ([3], [3]), ([4, 2], [4]), ([], []), ([6], [6]), ([7, 5], [7]), ([], []), ([9], [9]), ([10, 8], [10]), ([], []), ([12], [12]), ([13, 11], [13]), ([], []), ([15], [15]), ([16, 14], [16]), ([], []), ([18], [18]), ([19], [19]), ([20, 17], [20]), ([], []), ([22], [22]), ([23, 21], [23]), ([], []), ([25], [25]), ([26, 24], [26]), ([2, 5, 8, 11, 14, 17, 21, 24, 27], [2, 5, 8, 11, 14, 17, 21, 24, 27]), ([28, 27], [28]), ([29], [29]), ([30], [30]), ([30], [30]), ([31, 29, 0, 1, 2, 3, 4, 5, 6, 7, 8, 9, 10, 11, 12, 13, 14, 15, 16, 17, 18, 19, 20, 21, 22, 23, 24, 25, 26, 27, 28, 29, 30, 31], [31]), ([32, 33, 0, 1, 2, 3, 4, 5, 6, 7, 8, 9, 10, 11, 12, 13, 14, 15, 16, 17, 18, 19, 20, 21, 22, 23, 24, 25, 26, 27, 28, 29, 30, 31, 32, 33], [32])])
def carillonref14_Encode.B4 : List Nat := [0, 1, 3, 0, 8, 31, 0, 64, 255, 0, 512, 2047, 0, 4096, 16383, 0, 32768, 131071, 0, 262144, 786432, 2097151, 0, 4194304, 16777215, 0, 33554432, 134217727, 268435455, 536870911, 1073741823, 2147483647, 2147483647, 4294967295, 17179869183]
theorem carillonref14_Encode.tab4 : rtab .any (opsOf Tryd.f13 4) = carillonref14_Encode.T4 := by kernel_rfl
theorem carillonref14_Encode.bits4 : waitsOk carillonref14_Encode.T4.2 carillonref14_Encode.B4 = true := by kernel_rfl
set_option maxHeartbeats 8000000 in
set_option maxRecDepth 100000 in
theorem carillonref14_Encode.calls (k : Nat) (a0_0 : Int) (a0_1 : ByteArray) (a0_2 : ByteArray) (a0_3 : Int) (a0_4 : ByteArray) (a0_5 : ByteArray) (a0_6 : Int) (a0_7 : Int) (a0_8 : Int) (r1 : ByteArray) (r2 : Bool) (w : World) (h : carillonref14_Encode.f k a0_0 a0_1 a0_2 a0_3 a0_4 a0_5 a0_6 a0_7 a0_8 = some (r1, r2)) :
  Calls Tryd.prog 13 #[.agg #[.int .i64 a0_0, .string a0_1, .string a0_2, .int .i64 a0_3, .string a0_4, .string a0_5, .int .i64 a0_6, .int .i64 a0_7, .int .i64 a0_8]] w fun e w' => e = .returned (.tuple #[.string r1, .bool r2]) ∧ Below w.heap.size w w' := by
 have hu23 := Tryd.underlying23
 have HB := Aside0.mk (Below.refl w.heap.size w)
 have H := h
 unfold carillonref14_Encode.f at H
 clear h
 replace H := Option.bind_eq_some_iff.mp H
 obtain ⟨t394, A20, H⟩ := H
 have A2 := Aside0.mk A20
 clear A20
 by_cases c3 : t394 = true; rotate_left
 ·replace c3 := Bool.eq_false_iff.mpr c3
  subst c3
  have H1 : (some ((⟨#[]⟩ : ByteArray), false)) = some (r1, r2) := by rw [if_neg (show ¬ (false = true) by decide)] at H; exact H
  clear H
  have H := H1
  clear H1
  simp only [Option.some.injEq, Prod.mk.injEq] at H
  obtain ⟨rfl, rfl⟩ := H
  go_enter Tryd.func13, Tryd.ntmps13
  go_wp2_with (first | ((with_reducible refine gate_dst (N := 1) rfl ?_); refine box_event ?hg (N := 1) ?hd (cs := #[.int .i64 a0_0, .string a0_1, .string a0_2, .int .i64 a0_3, .string a0_4, .string a0_5, .int .i64 a0_6, .int .i64 a0_7, .int .i64 a0_8]) (t := 23) ?hr ?_; (case hd => rfl); (case hg => rfl); (case hr => first | (go_simp; done) | (go_simp; rfl)); intro ab hg w31 hbox hb; have aa := Aside0.mk (hbox); have GW393 := Aside0.mk ((g1 hg bw : w.heap.size ≤ ab)); have GE393 := Aside0.mk ((g1 hg bw : w.heap.size ≤ ab)); replace HB := Aside0.mk (below_step bw hb); clear hb hbox hg; obtain ⟨hcz32_0, hcz32_1, hcz32_2, hcz32_3, hcz32_4, hcz32_5, hcz32_6, hcz32_7, hcz32_8, hfz32_0, hfz32_1, hfz32_2, hfz32_3, hfz32_4, hfz32_5, hfz32_6, hfz32_7, hfz32_8⟩ := bx9 aa.out) | ((with_reducible refine gate_callee (f := 17) rfl ?_); refine goesL_ (some 8) rfl rfl Tryd.func17 (by kernel_rfl) rfl #[.agg #[.int .i64 a0_0, .string a0_1, .string a0_2, .int .i64 a0_3, .string a0_4, .string a0_5, .int .i64 a0_6, .int .i64 a0_7, .int .i64 a0_8]] rfl am ?_; (with_reducible refine (carillonref14_Right.calls k a0_0 a0_1 a0_2 a0_3 a0_4 a0_5 a0_6 a0_7 a0_8 false _ A2.out).mono ?_); rintro e w33 ⟨rfl, hb⟩; refine ⟨_, rfl, ?_⟩; replace aa := Aside0.mk (nb aa.out hb); replace HB := Aside0.mk (below_step bw hb); (try clear hb)))
  go_ret2
  exact ⟨er, bw⟩
 subst c3
 have H1 := H
 rw [if_pos rfl] at H1
 clear H
 have H := H1
 clear H1
 replace H := Option.bind_eq_some_iff.mp H
 obtain ⟨⟨t395, t396, t397⟩, A40, H⟩ := H
 replace H : ((carillonref14_text.f a0_1).bind fun bt398 => ((carillonref14_text.f a0_2).bind fun bt401 => ((carillonref14_long.f a0_3).bind fun bt404 => ((carillonref14_text.f a0_4).bind fun bt407 => ((carillonref14_text.f a0_5).bind fun bt410 => ((carillonref14_long.f (wrap64 (a0_6 + 1))).bind fun bt413 => ((carillonref14_small.f a0_7).bind fun bt416 => ((carillonref14_long.f a0_8).bind fun bt419 => ((carillonref01_Encode.f k (([(⟨t395, t396, t397⟩ : S57), (⟨bt398.1, bt398.2.1, bt398.2.2⟩ : S57), (⟨bt401.1, bt401.2.1, bt401.2.2⟩ : S57), (⟨bt404.1, bt404.2.1, bt404.2.2⟩ : S57), (⟨bt407.1, bt407.2.1, bt407.2.2⟩ : S57), (⟨bt410.1, bt410.2.1, bt410.2.2⟩ : S57), (⟨bt413.1, bt413.2.1, bt413.2.2⟩ : S57), (⟨bt416.1, bt416.2.1, bt416.2.2⟩ : S57), (⟨bt419.1, bt419.2.1, bt419.2.2⟩ : S57)] : List (S57)))).bind fun bt425 => (some (bt425.1, true))))))))))) = some (r1, r2) := H
 have A4 := Aside0.mk A40
 clear A40
 replace H := Option.bind_eq_some_iff.mp H
 obtain ⟨⟨t398, t399, t400⟩, A50, H⟩ := H
 replace H : ((carillonref14_text.f a0_2).bind fun bt401 => ((carillonref14_long.f a0_3).bind fun bt404 => ((carillonref14_text.f a0_4).bind fun bt407 => ((carillonref14_text.f a0_5).bind fun bt410 => ((carillonref14_long.f (wrap64 (a0_6 + 1))).bind fun bt413 => ((carillonref14_small.f a0_7).bind fun bt416 => ((carillonref14_long.f a0_8).bind fun bt419 => ((carillonref01_Encode.f k (([(⟨t395, t396, t397⟩ : S57), (⟨t398, t399, t400⟩ : S57), (⟨bt401.1, bt401.2.1, bt401.2.2⟩ : S57), (⟨bt404.1, bt404.2.1, bt404.2.2⟩ : S57), (⟨bt407.1, bt407.2.1, bt407.2.2⟩ : S57), (⟨bt410.1, bt410.2.1, bt410.2.2⟩ : S57), (⟨bt413.1, bt413.2.1, bt413.2.2⟩ : S57), (⟨bt416.1, bt416.2.1, bt416.2.2⟩ : S57), (⟨bt419.1, bt419.2.1, bt419.2.2⟩ : S57)] : List (S57)))).bind fun bt425 => (some (bt425.1, true)))))))))) = some (r1, r2) := H
 have A5 := Aside0.mk A50
 clear A50
 replace H := Option.bind_eq_some_iff.mp H
 obtain ⟨⟨t401, t402, t403⟩, A60, H⟩ := H
 replace H : ((carillonref14_long.f a0_3).bind fun bt404 => ((carillonref14_text.f a0_4).bind fun bt407 => ((carillonref14_text.f a0_5).bind fun bt410 => ((carillonref14_long.f (wrap64 (a0_6 + 1))).bind fun bt413 => ((carillonref14_small.f a0_7).bind fun bt416 => ((carillonref14_long.f a0_8).bind fun bt419 => ((carillonref01_Encode.f k (([(⟨t395, t396, t397⟩ : S57), (⟨t398, t399, t400⟩ : S57), (⟨t401, t402, t403⟩ : S57), (⟨bt404.1, bt404.2.1, bt404.2.2⟩ : S57), (⟨bt407.1, bt407.2.1, bt407.2.2⟩ : S57), (⟨bt410.1, bt410.2.1, bt410.2.2⟩ : S57), (⟨bt413.1, bt413.2.1, bt413.2.2⟩ : S57), (⟨bt416.1, bt416.2.1, bt416.2.2⟩ : S57), (⟨bt419.1, bt419.2.1, bt419.2.2⟩ : S57)] : List (S57)))).bind fun bt425 => (some (bt425.1, true))))))))) = some (r1, r2) := H
 have A6 := Aside0.mk A60
 clear A60
 replace H := Option.bind_eq_some_iff.mp H
 obtain ⟨⟨t404, t405, t406⟩, A70, H⟩ := H
 replace H : ((carillonref14_text.f a0_4).bind fun bt407 => ((carillonref14_text.f a0_5).bind fun bt410 => ((carillonref14_long.f (wrap64 (a0_6 + 1))).bind fun bt413 => ((carillonref14_small.f a0_7).bind fun bt416 => ((carillonref14_long.f a0_8).bind fun bt419 => ((carillonref01_Encode.f k (([(⟨t395, t396, t397⟩ : S57), (⟨t398, t399, t400⟩ : S57), (⟨t401, t402, t403⟩ : S57), (⟨t404, t405, t406⟩ : S57), (⟨bt407.1, bt407.2.1, bt407.2.2⟩ : S57), (⟨bt410.1, bt410.2.1, bt410.2.2⟩ : S57), (⟨bt413.1, bt413.2.1, bt413.2.2⟩ : S57), (⟨bt416.1, bt416.2.1, bt416.2.2⟩ : S57), (⟨bt419.1, bt419.2.1, bt419.2.2⟩ : S57)] : List (S57)))).bind fun bt425 => (some (bt425.1, true)))))))) = some (r1, r2) := H
 have A7 := Aside0.mk A70
 clear A70
 replace H := Option.bind_eq_some_iff.mp H
 obtain ⟨⟨t407, t408, t409⟩, A80, H⟩ := H
 replace H : ((carillonref14_text.f a0_5).bind fun bt410 => ((carillonref14_long.f (wrap64 (a0_6 + 1))).bind fun bt413 => ((carillonref14_small.f a0_7).bind fun bt416 => ((carillonref14_long.f a0_8).bind fun bt419 => ((carillonref01_Encode.f k (([(⟨t395, t396, t397⟩ : S57), (⟨t398, t399, t400⟩ : S57), (⟨t401, t402, t403⟩ : S57), (⟨t404, t405, t406⟩ : S57), (⟨t407, t408, t409⟩ : S57), (⟨bt410.1, bt410.2.1, bt410.2.2⟩ : S57), (⟨bt413.1, bt413.2.1, bt413.2.2⟩ : S57), (⟨bt416.1, bt416.2.1, bt416.2.2⟩ : S57), (⟨bt419.1, bt419.2.1, bt419.2.2⟩ : S57)] : List (S57)))).bind fun bt425 => (some (bt425.1, true))))))) = some (r1, r2) := H
 have A8 := Aside0.mk A80
 clear A80
 replace H := Option.bind_eq_some_iff.mp H
 obtain ⟨⟨t410, t411, t412⟩, A90, H⟩ := H
 replace H : ((carillonref14_long.f (wrap64 (a0_6 + 1))).bind fun bt413 => ((carillonref14_small.f a0_7).bind fun bt416 => ((carillonref14_long.f a0_8).bind fun bt419 => ((carillonref01_Encode.f k (([(⟨t395, t396, t397⟩ : S57), (⟨t398, t399, t400⟩ : S57), (⟨t401, t402, t403⟩ : S57), (⟨t404, t405, t406⟩ : S57), (⟨t407, t408, t409⟩ : S57), (⟨t410, t411, t412⟩ : S57), (⟨bt413.1, bt413.2.1, bt413.2.2⟩ : S57), (⟨bt416.1, bt416.2.1, bt416.2.2⟩ : S57), (⟨bt419.1, bt419.2.1, bt419.2.2⟩ : S57)] : List (S57)))).bind fun bt425 => (some (bt425.1, true)))))) = some (r1, r2) := H
 have A9 := Aside0.mk A90
 clear A90
 replace H := Option.bind_eq_some_iff.mp H
 obtain ⟨⟨t413, t414, t415⟩, A100, H⟩ := H
 replace H : ((carillonref14_small.f a0_7).bind fun bt416 => ((carillonref14_long.f a0_8).bind fun bt419 => ((carillonref01_Encode.f k (([(⟨t395, t396, t397⟩ : S57), (⟨t398, t399, t400⟩ : S57), (⟨t401, t402, t403⟩ : S57), (⟨t404, t405, t406⟩ : S57), (⟨t407, t408, t409⟩ : S57), (⟨t410, t411, t412⟩ : S57), (⟨t413, t414, t415⟩ : S57), (⟨bt416.1, bt416.2.1, bt416.2.2⟩ : S57), (⟨bt419.1, bt419.2.1, bt419.2.2⟩ : S57)] : List (S57)))).bind fun bt425 => (some (bt425.1, true))))) = some (r1, r2) := H
 have A10 := Aside0.mk A100
 clear A100
 replace H := Option.bind_eq_some_iff.mp H
 obtain ⟨⟨t416, t417, t418⟩, A110, H⟩ := H
 replace H : ((carillonref14_long.f a0_8).bind fun bt419 => ((carillonref01_Encode.f k (([(⟨t395, t396, t397⟩ : S57), (⟨t398, t399, t400⟩ : S57), (⟨t401, t402, t403⟩ : S57), (⟨t404, t405, t406⟩ : S57), (⟨t407, t408, t409⟩ : S57), (⟨t410, t411, t412⟩ : S57), (⟨t413, t414, t415⟩ : S57), (⟨t416, t417, t418⟩ : S57), (⟨bt419.1, bt419.2.1, bt419.2.2⟩ : S57)] : List (S57)))).bind fun bt425 => (some (bt425.1, true)))) = some (r1, r2) := H
 have A11 := Aside0.mk A110
 clear A110
 replace H := Option.bind_eq_some_iff.mp H
 obtain ⟨⟨t419, t420, t421⟩, A120, H⟩ := H
 replace H : ((carillonref01_Encode.f k (([(⟨t395, t396, t397⟩ : S57), (⟨t398, t399, t400⟩ : S57), (⟨t401, t402, t403⟩ : S57), (⟨t404, t405, t406⟩ : S57), (⟨t407, t408, t409⟩ : S57), (⟨t410, t411, t412⟩ : S57), (⟨t413, t414, t415⟩ : S57), (⟨t416, t417, t418⟩ : S57), (⟨t419, t420, t421⟩ : S57)] : List (S57)))).bind fun bt425 => (some (bt425.1, true))) = some (r1, r2) := H
 have A12 := Aside0.mk A120
 clear A120
 obtain ⟨y422, hy422⟩ : ∃ y_ : List (S57), y_ = (([(⟨t395, t396, t397⟩ : S57), (⟨t398, t399, t400⟩ : S57), (⟨t401, t402, t403⟩ : S57), (⟨t404, t405, t406⟩ : S57), (⟨t407, t408, t409⟩ : S57), (⟨t410, t411, t412⟩ : S57), (⟨t413, t414, t415⟩ : S57), (⟨t416, t417, t418⟩ : S57), (⟨t419, t420, t421⟩ : S57)] : List (S57))) := ⟨_, rfl⟩
 replace H : ((carillonref01_Encode.f k y422).bind fun bt425 => (some (bt425.1, true))) = some (r1, r2) := by first | (rw [hy422]; with_reducible exact H) | (have H2_ := (Option.bind_some _ _).symm.trans H; rw [hy422]; with_reducible exact H2_) | (have H2_ := (Option.bind_some _ _).symm.trans H; with_reducible exact H2_) | with_reducible exact H | (rw [hy422]; exact H) | exact H
 have Ny422 := Aside0.mk hy422
 clear hy422
 replace H := Option.bind_eq_some_iff.mp H
 obtain ⟨⟨t425, t426⟩, A130, H⟩ := H
 replace H : (some (t425, true)) = some (r1, r2) := H
 have A13 := Aside0.mk A130
 clear A130
 simp only [Option.some.injEq, Prod.mk.injEq] at H
 obtain ⟨rfl, rfl⟩ := H
 go_enter Tryd.func13, Tryd.ntmps13
 try go_wp2_with (first | ((with_reducible refine gate_dst (N := 1) rfl ?_); refine box_event ?hg (N := 1) ?hd (cs := #[.int .i64 a0_0, .string a0_1, .string a0_2, .int .i64 a0_3, .string a0_4, .string a0_5, .int .i64 a0_6, .int .i64 a0_7, .int .i64 a0_8]) (t := 23) ?hr ?_; (case hd => rfl); (case hg => rfl); (case hr => first | (go_simp; done) | (go_simp; rfl)); intro ab hg w14 hbox hb; have aa := Aside0.mk (hbox); have GW393 := Aside0.mk ((g1 hg bw : w.heap.size ≤ ab)); have GE393 := Aside0.mk ((g1 hg bw : w.heap.size ≤ ab)); replace HB := Aside0.mk (below_step bw hb); clear hb hbox hg; obtain ⟨hcz15_0, hcz15_1, hcz15_2, hcz15_3, hcz15_4, hcz15_5, hcz15_6, hcz15_7, hcz15_8, hfz15_0, hfz15_1, hfz15_2, hfz15_3, hfz15_4, hfz15_5, hfz15_6, hfz15_7, hfz15_8⟩ := bx9 aa.out) | ((with_reducible refine gate_callee (f := 17) rfl ?_); refine goesL_ (some 8) rfl rfl Tryd.func17 (by kernel_rfl) rfl #[.agg #[.int .i64 a0_0, .string a0_1, .string a0_2, .int .i64 a0_3, .string a0_4, .string a0_5, .int .i64 a0_6, .int .i64 a0_7, .int .i64 a0_8]] rfl am ?_; (with_reducible refine (carillonref14_Right.calls k a0_0 a0_1 a0_2 a0_3 a0_4 a0_5 a0_6 a0_7 a0_8 true _ A2.out).mono ?_); rintro e w16 ⟨rfl, hb⟩; refine ⟨_, rfl, ?_⟩; replace aa := Aside0.mk (nb aa.out hb); replace HB := Aside0.mk (below_step bw hb); (try clear hb)))
 replace aa := Aside0.mk (blk_drew aa.out)
 replace HB := Aside0.mk (below_drew1 HB.out)
 refine start_ (n := 35) (S := fun w' => w'.cell? ⟨ab, 0, none⟩ = some (.int .i64 a0_0) ∧ w'.cell? ⟨ab, 1, none⟩ = some (.string a0_1) ∧ w'.cell? ⟨ab, 2, none⟩ = some (.string a0_2) ∧ w'.cell? ⟨ab, 3, none⟩ = some (.int .i64 a0_3) ∧ w'.cell? ⟨ab, 4, none⟩ = some (.string a0_4) ∧ w'.cell? ⟨ab, 5, none⟩ = some (.string a0_5) ∧ w'.cell? ⟨ab, 6, none⟩ = some (.int .i64 a0_6) ∧ w'.cell? ⟨ab, 7, none⟩ = some (.int .i64 a0_7) ∧ w'.cell? ⟨ab, 8, none⟩ = some (.int .i64 a0_8)) (ds := []) (bz 35 0) (by kernel_rfl) rfl rfl (by and_intros <;> first | exact (blk_cell aa.out _).trans rfl) (fun hHeld => ?_); refine with_tabW carillonref14_Encode.tab4 carillonref14_Encode.bits4 (fun HT_ HW_ => ?_)
 generalize w16.drew = w17 at aa HB hHeld ⊢
 refine pu_ 0 (some 12) (bz 35 1) HT_.out ?_
 refine pu_ 3 (some 15) (bz 35 9) HT_.out ?_
 refine pu_ 6 (some 18) (bz 35 73) HT_.out ?_
 refine pu_ 9 (some 21) (bz 35 585) HT_.out ?_
 refine pu_ 12 (some 24) (bz 35 4681) HT_.out ?_
 refine pu_ 15 (some 27) (bz 35 37449) HT_.out ?_
 refine pu_ 18 (some 30) (bz 35 299593) HT_.out ?_
 refine pu_ 22 (some 34) (bz 35 4493897) HT_.out ?_
 refine pu_ 25 (some 37) (bz 35 38048329) HT_.out ?_
 refine take_ (i := 1) (N := some 13) (v := ?_) (a' := ?_) (bz 35 38048331) rfl rfl (take_ofW HT_.out HW_.out (by kernel_rfl)) (fun _ _ _ h => h) (Or.inl ⟨by rfl, ?_⟩) hHeld ?_ ?_
 rotate_left
 ·rintro w' ⟨s0, s1, s2, s3, s4, s5, s6, s7, s8⟩
  go_simp
  with_reducible rfl
 rotate_left
 ·simp only [Act.put, sl1, sl2, sl3, i64_w, i32_w]
  rfl
 refine take_ (i := 4) (N := some 16) (v := ?_) (a' := ?_) (bz 35 38048347) rfl rfl (take_ofW HT_.out HW_.out (by kernel_rfl)) (fun _ _ _ h => h) (Or.inl ⟨by rfl, ?_⟩) hHeld ?_ ?_
 rotate_left
 ·rintro w' ⟨s0, s1, s2, s3, s4, s5, s6, s7, s8⟩
  go_simp
  with_reducible rfl
 rotate_left
 ·simp only [Act.put, sl1, sl2, sl3, i64_w, i32_w]
  rfl
 refine take_ (i := 7) (N := some 19) (v := ?_) (a' := ?_) (bz 35 38048475) rfl rfl (take_ofW HT_.out HW_.out (by kernel_rfl)) (fun _ _ _ h => h) (Or.inl ⟨by rfl, ?_⟩) hHeld ?_ ?_
 rotate_left
 ·rintro w' ⟨s0, s1, s2, s3, s4, s5, s6, s7, s8⟩
  go_simp
  with_reducible rfl
 rotate_left
 ·simp only [Act.put, sl1, sl2, sl3, i64_w, i32_w]
  rfl
 refine take_ (i := 10) (N := some 22) (v := ?_) (a' := ?_) (bz 35 38049499) rfl rfl (take_ofW HT_.out HW_.out (by kernel_rfl)) (fun _ _ _ h => h) (Or.inl ⟨by rfl, ?_⟩) hHeld ?_ ?_
 rotate_left
 ·rintro w' ⟨s0, s1, s2, s3, s4, s5, s6, s7, s8⟩
  go_simp
  with_reducible rfl
 rotate_left
 ·simp only [Act.put, sl1, sl2, sl3, i64_w, i32_w]
  rfl
 refine take_ (i := 13) (N := some 25) (v := ?_) (a' := ?_) (bz 35 38057691) rfl rfl (take_ofW HT_.out HW_.out (by kernel_rfl)) (fun _ _ _ h => h) (Or.inl ⟨by rfl, ?_⟩) hHeld ?_ ?_
 rotate_left
 ·rintro w' ⟨s0, s1, s2, s3, s4, s5, s6, s7, s8⟩
  go_simp
  with_reducible rfl
 rotate_left
 ·simp only [Act.put, sl1, sl2, sl3, i64_w, i32_w]
  rfl
 refine take_ (i := 16) (N := some 28) (v := ?_) (a' := ?_) (bz 35 38123227) rfl rfl (take_ofW HT_.out HW_.out (by kernel_rfl)) (fun _ _ _ h => h) (Or.inl ⟨by rfl, ?_⟩) hHeld ?_ ?_
 rotate_left
 ·rintro w' ⟨s0, s1, s2, s3, s4, s5, s6, s7, s8⟩
  go_simp
  with_reducible rfl
 rotate_left
 ·simp only [Act.put, sl1, sl2, sl3, i64_w, i32_w]
  rfl
 refine take_ (i := 19) (N := some 31) (v := ?_) (a' := ?_) (bz 35 38647515) rfl rfl (take_ofW HT_.out HW_.out (by kernel_rfl)) (fun _ _ _ h => h) (Or.inl ⟨by rfl, ?_⟩) hHeld ?_ ?_
 rotate_left
 ·rintro w' ⟨s0, s1, s2, s3, s4, s5, s6, s7, s8⟩
  go_simp
  with_reducible rfl
 rotate_left
 ·simp only [Act.put, sl1, sl2, sl3, i64_w, i32_w]
  rfl
 refine pu_ 20 (some 32) (bz 35 39696091) HT_.out ?_
 refine take_ (i := 23) (N := some 35) (v := ?_) (a' := ?_) (bz 35 48084699) rfl rfl (take_ofW HT_.out HW_.out (by kernel_rfl)) (fun _ _ _ h => h) (Or.inl ⟨by rfl, ?_⟩) hHeld ?_ ?_
 rotate_left
 ·rintro w' ⟨s0, s1, s2, s3, s4, s5, s6, s7, s8⟩
  go_simp
  with_reducible rfl
 rotate_left
 ·simp only [Act.put, sl1, sl2, sl3, i64_w, i32_w]
  rfl
 refine take_ (i := 26) (N := some 38) (v := ?_) (a' := ?_) (bz 35 115193563) rfl rfl (take_ofW HT_.out HW_.out (by kernel_rfl)) (fun _ _ _ h => h) (Or.inl ⟨by rfl, ?_⟩) hHeld ?_ ?_
 rotate_left
 ·rintro w' ⟨s0, s1, s2, s3, s4, s5, s6, s7, s8⟩
  go_simp
  with_reducible rfl
 rotate_left
 ·simp only [Act.put, sl1, sl2, sl3, i64_w, i32_w]
  rfl
 refine one_ (i := 2) (N := some 14) (bz 35 115193567) rfl rfl (one_of HT_.out (by kernel_rfl)) (by decide) (fun K hK => ?_)
 refine goes_ Tryd.func34 (by kernel_rfl) rfl #[.int .i64 a0_0] (by rfl) rfl rfl am ?_
 with_reducible refine (carillonref14_small.calls a0_0 t395 t396 t397 _ A4.out).mono ?_
 rintro e w18 ⟨rfl, hb⟩
 refine ⟨_, rfl, ?_⟩
 replace aa := Aside0.mk (nb aa.out hb)
 replace HB := Aside0.mk (below_step bw hb)
 (try clear hb)
 (try clear hb2)
 (try clear hk)
 (try clear hi)
 refine hK.out _ _ (by and_intros <;> first | exact (blk_cell aa.out _).trans rfl) (fun hHeld => ?_)
 clear hK K
 refine norm_ (a' := ?_) ?_ ?_
 rotate_left
 ·show Act.put _ (some 14) _ = _
  simp only [Act.put, sl1, sl2, sl3, i64_w, i32_w]
  rfl
 refine one_ (i := 5) (N := some 17) (bz 35 115193599) rfl rfl (one_of HT_.out (by kernel_rfl)) (by decide) (fun K hK => ?_)
 refine goes_ Tryd.func35 (by kernel_rfl) rfl #[.string a0_1] (by rfl) rfl rfl am ?_
 with_reducible refine (carillonref14_text.calls a0_1 t398 t399 t400 _ A5.out).mono ?_
 rintro e w19 ⟨rfl, hb⟩
 refine ⟨_, rfl, ?_⟩
 replace aa := Aside0.mk (nb aa.out hb)
 replace HB := Aside0.mk (below_step bw hb)
 (try clear hb)
 (try clear hb2)
 (try clear hk)
 (try clear hi)
 refine hK.out _ _ (by and_intros <;> first | exact (blk_cell aa.out _).trans rfl) (fun hHeld => ?_)
 clear hK K
 refine norm_ (a' := ?_) ?_ ?_
 rotate_left
 ·show Act.put _ (some 17) _ = _
  simp only [Act.put, sl1, sl2, sl3, i64_w, i32_w]
  rfl
 refine one_ (i := 8) (N := some 20) (bz 35 115193855) rfl rfl (one_of HT_.out (by kernel_rfl)) (by decide) (fun K hK => ?_)
 refine goes_ Tryd.func35 (by kernel_rfl) rfl #[.string a0_2] (by rfl) rfl rfl am ?_
 with_reducible refine (carillonref14_text.calls a0_2 t401 t402 t403 _ A6.out).mono ?_
 rintro e w20 ⟨rfl, hb⟩
 refine ⟨_, rfl, ?_⟩
 replace aa := Aside0.mk (nb aa.out hb)
 replace HB := Aside0.mk (below_step bw hb)
 (try clear hb)
 (try clear hb2)
 (try clear hk)
 (try clear hi)
 refine hK.out _ _ (by and_intros <;> first | exact (blk_cell aa.out _).trans rfl) (fun hHeld => ?_)
 clear hK K
 refine norm_ (a' := ?_) ?_ ?_
 rotate_left
 ·show Act.put _ (some 20) _ = _
  simp only [Act.put, sl1, sl2, sl3, i64_w, i32_w]
  rfl
 refine one_ (i := 11) (N := some 23) (bz 35 115195903) rfl rfl (one_of HT_.out (by kernel_rfl)) (by decide) (fun K hK => ?_)
 refine goes_ Tryd.func36 (by kernel_rfl) rfl #[.int .i64 a0_3] (by rfl) rfl rfl am ?_
 with_reducible refine (carillonref14_long.calls a0_3 t404 t405 t406 _ A7.out).mono ?_
 rintro e w21 ⟨rfl, hb⟩
 refine ⟨_, rfl, ?_⟩
 replace aa := Aside0.mk (nb aa.out hb)
 replace HB := Aside0.mk (below_step bw hb)
 (try clear hb)
 (try clear hb2)
 (try clear hk)
 (try clear hi)
 refine hK.out _ _ (by and_intros <;> first | exact (blk_cell aa.out _).trans rfl) (fun hHeld => ?_)
 clear hK K
 refine norm_ (a' := ?_) ?_ ?_
 rotate_left
 ·show Act.put _ (some 23) _ = _
  simp only [Act.put, sl1, sl2, sl3, i64_w, i32_w]
  rfl
 refine one_ (i := 14) (N := some 26) (bz 35 115212287) rfl rfl (one_of HT_.out (by kernel_rfl)) (by decide) (fun K hK => ?_)
 refine goes_ Tryd.func35 (by kernel_rfl) rfl #[.string a0_4] (by rfl) rfl rfl am ?_
 with_reducible refine (carillonref14_text.calls a0_4 t407 t408 t409 _ A8.out).mono ?_
 rintro e w22 ⟨rfl, hb⟩
 refine ⟨_, rfl, ?_⟩
 replace aa := Aside0.mk (nb aa.out hb)
 replace HB := Aside0.mk (below_step bw hb)
 (try clear hb)
 (try clear hb2)
 (try clear hk)
 (try clear hi)
 refine hK.out _ _ (by and_intros <;> first | exact (blk_cell aa.out _).trans rfl) (fun hHeld => ?_)
 clear hK K
 refine norm_ (a' := ?_) ?_ ?_
 rotate_left
 ·show Act.put _ (some 26) _ = _
  simp only [Act.put, sl1, sl2, sl3, i64_w, i32_w]
  rfl
 refine one_ (i := 17) (N := some 29) (bz 35 115343359) rfl rfl (one_of HT_.out (by kernel_rfl)) (by decide) (fun K hK => ?_)
 refine goes_ Tryd.func35 (by kernel_rfl) rfl #[.string a0_5] (by rfl) rfl rfl am ?_
 with_reducible refine (carillonref14_text.calls a0_5 t410 t411 t412 _ A9.out).mono ?_
 rintro e w23 ⟨rfl, hb⟩
 refine ⟨_, rfl, ?_⟩
 replace aa := Aside0.mk (nb aa.out hb)
 replace HB := Aside0.mk (below_step bw hb)
 (try clear hb)
 (try clear hb2)
 (try clear hk)
 (try clear hi)
 refine hK.out _ _ (by and_intros <;> first | exact (blk_cell aa.out _).trans rfl) (fun hHeld => ?_)
 clear hK K
 refine norm_ (a' := ?_) ?_ ?_
 rotate_left
 ·show Act.put _ (some 29) _ = _
  simp only [Act.put, sl1, sl2, sl3, i64_w, i32_w]
  rfl
 refine one_ (i := 21) (N := some 33) (bz 35 117440511) rfl rfl (one_of HT_.out (by kernel_rfl)) (by decide) (fun K hK => ?_)
 refine goes_ Tryd.func36 (by kernel_rfl) rfl #[.int .i64 (wrap64 (a0_6 + 1))] (by rfl) rfl rfl am ?_
 with_reducible refine (carillonref14_long.calls (wrap64 (a0_6 + 1)) t413 t414 t415 _ A10.out).mono ?_
 rintro e w24 ⟨rfl, hb⟩
 refine ⟨_, rfl, ?_⟩
 replace aa := Aside0.mk (nb aa.out hb)
 replace HB := Aside0.mk (below_step bw hb)
 (try clear hb)
 (try clear hb2)
 (try clear hk)
 (try clear hi)
 refine hK.out _ _ (by and_intros <;> first | exact (blk_cell aa.out _).trans rfl) (fun hHeld => ?_)
 clear hK K
 refine norm_ (a' := ?_) ?_ ?_
 rotate_left
 ·show Act.put _ (some 33) _ = _
  simp only [Act.put, sl1, sl2, sl3, i64_w, i32_w]
  rfl
 refine one_ (i := 24) (N := some 36) (bz 35 134217727) rfl rfl (one_of HT_.out (by kernel_rfl)) (by decide) (fun K hK => ?_)
 refine goes_ Tryd.func34 (by kernel_rfl) rfl #[.int .i64 a0_7] (by rfl) rfl rfl am ?_
 with_reducible refine (carillonref14_small.calls a0_7 t416 t417 t418 _ A11.out).mono ?_
 rintro e w25 ⟨rfl, hb⟩
 refine ⟨_, rfl, ?_⟩
 replace aa := Aside0.mk (nb aa.out hb)
 replace HB := Aside0.mk (below_step bw hb)
 (try clear hb)
 (try clear hb2)
 (try clear hk)
 (try clear hi)
 refine hK.out _ _ (by and_intros <;> first | exact (blk_cell aa.out _).trans rfl) (fun hHeld => ?_)
 clear hK K
 refine norm_ (a' := ?_) ?_ ?_
 rotate_left
 ·show Act.put _ (some 36) _ = _
  simp only [Act.put, sl1, sl2, sl3, i64_w, i32_w]
  rfl
 refine one_ (i := 27) (N := some 39) (bz 35 268435455) rfl rfl (one_of HT_.out (by kernel_rfl)) (by decide) (fun K hK => ?_)
 refine goes_ Tryd.func36 (by kernel_rfl) rfl #[.int .i64 a0_8] (by rfl) rfl rfl am ?_
 with_reducible refine (carillonref14_long.calls a0_8 t419 t420 t421 _ A12.out).mono ?_
 rintro e w26 ⟨rfl, hb⟩
 refine ⟨_, rfl, ?_⟩
 replace aa := Aside0.mk (nb aa.out hb)
 replace HB := Aside0.mk (below_step bw hb)
 (try clear hb)
 (try clear hb2)
 (try clear hk)
 (try clear hi)
 refine hK.out _ _ (by and_intros <;> first | exact (blk_cell aa.out _).trans rfl) (fun hHeld => ?_)
 clear hK K
 refine norm_ (a' := ?_) ?_ ?_
 rotate_left
 ·show Act.put _ (some 39) _ = _
  simp only [Act.put, sl1, sl2, sl3, i64_w, i32_w]
  rfl
 refine one_ (i := 28) (N := some 40) (bz 35 536870911) rfl rfl (one_of HT_.out (by kernel_rfl)) (by decide) (fun K hK => ?_)
 refine Kd.R_lit_step k57 _ 57 ?hg (N := 40) ?hd (xs := ([(⟨t395, t396, t397⟩ : S57), (⟨t398, t399, t400⟩ : S57), (⟨t401, t402, t403⟩ : S57), (⟨t404, t405, t406⟩ : S57), (⟨t407, t408, t409⟩ : S57), (⟨t410, t411, t412⟩ : S57), (⟨t413, t414, t415⟩ : S57), (⟨t416, t417, t418⟩ : S57), (⟨t419, t420, t421⟩ : S57)] : List (S57))) (inner := [.int .i64 t395, .int .u64 t396, .string t397, .int .i64 t398, .int .u64 t399, .string t400, .int .i64 t401, .int .u64 t402, .string t403, .int .i64 t404, .int .u64 t405, .string t406, .int .i64 t407, .int .u64 t408, .string t409, .int .i64 t410, .int .u64 t411, .string t412, .int .i64 t413, .int .u64 t414, .string t415, .int .i64 t416, .int .u64 t417, .string t418, .int .i64 t419, .int .u64 t420, .string t421]) (ok := fun _ => True) (okp := fun _ => True) ?hr ?hp (fun _ hk => hk) trivial (Below.refl _ _) (Nat.le_refl _) (by simp) ?_; (case hd => rfl); (case hg => rfl); (case hr => first | (go_simp; done) | (go_simp; rfl)); (case hp => exact (Reps.c3 (show Kd.M k57 _ _ _ (⟨t395, t396, t397⟩ : S57) [.int .i64 t395, .int .u64 t396, .string t397] from (k57_mkM _ _ _ (⟨t395, t396, t397⟩ : S57) )) (Reps.c3 (show Kd.M k57 _ _ _ (⟨t398, t399, t400⟩ : S57) [.int .i64 t398, .int .u64 t399, .string t400] from (k57_mkM _ _ _ (⟨t398, t399, t400⟩ : S57) )) (Reps.c3 (show Kd.M k57 _ _ _ (⟨t401, t402, t403⟩ : S57) [.int .i64 t401, .int .u64 t402, .string t403] from (k57_mkM _ _ _ (⟨t401, t402, t403⟩ : S57) )) (Reps.c3 (show Kd.M k57 _ _ _ (⟨t404, t405, t406⟩ : S57) [.int .i64 t404, .int .u64 t405, .string t406] from (k57_mkM _ _ _ (⟨t404, t405, t406⟩ : S57) )) (Reps.c3 (show Kd.M k57 _ _ _ (⟨t407, t408, t409⟩ : S57) [.int .i64 t407, .int .u64 t408, .string t409] from (k57_mkM _ _ _ (⟨t407, t408, t409⟩ : S57) )) (Reps.c3 (show Kd.M k57 _ _ _ (⟨t410, t411, t412⟩ : S57) [.int .i64 t410, .int .u64 t411, .string t412] from (k57_mkM _ _ _ (⟨t410, t411, t412⟩ : S57) )) (Reps.c3 (show Kd.M k57 _ _ _ (⟨t413, t414, t415⟩ : S57) [.int .i64 t413, .int .u64 t414, .string t415] from (k57_mkM _ _ _ (⟨t413, t414, t415⟩ : S57) )) (Reps.c3 (show Kd.M k57 _ _ _ (⟨t416, t417, t418⟩ : S57) [.int .i64 t416, .int .u64 t417, .string t418] from (k57_mkM _ _ _ (⟨t416, t417, t418⟩ : S57) )) (Reps.c3 (show Kd.M k57 _ _ _ (⟨t419, t420, t421⟩ : S57) [.int .i64 t419, .int .u64 t420, .string t421] from (k57_mkM _ _ _ (⟨t419, t420, t421⟩ : S57) )) (Reps.none _ _)))))))))))
 intro v423 w27 ho28 hb hg_ hnew_
 clear hg_ hnew_
 (first | rw [← Ny422.out] at ho28 | (simp only [Int.reduceToNat] at ho28; rw [← Ny422.out] at ho28))
 have ac := Aside0.mk (Kd.R_lower ho28 (below_size bw))
 replace aa := Aside0.mk (nb aa.out hb)
 replace HB := Aside0.mk (below_step bw hb)
 clear hb ho28
 obtain ⟨Ao29, co29, ad⟩ := Kd.R_slice ac.out
 (first | subst ad | (injection ad with f1_ f2_ f3_; have f4_ := f1_.symm; have f5_ := f3_.symm; clear f1_ f2_ f3_; subst f4_; subst f5_))
 refine hK.out _ _ (by and_intros <;> first | exact (blk_cell aa.out _).trans rfl) (fun hHeld => ?_)
 clear hK K
 refine norm_ (a' := ?_) ?_ ?_
 rotate_left
 ·show Act.put _ (some 40) _ = _
  simp only [Act.put, sl1, sl2, sl3, i64_w, i32_w]
  rfl
 refine one_ (i := 29) (N := some 41) (bz 35 1073741823) rfl rfl (one_of HT_.out (by kernel_rfl)) (by decide) (fun K hK => ?_)
 refine goes_ Tryd.func33 (by kernel_rfl) rfl #[.slice Ao29 y422.length co29] (by rfl) rfl rfl am ?_
 with_reducible refine (carillonref01_Encode.calls k _ _ y422 t425 t426 _ ?side1 ?side2 A13.out).mono ?_
 (case side1 => repeat (first | exact (Kd.R_reads' ac.out).2.2 | (with_reducible refine Kd.C_alloc ?_ _) | (with_reducible refine Kd.C_drewN ?_ _) | (with_reducible refine Kd.C_drew ?_)))
 (case side2 => exact (Kd.R_reads' ac.out).2.1)
 rintro e w30 ⟨rfl, hb⟩
 refine ⟨_, rfl, ?_⟩
 replace ac := Aside0.mk (Kd.R_below (r_ ac.out) hb)
 replace aa := Aside0.mk (nb aa.out hb)
 replace HB := Aside0.mk (below_step bw hb)
 (try clear hb)
 (try clear hb2)
 (try clear hk)
 (try clear hi)
 refine hK.out _ _ (by and_intros <;> first | exact (blk_cell aa.out _).trans rfl) (fun hHeld => ?_)
 clear hK K
 refine norm_ (a' := ?_) ?_ ?_
 rotate_left
 ·show Act.put _ (some 41) _ = _
  simp only [Act.put, sl1, sl2, sl3, i64_w, i32_w]
  rfl
 refine pu_ 30 (some 11) (bz 35 2147483647) HT_.out ?_
 refine pu_ 31 (some 42) (bz 35 4294967295) HT_.out ?_
 refine pu_ 32 (some 43) (bz 35 8589934591) HT_.out ?_
 refine pu_ 33 (some 5) (bz 35 17179869183) HT_.out ?_
 refine pu_ 34 (some 6) (bz 35 34359738367) HT_.out ?_
 refine done_ (done_of HT_.out (by kernel_rfl)) ?_
 try go_wp2
 go_ret2
 exact ⟨er, bw⟩

end Go.Proofs.YtpgiagdpepkooaaDoor.P
