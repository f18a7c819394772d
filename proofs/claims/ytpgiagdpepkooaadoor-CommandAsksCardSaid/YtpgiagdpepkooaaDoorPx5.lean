-- Printed by this session's program wip/xp.py (a turned copy of the kit's printer): functions, their contracts.
import Derived.Test.YtpgiagdpepkooaaDoorPx0
import Derived.Test.YtpgiagdpepkooaaDoorPx3
import Derived.Test.YtpgiagdpepkooaaDoorPx4
namespace Go.Proofs.YtpgiagdpepkooaaDoor.P
open Go.RowKit Go.Proofs.YtpgiagdpepkooaaDoorW.PrintWords Go.Proofs.YtpgiagdpepkooaaDoorW.PrintLast Go.Proofs.YtpgiagdpepkooaaDoorW.PrintMore
attribute [local go_sem] max2_int min2_int max_two min_two max_three min_three max_four min_four   -- for this text's walks alone
set_option linter.unusedVariables false
set_option linter.unusedSimpArgs false

/-! ### command_Encode: function 12 -/
def command_Encode.f (k : Nat) (a0_0 : Int) (a0_1 : ByteArray) (a0_2 : ByteArray) (a0_3 : Int) (a0_4 : ByteArray) (a0_5 : ByteArray) (a0_6 : Int) (a0_7 : Int) (a0_8 : Int) : Option (ByteArray × Int) := (command_Right.f a0_0 a0_1 a0_2 a0_3 a0_4 a0_5 a0_6 a0_7 a0_8).bind fun t124 => (if t124 = true then ((command_small.f a0_0).bind fun bt125 => ((command_text.f a0_1).bind fun bt128 => ((command_text.f a0_2).bind fun bt131 => ((command_long.f a0_3).bind fun bt134 => ((command_text.f a0_4).bind fun bt137 => ((command_text.f a0_5).bind fun bt140 => ((command_long.f (wrap64 (a0_6 + 1))).bind fun bt143 => ((command_small.f a0_7).bind fun bt146 => ((command_long.f a0_8).bind fun bt149 => ((codec_Encode.f k (([(⟨bt125.1, bt125.2.1, bt125.2.2⟩ : S57), (⟨bt128.1, bt128.2.1, bt128.2.2⟩ : S57), (⟨bt131.1, bt131.2.1, bt131.2.2⟩ : S57), (⟨bt134.1, bt134.2.1, bt134.2.2⟩ : S57), (⟨bt137.1, bt137.2.1, bt137.2.2⟩ : S57), (⟨bt140.1, bt140.2.1, bt140.2.2⟩ : S57), (⟨bt143.1, bt143.2.1, bt143.2.2⟩ : S57), (⟨bt146.1, bt146.2.1, bt146.2.2⟩ : S57), (⟨bt149.1, bt149.2.1, bt149.2.2⟩ : S57)] : List (S57)))).bind fun bt155 => (some (bt155.1, bt155.2)))))))))))) else (some ((⟨#[]⟩ : ByteArray), 1)))
def command_Encode.T3 : Bool × List (List Nat × List Nat) := (true, [([], []), ([0], [0]), ([1], [1]), ([], []), ([3], [3]), ([4, 2], [4]), ([], []), ([6], [6]), ([7, 5], [7]), ([], []), ([9], [9]), ([10, 8], [10]), ([], []), ([12], [12]), ([13, 11], [13]), ([], []), ([15], [15]), ([16, 14], [16]), ([], []), ([18], [18]), ([19], [19]), ([20, 17], [20]), ([], []), ([22], [22]), ([23, 21], [23]), ([], []), ([25], [25]), ([26, 24], [26]), ([2, 5, 8, 11, 14, 17, 21, 24, 27], [2, 5, 8, 11, 14, 17, 21, 24, 27]), ([28, 27], [28]), ([29], [29]), ([29], [29]), ([30, 29, 0, 1, 2, 3, 4, 5, 6, 7, 8, 9, 10, 11, 12, 13, 14, 15, 16, 17, 18, 19, 20, 21, 22, 23, 24, 25, 26, 27, 28, 29, 30, 31], [30]), ([31, 32, 0, 1, 2, 3, 4, 5, 6, 7, 8, 9, 10, 11, 12, 13, 14, 15, 16, 17, 18, 19, 20, 21, 22, 23, 24, 25, 26, 27, 28, 29, 30, 31, 32], [31])])
def command_Encode.B3 : List Nat := [0, 1, 3, 0, 8, 31, 0, 64, 255, 0, 512, 2047, 0, 4096, 16383, 0, 32768, 131071, 0, 262144, 786432, 2097151, 0, 4194304, 16777215, 0, 33554432, 134217727, 268435455, 536870911, 1073741823, 1073741823, 4294967295, 8589934591]
theorem command_Encode.tab3 : rtab .any (opsOf Tryd.f12 3) = command_Encode.T3 := by kernel_rfl
theorem command_Encode.bits3 : waitsOk command_Encode.T3.2 command_Encode.B3 = true := by kernel_rfl
set_option maxHeartbeats 8000000 in
set_option maxRecDepth 100000 in
theorem command_Encode.calls (k : Nat) (a0_0 : Int) (a0_1 : ByteArray) (a0_2 : ByteArray) (a0_3 : Int) (a0_4 : ByteArray) (a0_5 : ByteArray) (a0_6 : Int) (a0_7 : Int) (a0_8 : Int) (r1 : ByteArray) (r2 : Int) (w : World) (HT_ : TabOk w) (h : command_Encode.f k a0_0 a0_1 a0_2 a0_3 a0_4 a0_5 a0_6 a0_7 a0_8 = some (r1, r2)) :
  Calls Tryd.prog 12 #[.agg #[.int .i64 a0_0, .string a0_1, .string a0_2, .int .i64 a0_3, .string a0_4, .string a0_5, .int .i64 a0_6, .int .i64 a0_7, .int .i64 a0_8]] w fun e w' => e = .returned (.tuple #[.string r1, .int .i64 r2]) ∧ Below w.heap.size w w' := by
 have HT := Aside0.mk HT_
 clear HT_
 have hu23 := Tryd.underlying23
 have HB := Aside0.mk (Below.refl w.heap.size w)
 have H := h
 unfold command_Encode.f at H
 clear h
 replace H := Option.bind_eq_some_iff.mp H
 obtain ⟨t124, A20, H⟩ := H
 have A2 := Aside0.mk A20
 clear A20
 by_cases c3 : t124 = true; rotate_left
 ·replace c3 := Bool.eq_false_iff.mpr c3
  subst c3
  have H1 : (some ((⟨#[]⟩ : ByteArray), 1)) = some (r1, r2) := by rw [if_neg (show ¬ (false = true) by decide)] at H; exact H
  clear H
  have H := H1
  clear H1
  simp only [Option.some.injEq, Prod.mk.injEq] at H
  obtain ⟨rfl, rfl⟩ := H
  go_enter Tryd.func12, Tryd.ntmps12
  go_wp2_with (first | ((with_reducible refine gate_dst (N := 1) rfl ?_); refine box_event ?hg (N := 1) ?hd (cs := #[.int .i64 a0_0, .string a0_1, .string a0_2, .int .i64 a0_3, .string a0_4, .string a0_5, .int .i64 a0_6, .int .i64 a0_7, .int .i64 a0_8]) (t := 23) ?hr ?_; (case hd => rfl); (case hg => rfl); (case hr => first | (go_simp; done) | (go_simp; rfl)); intro ab hg w31 hbox hb; have aa := Aside0.mk (hbox); have GW123 := Aside0.mk ((g1 hg bw : w.heap.size ≤ ab)); have GE123 := Aside0.mk ((g1 hg bw : w.heap.size ≤ ab)); replace HB := Aside0.mk (below_step bw hb); clear hb hbox hg; obtain ⟨hcz32_0, hcz32_1, hcz32_2, hcz32_3, hcz32_4, hcz32_5, hcz32_6, hcz32_7, hcz32_8, hfz32_0, hfz32_1, hfz32_2, hfz32_3, hfz32_4, hfz32_5, hfz32_6, hfz32_7, hfz32_8⟩ := bx9 aa.out) | ((with_reducible refine gate_callee (f := 16) rfl ?_); refine goesL_ (some 5) rfl rfl Tryd.func16 (by kernel_rfl) rfl #[.agg #[.int .i64 a0_0, .string a0_1, .string a0_2, .int .i64 a0_3, .string a0_4, .string a0_5, .int .i64 a0_6, .int .i64 a0_7, .int .i64 a0_8]] rfl am ?_; (with_reducible refine (command_Right.calls a0_0 a0_1 a0_2 a0_3 a0_4 a0_5 a0_6 a0_7 a0_8 false _ A2.out).mono ?_); rintro e w33 ⟨rfl, hb⟩; refine ⟨_, rfl, ?_⟩; replace aa := Aside0.mk (nb aa.out hb); replace HB := Aside0.mk (below_step bw hb); (try clear hb)))
  go_ret2
  exact ⟨er, bw⟩
 subst c3
 have H1 := H
 rw [if_pos rfl] at H1
 clear H
 have H := H1
 clear H1
 replace H := Option.bind_eq_some_iff.mp H
 obtain ⟨⟨t125, t126, t127⟩, A40, H⟩ := H
 replace H : ((command_text.f a0_1).bind fun bt128 => ((command_text.f a0_2).bind fun bt131 => ((command_long.f a0_3).bind fun bt134 => ((command_text.f a0_4).bind fun bt137 => ((command_text.f a0_5).bind fun bt140 => ((command_long.f (wrap64 (a0_6 + 1))).bind fun bt143 => ((command_small.f a0_7).bind fun bt146 => ((command_long.f a0_8).bind fun bt149 => ((codec_Encode.f k (([(⟨t125, t126, t127⟩ : S57), (⟨bt128.1, bt128.2.1, bt128.2.2⟩ : S57), (⟨bt131.1, bt131.2.1, bt131.2.2⟩ : S57), (⟨bt134.1, bt134.2.1, bt134.2.2⟩ : S57), (⟨bt137.1, bt137.2.1, bt137.2.2⟩ : S57), (⟨bt140.1, bt140.2.1, bt140.2.2⟩ : S57), (⟨bt143.1, bt143.2.1, bt143.2.2⟩ : S57), (⟨bt146.1, bt146.2.1, bt146.2.2⟩ : S57), (⟨bt149.1, bt149.2.1, bt149.2.2⟩ : S57)] : List (S57)))).bind fun bt155 => (some (bt155.1, bt155.2))))))))))) = some (r1, r2) := H
 have A4 := Aside0.mk A40
 clear A40
 replace H := Option.bind_eq_some_iff.mp H
 obtain ⟨⟨t128, t129, t130⟩, A50, H⟩ := H
 replace H : ((command_text.f a0_2).bind fun bt131 => ((command_long.f a0_3).bind fun bt134 => ((command_text.f a0_4).bind fun bt137 => ((command_text.f a0_5).bind fun bt140 => ((command_long.f (wrap64 (a0_6 + 1))).bind fun bt143 => ((command_small.f a0_7).bind fun bt146 => ((command_long.f a0_8).bind fun bt149 => ((codec_Encode.f k (([(⟨t125, t126, t127⟩ : S57), (⟨t128, t129, t130⟩ : S57), (⟨bt131.1, bt131.2.1, bt131.2.2⟩ : S57), (⟨bt134.1, bt134.2.1, bt134.2.2⟩ : S57), (⟨bt137.1, bt137.2.1, bt137.2.2⟩ : S57), (⟨bt140.1, bt140.2.1, bt140.2.2⟩ : S57), (⟨bt143.1, bt143.2.1, bt143.2.2⟩ : S57), (⟨bt146.1, bt146.2.1, bt146.2.2⟩ : S57), (⟨bt149.1, bt149.2.1, bt149.2.2⟩ : S57)] : List (S57)))).bind fun bt155 => (some (bt155.1, bt155.2)))))))))) = some (r1, r2) := H
 have A5 := Aside0.mk A50
 clear A50
 replace H := Option.bind_eq_some_iff.mp H
 obtain ⟨⟨t131, t132, t133⟩, A60, H⟩ := H
 replace H : ((command_long.f a0_3).bind fun bt134 => ((command_text.f a0_4).bind fun bt137 => ((command_text.f a0_5).bind fun bt140 => ((command_long.f (wrap64 (a0_6 + 1))).bind fun bt143 => ((command_small.f a0_7).bind fun bt146 => ((command_long.f a0_8).bind fun bt149 => ((codec_Encode.f k (([(⟨t125, t126, t127⟩ : S57), (⟨t128, t129, t130⟩ : S57), (⟨t131, t132, t133⟩ : S57), (⟨bt134.1, bt134.2.1, bt134.2.2⟩ : S57), (⟨bt137.1, bt137.2.1, bt137.2.2⟩ : S57), (⟨bt140.1, bt140.2.1, bt140.2.2⟩ : S57), (⟨bt143.1, bt143.2.1, bt143.2.2⟩ : S57), (⟨bt146.1, bt146.2.1, bt146.2.2⟩ : S57), (⟨bt149.1, bt149.2.1, bt149.2.2⟩ : S57)] : List (S57)))).bind fun bt155 => (some (bt155.1, bt155.2))))))))) = some (r1, r2) := H
 have A6 := Aside0.mk A60
 clear A60
 replace H := Option.bind_eq_some_iff.mp H
 obtain ⟨⟨t134, t135, t136⟩, A70, H⟩ := H
 replace H : ((command_text.f a0_4).bind fun bt137 => ((command_text.f a0_5).bind fun bt140 => ((command_long.f (wrap64 (a0_6 + 1))).bind fun bt143 => ((command_small.f a0_7).bind fun bt146 => ((command_long.f a0_8).bind fun bt149 => ((codec_Encode.f k (([(⟨t125, t126, t127⟩ : S57), (⟨t128, t129, t130⟩ : S57), (⟨t131, t132, t133⟩ : S57), (⟨t134, t135, t136⟩ : S57), (⟨bt137.1, bt137.2.1, bt137.2.2⟩ : S57), (⟨bt140.1, bt140.2.1, bt140.2.2⟩ : S57), (⟨bt143.1, bt143.2.1, bt143.2.2⟩ : S57), (⟨bt146.1, bt146.2.1, bt146.2.2⟩ : S57), (⟨bt149.1, bt149.2.1, bt149.2.2⟩ : S57)] : List (S57)))).bind fun bt155 => (some (bt155.1, bt155.2)))))))) = some (r1, r2) := H
 have A7 := Aside0.mk A70
 clear A70
 replace H := Option.bind_eq_some_iff.mp H
 obtain ⟨⟨t137, t138, t139⟩, A80, H⟩ := H
 replace H : ((command_text.f a0_5).bind fun bt140 => ((command_long.f (wrap64 (a0_6 + 1))).bind fun bt143 => ((command_small.f a0_7).bind fun bt146 => ((command_long.f a0_8).bind fun bt149 => ((codec_Encode.f k (([(⟨t125, t126, t127⟩ : S57), (⟨t128, t129, t130⟩ : S57), (⟨t131, t132, t133⟩ : S57), (⟨t134, t135, t136⟩ : S57), (⟨t137, t138, t139⟩ : S57), (⟨bt140.1, bt140.2.1, bt140.2.2⟩ : S57), (⟨bt143.1, bt143.2.1, bt143.2.2⟩ : S57), (⟨bt146.1, bt146.2.1, bt146.2.2⟩ : S57), (⟨bt149.1, bt149.2.1, bt149.2.2⟩ : S57)] : List (S57)))).bind fun bt155 => (some (bt155.1, bt155.2))))))) = some (r1, r2) := H
 have A8 := Aside0.mk A80
 clear A80
 replace H := Option.bind_eq_some_iff.mp H
 obtain ⟨⟨t140, t141, t142⟩, A90, H⟩ := H
 replace H : ((command_long.f (wrap64 (a0_6 + 1))).bind fun bt143 => ((command_small.f a0_7).bind fun bt146 => ((command_long.f a0_8).bind fun bt149 => ((codec_Encode.f k (([(⟨t125, t126, t127⟩ : S57), (⟨t128, t129, t130⟩ : S57), (⟨t131, t132, t133⟩ : S57), (⟨t134, t135, t136⟩ : S57), (⟨t137, t138, t139⟩ : S57), (⟨t140, t141, t142⟩ : S57), (⟨bt143.1, bt143.2.1, bt143.2.2⟩ : S57), (⟨bt146.1, bt146.2.1, bt146.2.2⟩ : S57), (⟨bt149.1, bt149.2.1, bt149.2.2⟩ : S57)] : List (S57)))).bind fun bt155 => (some (bt155.1, bt155.2)))))) = some (r1, r2) := H
 have A9 := Aside0.mk A90
 clear A90
 replace H := Option.bind_eq_some_iff.mp H
 obtain ⟨⟨t143, t144, t145⟩, A100, H⟩ := H
 replace H : ((command_small.f a0_7).bind fun bt146 => ((command_long.f a0_8).bind fun bt149 => ((codec_Encode.f k (([(⟨t125, t126, t127⟩ : S57), (⟨t128, t129, t130⟩ : S57), (⟨t131, t132, t133⟩ : S57), (⟨t134, t135, t136⟩ : S57), (⟨t137, t138, t139⟩ : S57), (⟨t140, t141, t142⟩ : S57), (⟨t143, t144, t145⟩ : S57), (⟨bt146.1, bt146.2.1, bt146.2.2⟩ : S57), (⟨bt149.1, bt149.2.1, bt149.2.2⟩ : S57)] : List (S57)))).bind fun bt155 => (some (bt155.1, bt155.2))))) = some (r1, r2) := H
 have A10 := Aside0.mk A100
 clear A100
 replace H := Option.bind_eq_some_iff.mp H
 obtain ⟨⟨t146, t147, t148⟩, A110, H⟩ := H
 replace H : ((command_long.f a0_8).bind fun bt149 => ((codec_Encode.f k (([(⟨t125, t126, t127⟩ : S57), (⟨t128, t129, t130⟩ : S57), (⟨t131, t132, t133⟩ : S57), (⟨t134, t135, t136⟩ : S57), (⟨t137, t138, t139⟩ : S57), (⟨t140, t141, t142⟩ : S57), (⟨t143, t144, t145⟩ : S57), (⟨t146, t147, t148⟩ : S57), (⟨bt149.1, bt149.2.1, bt149.2.2⟩ : S57)] : List (S57)))).bind fun bt155 => (some (bt155.1, bt155.2)))) = some (r1, r2) := H
 have A11 := Aside0.mk A110
 clear A110
 replace H := Option.bind_eq_some_iff.mp H
 obtain ⟨⟨t149, t150, t151⟩, A120, H⟩ := H
 replace H : ((codec_Encode.f k (([(⟨t125, t126, t127⟩ : S57), (⟨t128, t129, t130⟩ : S57), (⟨t131, t132, t133⟩ : S57), (⟨t134, t135, t136⟩ : S57), (⟨t137, t138, t139⟩ : S57), (⟨t140, t141, t142⟩ : S57), (⟨t143, t144, t145⟩ : S57), (⟨t146, t147, t148⟩ : S57), (⟨t149, t150, t151⟩ : S57)] : List (S57)))).bind fun bt155 => (some (bt155.1, bt155.2))) = some (r1, r2) := H
 have A12 := Aside0.mk A120
 clear A120
 obtain ⟨y152, hy152⟩ : ∃ y_ : List (S57), y_ = (([(⟨t125, t126, t127⟩ : S57), (⟨t128, t129, t130⟩ : S57), (⟨t131, t132, t133⟩ : S57), (⟨t134, t135, t136⟩ : S57), (⟨t137, t138, t139⟩ : S57), (⟨t140, t141, t142⟩ : S57), (⟨t143, t144, t145⟩ : S57), (⟨t146, t147, t148⟩ : S57), (⟨t149, t150, t151⟩ : S57)] : List (S57))) := ⟨_, rfl⟩
 replace H : ((codec_Encode.f k y152).bind fun bt155 => (some (bt155.1, bt155.2))) = some (r1, r2) := by first | (rw [hy152]; with_reducible exact H) | (have H2_ := (Option.bind_some _ _).symm.trans H; rw [hy152]; with_reducible exact H2_) | (have H2_ := (Option.bind_some _ _).symm.trans H; with_reducible exact H2_) | with_reducible exact H | (rw [hy152]; exact H) | exact H
 have Ny152 := Aside0.mk hy152
 clear hy152
 replace H := Option.bind_eq_some_iff.mp H
 obtain ⟨⟨t155, t156⟩, A130, H⟩ := H
 replace H : (some (t155, t156)) = some (r1, r2) := H
 have A13 := Aside0.mk A130
 clear A130
 simp only [Option.some.injEq, Prod.mk.injEq] at H
 obtain ⟨rfl, rfl⟩ := H
 go_enter Tryd.func12, Tryd.ntmps12
 try go_wp2_with (first | ((with_reducible refine gate_dst (N := 1) rfl ?_); refine box_event ?hg (N := 1) ?hd (cs := #[.int .i64 a0_0, .string a0_1, .string a0_2, .int .i64 a0_3, .string a0_4, .string a0_5, .int .i64 a0_6, .int .i64 a0_7, .int .i64 a0_8]) (t := 23) ?hr ?_; (case hd => rfl); (case hg => rfl); (case hr => first | (go_simp; done) | (go_simp; rfl)); intro ab hg w14 hbox hb; have aa := Aside0.mk (hbox); have GW123 := Aside0.mk ((g1 hg bw : w.heap.size ≤ ab)); have GE123 := Aside0.mk ((g1 hg bw : w.heap.size ≤ ab)); replace HB := Aside0.mk (below_step bw hb); clear hb hbox hg; obtain ⟨hcz15_0, hcz15_1, hcz15_2, hcz15_3, hcz15_4, hcz15_5, hcz15_6, hcz15_7, hcz15_8, hfz15_0, hfz15_1, hfz15_2, hfz15_3, hfz15_4, hfz15_5, hfz15_6, hfz15_7, hfz15_8⟩ := bx9 aa.out) | ((with_reducible refine gate_callee (f := 16) rfl ?_); refine goesL_ (some 5) rfl rfl Tryd.func16 (by kernel_rfl) rfl #[.agg #[.int .i64 a0_0, .string a0_1, .string a0_2, .int .i64 a0_3, .string a0_4, .string a0_5, .int .i64 a0_6, .int .i64 a0_7, .int .i64 a0_8]] rfl am ?_; (with_reducible refine (command_Right.calls a0_0 a0_1 a0_2 a0_3 a0_4 a0_5 a0_6 a0_7 a0_8 true _ A2.out).mono ?_); rintro e w16 ⟨rfl, hb⟩; refine ⟨_, rfl, ?_⟩; replace aa := Aside0.mk (nb aa.out hb); replace HB := Aside0.mk (below_step bw hb); (try clear hb)))
 replace aa := Aside0.mk (blk_drew aa.out)
 replace HB := Aside0.mk (below_drew1 HB.out)
 refine start_ (n := 34) (S := fun w' => w'.cell? ⟨ab, 0, none⟩ = some (.int .i64 a0_0) ∧ w'.cell? ⟨ab, 1, none⟩ = some (.string a0_1) ∧ w'.cell? ⟨ab, 2, none⟩ = some (.string a0_2) ∧ w'.cell? ⟨ab, 3, none⟩ = some (.int .i64 a0_3) ∧ w'.cell? ⟨ab, 4, none⟩ = some (.string a0_4) ∧ w'.cell? ⟨ab, 5, none⟩ = some (.string a0_5) ∧ w'.cell? ⟨ab, 6, none⟩ = some (.int .i64 a0_6) ∧ w'.cell? ⟨ab, 7, none⟩ = some (.int .i64 a0_7) ∧ w'.cell? ⟨ab, 8, none⟩ = some (.int .i64 a0_8)) (ds := []) (bz 34 0) (by kernel_rfl) rfl rfl (by and_intros <;> first | exact (blk_cell aa.out _).trans rfl) (fun hHeld => ?_); refine with_tabW command_Encode.tab3 command_Encode.bits3 (fun HT_ HW_ => ?_)
 generalize w16.drew = w17 at aa HB hHeld ⊢
 refine pu_ 0 (some 7) (bz 34 1) HT_.out ?_
 refine pu_ 3 (some 10) (bz 34 9) HT_.out ?_
 refine pu_ 6 (some 13) (bz 34 73) HT_.out ?_
 refine pu_ 9 (some 16) (bz 34 585) HT_.out ?_
 refine pu_ 12 (some 19) (bz 34 4681) HT_.out ?_
 refine pu_ 15 (some 22) (bz 34 37449) HT_.out ?_
 refine pu_ 18 (some 25) (bz 34 299593) HT_.out ?_
 refine pu_ 22 (some 29) (bz 34 4493897) HT_.out ?_
 refine pu_ 25 (some 32) (bz 34 38048329) HT_.out ?_
 refine take_ (i := 1) (N := some 8) (v := ?_) (a' := ?_) (bz 34 38048331) rfl rfl (take_ofW HT_.out HW_.out (by kernel_rfl)) (fun _ _ _ h => h) (Or.inl ⟨by rfl, ?_⟩) hHeld ?_ ?_
 rotate_left
 ·rintro w' ⟨s0, s1, s2, s3, s4, s5, s6, s7, s8⟩
  go_simp
  with_reducible rfl
 rotate_left
 ·simp only [Act.put, sl1, sl2, sl3, i64_w, i32_w]
  rfl
 refine take_ (i := 4) (N := some 11) (v := ?_) (a' := ?_) (bz 34 38048347) rfl rfl (take_ofW HT_.out HW_.out (by kernel_rfl)) (fun _ _ _ h => h) (Or.inl ⟨by rfl, ?_⟩) hHeld ?_ ?_
 rotate_left
 ·rintro w' ⟨s0, s1, s2, s3, s4, s5, s6, s7, s8⟩
  go_simp
  with_reducible rfl
 rotate_left
 ·simp only [Act.put, sl1, sl2, sl3, i64_w, i32_w]
  rfl
 refine take_ (i := 7) (N := some 14) (v := ?_) (a' := ?_) (bz 34 38048475) rfl rfl (take_ofW HT_.out HW_.out (by kernel_rfl)) (fun _ _ _ h => h) (Or.inl ⟨by rfl, ?_⟩) hHeld ?_ ?_
 rotate_left
 ·rintro w' ⟨s0, s1, s2, s3, s4, s5, s6, s7, s8⟩
  go_simp
  with_reducible rfl
 rotate_left
 ·simp only [Act.put, sl1, sl2, sl3, i64_w, i32_w]
  rfl
 refine take_ (i := 10) (N := some 17) (v := ?_) (a' := ?_) (bz 34 38049499) rfl rfl (take_ofW HT_.out HW_.out (by kernel_rfl)) (fun _ _ _ h => h) (Or.inl ⟨by rfl, ?_⟩) hHeld ?_ ?_
 rotate_left
 ·rintro w' ⟨s0, s1, s2, s3, s4, s5, s6, s7, s8⟩
  go_simp
  with_reducible rfl
 rotate_left
 ·simp only [Act.put, sl1, sl2, sl3, i64_w, i32_w]
  rfl
 refine take_ (i := 13) (N := some 20) (v := ?_) (a' := ?_) (bz 34 38057691) rfl rfl (take_ofW HT_.out HW_.out (by kernel_rfl)) (fun _ _ _ h => h) (Or.inl ⟨by rfl, ?_⟩) hHeld ?_ ?_
 rotate_left
 ·rintro w' ⟨s0, s1, s2, s3, s4, s5, s6, s7, s8⟩
  go_simp
  with_reducible rfl
 rotate_left
 ·simp only [Act.put, sl1, sl2, sl3, i64_w, i32_w]
  rfl
 refine take_ (i := 16) (N := some 23) (v := ?_) (a' := ?_) (bz 34 38123227) rfl rfl (take_ofW HT_.out HW_.out (by kernel_rfl)) (fun _ _ _ h => h) (Or.inl ⟨by rfl, ?_⟩) hHeld ?_ ?_
 rotate_left
 ·rintro w' ⟨s0, s1, s2, s3, s4, s5, s6, s7, s8⟩
  go_simp
  with_reducible rfl
 rotate_left
 ·simp only [Act.put, sl1, sl2, sl3, i64_w, i32_w]
  rfl
 refine take_ (i := 19) (N := some 26) (v := ?_) (a' := ?_) (bz 34 38647515) rfl rfl (take_ofW HT_.out HW_.out (by kernel_rfl)) (fun _ _ _ h => h) (Or.inl ⟨by rfl, ?_⟩) hHeld ?_ ?_
 rotate_left
 ·rintro w' ⟨s0, s1, s2, s3, s4, s5, s6, s7, s8⟩
  go_simp
  with_reducible rfl
 rotate_left
 ·simp only [Act.put, sl1, sl2, sl3, i64_w, i32_w]
  rfl
 refine pu_ 20 (some 27) (bz 34 39696091) HT_.out ?_
 refine take_ (i := 23) (N := some 30) (v := ?_) (a' := ?_) (bz 34 48084699) rfl rfl (take_ofW HT_.out HW_.out (by kernel_rfl)) (fun _ _ _ h => h) (Or.inl ⟨by rfl, ?_⟩) hHeld ?_ ?_
 rotate_left
 ·rintro w' ⟨s0, s1, s2, s3, s4, s5, s6, s7, s8⟩
  go_simp
  with_reducible rfl
 rotate_left
 ·simp only [Act.put, sl1, sl2, sl3, i64_w, i32_w]
  rfl
 refine take_ (i := 26) (N := some 33) (v := ?_) (a' := ?_) (bz 34 115193563) rfl rfl (take_ofW HT_.out HW_.out (by kernel_rfl)) (fun _ _ _ h => h) (Or.inl ⟨by rfl, ?_⟩) hHeld ?_ ?_
 rotate_left
 ·rintro w' ⟨s0, s1, s2, s3, s4, s5, s6, s7, s8⟩
  go_simp
  with_reducible rfl
 rotate_left
 ·simp only [Act.put, sl1, sl2, sl3, i64_w, i32_w]
  rfl
 refine one_ (i := 2) (N := some 9) (bz 34 115193567) rfl rfl (one_of HT_.out (by kernel_rfl)) (by decide) (fun K hK => ?_)
 refine goes_ Tryd.func30 (by kernel_rfl) rfl #[.int .i64 a0_0] (by rfl) rfl rfl am ?_
 with_reducible refine (command_small.calls a0_0 t125 t126 t127 _ A4.out).mono ?_
 rintro e w18 ⟨rfl, hb⟩
 refine ⟨_, rfl, ?_⟩
 replace aa := Aside0.mk (nb aa.out hb)
 replace HB := Aside0.mk (below_step bw hb)
 (try clear hb)
 (try clear hb2)
 (try clear hk)
 (try clear hi)
 refine hK.out _ _ (by and_intros <;> first | exact (blk_cell aa.out _).trans rfl) (fun hHeld => ?_)
 clear hK K
 refine norm_ (a' := ?_) ?_ ?_
 rotate_left
 ·show Act.put _ (some 9) _ = _
  simp only [Act.put, sl1, sl2, sl3, i64_w, i32_w]
  rfl
 refine one_ (i := 5) (N := some 12) (bz 34 115193599) rfl rfl (one_of HT_.out (by kernel_rfl)) (by decide) (fun K hK => ?_)
 refine goes_ Tryd.func31 (by kernel_rfl) rfl #[.string a0_1] (by rfl) rfl rfl am ?_
 with_reducible refine (command_text.calls a0_1 t128 t129 t130 _ A5.out).mono ?_
 rintro e w19 ⟨rfl, hb⟩
 refine ⟨_, rfl, ?_⟩
 replace aa := Aside0.mk (nb aa.out hb)
 replace HB := Aside0.mk (below_step bw hb)
 (try clear hb)
 (try clear hb2)
 (try clear hk)
 (try clear hi)
 refine hK.out _ _ (by and_intros <;> first | exact (blk_cell aa.out _).trans rfl) (fun hHeld => ?_)
 clear hK K
 refine norm_ (a' := ?_) ?_ ?_
 rotate_left
 ·show Act.put _ (some 12) _ = _
  simp only [Act.put, sl1, sl2, sl3, i64_w, i32_w]
  rfl
 refine one_ (i := 8) (N := some 15) (bz 34 115193855) rfl rfl (one_of HT_.out (by kernel_rfl)) (by decide) (fun K hK => ?_)
 refine goes_ Tryd.func31 (by kernel_rfl) rfl #[.string a0_2] (by rfl) rfl rfl am ?_
 with_reducible refine (command_text.calls a0_2 t131 t132 t133 _ A6.out).mono ?_
 rintro e w20 ⟨rfl, hb⟩
 refine ⟨_, rfl, ?_⟩
 replace aa := Aside0.mk (nb aa.out hb)
 replace HB := Aside0.mk (below_step bw hb)
 (try clear hb)
 (try clear hb2)
 (try clear hk)
 (try clear hi)
 refine hK.out _ _ (by and_intros <;> first | exact (blk_cell aa.out _).trans rfl) (fun hHeld => ?_)
 clear hK K
 refine norm_ (a' := ?_) ?_ ?_
 rotate_left
 ·show Act.put _ (some 15) _ = _
  simp only [Act.put, sl1, sl2, sl3, i64_w, i32_w]
  rfl
 refine one_ (i := 11) (N := some 18) (bz 34 115195903) rfl rfl (one_of HT_.out (by kernel_rfl)) (by decide) (fun K hK => ?_)
 refine goes_ Tryd.func32 (by kernel_rfl) rfl #[.int .i64 a0_3] (by rfl) rfl rfl am ?_
 with_reducible refine (command_long.calls a0_3 t134 t135 t136 _ A7.out).mono ?_
 rintro e w21 ⟨rfl, hb⟩
 refine ⟨_, rfl, ?_⟩
 replace aa := Aside0.mk (nb aa.out hb)
 replace HB := Aside0.mk (below_step bw hb)
 (try clear hb)
 (try clear hb2)
 (try clear hk)
 (try clear hi)
 refine hK.out _ _ (by and_intros <;> first | exact (blk_cell aa.out _).trans rfl) (fun hHeld => ?_)
 clear hK K
 refine norm_ (a' := ?_) ?_ ?_
 rotate_left
 ·show Act.put _ (some 18) _ = _
  simp only [Act.put, sl1, sl2, sl3, i64_w, i32_w]
  rfl
 refine one_ (i := 14) (N := some 21) (bz 34 115212287) rfl rfl (one_of HT_.out (by kernel_rfl)) (by decide) (fun K hK => ?_)
 refine goes_ Tryd.func31 (by kernel_rfl) rfl #[.string a0_4] (by rfl) rfl rfl am ?_
 with_reducible refine (command_text.calls a0_4 t137 t138 t139 _ A8.out).mono ?_
 rintro e w22 ⟨rfl, hb⟩
 refine ⟨_, rfl, ?_⟩
 replace aa := Aside0.mk (nb aa.out hb)
 replace HB := Aside0.mk (below_step bw hb)
 (try clear hb)
 (try clear hb2)
 (try clear hk)
 (try clear hi)
 refine hK.out _ _ (by and_intros <;> first | exact (blk_cell aa.out _).trans rfl) (fun hHeld => ?_)
 clear hK K
 refine norm_ (a' := ?_) ?_ ?_
 rotate_left
 ·show Act.put _ (some 21) _ = _
  simp only [Act.put, sl1, sl2, sl3, i64_w, i32_w]
  rfl
 refine one_ (i := 17) (N := some 24) (bz 34 115343359) rfl rfl (one_of HT_.out (by kernel_rfl)) (by decide) (fun K hK => ?_)
 refine goes_ Tryd.func31 (by kernel_rfl) rfl #[.string a0_5] (by rfl) rfl rfl am ?_
 with_reducible refine (command_text.calls a0_5 t140 t141 t142 _ A9.out).mono ?_
 rintro e w23 ⟨rfl, hb⟩
 refine ⟨_, rfl, ?_⟩
 replace aa := Aside0.mk (nb aa.out hb)
 replace HB := Aside0.mk (below_step bw hb)
 (try clear hb)
 (try clear hb2)
 (try clear hk)
 (try clear hi)
 refine hK.out _ _ (by and_intros <;> first | exact (blk_cell aa.out _).trans rfl) (fun hHeld => ?_)
 clear hK K
 refine norm_ (a' := ?_) ?_ ?_
 rotate_left
 ·show Act.put _ (some 24) _ = _
  simp only [Act.put, sl1, sl2, sl3, i64_w, i32_w]
  rfl
 refine one_ (i := 21) (N := some 28) (bz 34 117440511) rfl rfl (one_of HT_.out (by kernel_rfl)) (by decide) (fun K hK => ?_)
 refine goes_ Tryd.func32 (by kernel_rfl) rfl #[.int .i64 (wrap64 (a0_6 + 1))] (by rfl) rfl rfl am ?_
 with_reducible refine (command_long.calls (wrap64 (a0_6 + 1)) t143 t144 t145 _ A10.out).mono ?_
 rintro e w24 ⟨rfl, hb⟩
 refine ⟨_, rfl, ?_⟩
 replace aa := Aside0.mk (nb aa.out hb)
 replace HB := Aside0.mk (below_step bw hb)
 (try clear hb)
 (try clear hb2)
 (try clear hk)
 (try clear hi)
 refine hK.out _ _ (by and_intros <;> first | exact (blk_cell aa.out _).trans rfl) (fun hHeld => ?_)
 clear hK K
 refine norm_ (a' := ?_) ?_ ?_
 rotate_left
 ·show Act.put _ (some 28) _ = _
  simp only [Act.put, sl1, sl2, sl3, i64_w, i32_w]
  rfl
 refine one_ (i := 24) (N := some 31) (bz 34 134217727) rfl rfl (one_of HT_.out (by kernel_rfl)) (by decide) (fun K hK => ?_)
 refine goes_ Tryd.func30 (by kernel_rfl) rfl #[.int .i64 a0_7] (by rfl) rfl rfl am ?_
 with_reducible refine (command_small.calls a0_7 t146 t147 t148 _ A11.out).mono ?_
 rintro e w25 ⟨rfl, hb⟩
 refine ⟨_, rfl, ?_⟩
 replace aa := Aside0.mk (nb aa.out hb)
 replace HB := Aside0.mk (below_step bw hb)
 (try clear hb)
 (try clear hb2)
 (try clear hk)
 (try clear hi)
 refine hK.out _ _ (by and_intros <;> first | exact (blk_cell aa.out _).trans rfl) (fun hHeld => ?_)
 clear hK K
 refine norm_ (a' := ?_) ?_ ?_
 rotate_left
 ·show Act.put _ (some 31) _ = _
  simp only [Act.put, sl1, sl2, sl3, i64_w, i32_w]
  rfl
 refine one_ (i := 27) (N := some 34) (bz 34 268435455) rfl rfl (one_of HT_.out (by kernel_rfl)) (by decide) (fun K hK => ?_)
 refine goes_ Tryd.func32 (by kernel_rfl) rfl #[.int .i64 a0_8] (by rfl) rfl rfl am ?_
 with_reducible refine (command_long.calls a0_8 t149 t150 t151 _ A12.out).mono ?_
 rintro e w26 ⟨rfl, hb⟩
 refine ⟨_, rfl, ?_⟩
 replace aa := Aside0.mk (nb aa.out hb)
 replace HB := Aside0.mk (below_step bw hb)
 (try clear hb)
 (try clear hb2)
 (try clear hk)
 (try clear hi)
 refine hK.out _ _ (by and_intros <;> first | exact (blk_cell aa.out _).trans rfl) (fun hHeld => ?_)
 clear hK K
 refine norm_ (a' := ?_) ?_ ?_
 rotate_left
 ·show Act.put _ (some 34) _ = _
  simp only [Act.put, sl1, sl2, sl3, i64_w, i32_w]
  rfl
 refine one_ (i := 28) (N := some 35) (bz 34 536870911) rfl rfl (one_of HT_.out (by kernel_rfl)) (by decide) (fun K hK => ?_)
 refine Kd.R_lit_step k57 _ 57 ?hg (N := 35) ?hd (xs := ([(⟨t125, t126, t127⟩ : S57), (⟨t128, t129, t130⟩ : S57), (⟨t131, t132, t133⟩ : S57), (⟨t134, t135, t136⟩ : S57), (⟨t137, t138, t139⟩ : S57), (⟨t140, t141, t142⟩ : S57), (⟨t143, t144, t145⟩ : S57), (⟨t146, t147, t148⟩ : S57), (⟨t149, t150, t151⟩ : S57)] : List (S57))) (inner := [.int .i64 t125, .int .u64 t126, .string t127, .int .i64 t128, .int .u64 t129, .string t130, .int .i64 t131, .int .u64 t132, .string t133, .int .i64 t134, .int .u64 t135, .string t136, .int .i64 t137, .int .u64 t138, .string t139, .int .i64 t140, .int .u64 t141, .string t142, .int .i64 t143, .int .u64 t144, .string t145, .int .i64 t146, .int .u64 t147, .string t148, .int .i64 t149, .int .u64 t150, .string t151]) (ok := fun _ => True) (okp := fun _ => True) ?hr ?hp (fun _ hk => hk) trivial (Below.refl _ _) (Nat.le_refl _) (by simp) ?_; (case hd => rfl); (case hg => rfl); (case hr => first | (go_simp; done) | (go_simp; rfl)); (case hp => exact (Reps.c3 (show Kd.M k57 _ _ _ (⟨t125, t126, t127⟩ : S57) [.int .i64 t125, .int .u64 t126, .string t127] from (k57_mkM _ _ _ (⟨t125, t126, t127⟩ : S57) )) (Reps.c3 (show Kd.M k57 _ _ _ (⟨t128, t129, t130⟩ : S57) [.int .i64 t128, .int .u64 t129, .string t130] from (k57_mkM _ _ _ (⟨t128, t129, t130⟩ : S57) )) (Reps.c3 (show Kd.M k57 _ _ _ (⟨t131, t132, t133⟩ : S57) [.int .i64 t131, .int .u64 t132, .string t133] from (k57_mkM _ _ _ (⟨t131, t132, t133⟩ : S57) )) (Reps.c3 (show Kd.M k57 _ _ _ (⟨t134, t135, t136⟩ : S57) [.int .i64 t134, .int .u64 t135, .string t136] from (k57_mkM _ _ _ (⟨t134, t135, t136⟩ : S57) )) (Reps.c3 (show Kd.M k57 _ _ _ (⟨t137, t138, t139⟩ : S57) [.int .i64 t137, .int .u64 t138, .string t139] from (k57_mkM _ _ _ (⟨t137, t138, t139⟩ : S57) )) (Reps.c3 (show Kd.M k57 _ _ _ (⟨t140, t141, t142⟩ : S57) [.int .i64 t140, .int .u64 t141, .string t142] from (k57_mkM _ _ _ (⟨t140, t141, t142⟩ : S57) )) (Reps.c3 (show Kd.M k57 _ _ _ (⟨t143, t144, t145⟩ : S57) [.int .i64 t143, .int .u64 t144, .string t145] from (k57_mkM _ _ _ (⟨t143, t144, t145⟩ : S57) )) (Reps.c3 (show Kd.M k57 _ _ _ (⟨t146, t147, t148⟩ : S57) [.int .i64 t146, .int .u64 t147, .string t148] from (k57_mkM _ _ _ (⟨t146, t147, t148⟩ : S57) )) (Reps.c3 (show Kd.M k57 _ _ _ (⟨t149, t150, t151⟩ : S57) [.int .i64 t149, .int .u64 t150, .string t151] from (k57_mkM _ _ _ (⟨t149, t150, t151⟩ : S57) )) (Reps.none _ _)))))))))))
 intro v153 w27 ho28 hb hg_ hnew_
 clear hg_ hnew_
 (first | rw [← Ny152.out] at ho28 | (simp only [Int.reduceToNat] at ho28; rw [← Ny152.out] at ho28))
 have ac := Aside0.mk (Kd.R_lower ho28 (below_size bw))
 replace aa := Aside0.mk (nb aa.out hb)
 replace HB := Aside0.mk (below_step bw hb)
 clear hb ho28
 obtain ⟨Ao29, co29, ad⟩ := Kd.R_slice ac.out
 (first | subst ad | (injection ad with f1_ f2_ f3_; have f4_ := f1_.symm; have f5_ := f3_.symm; clear f1_ f2_ f3_; subst f4_; subst f5_))
 refine hK.out _ _ (by and_intros <;> first | exact (blk_cell aa.out _).trans rfl) (fun hHeld => ?_)
 clear hK K
 refine norm_ (a' := ?_) ?_ ?_
 rotate_left
 ·show Act.put _ (some 35) _ = _
  simp only [Act.put, sl1, sl2, sl3, i64_w, i32_w]
  rfl
 refine one_ (i := 29) (N := some 36) (bz 34 1073741823) rfl rfl (one_of HT_.out (by kernel_rfl)) (by decide) (fun K hK => ?_)
 refine goes_ Tryd.func29 (by kernel_rfl) rfl #[.slice Ao29 y152.length co29] (by rfl) rfl rfl am ?_
 with_reducible refine (codec_Encode.calls k _ _ y152 t155 t156 _ ?side1 ?side2 tbk A13.out).mono ?_
 (case side1 => repeat (first | exact (Kd.R_reads' ac.out).2.2 | (with_reducible refine Kd.C_alloc ?_ _) | (with_reducible refine Kd.C_drewN ?_ _) | (with_reducible refine Kd.C_drew ?_)))
 (case side2 => exact (Kd.R_reads' ac.out).2.1)
 rintro e w30 ⟨rfl, hb⟩
 refine ⟨_, rfl, ?_⟩
 replace ac := Aside0.mk (Kd.R_below (r_ ac.out) hb)
 replace aa := Aside0.mk (nb aa.out hb)
 replace HB := Aside0.mk (below_step bw hb)
 (try clear hb)
 (try clear hb2)
 (try clear hk)
 (try clear hi)
 refine hK.out _ _ (by and_intros <;> first | exact (blk_cell aa.out _).trans rfl) (fun hHeld => ?_)
 clear hK K
 refine norm_ (a' := ?_) ?_ ?_
 rotate_left
 ·show Act.put _ (some 36) _ = _
  simp only [Act.put, sl1, sl2, sl3, i64_w, i32_w]
  rfl
 refine pu_ 30 (some 37) (bz 34 2147483647) HT_.out ?_
 refine pu_ 31 (some 38) (bz 34 4294967295) HT_.out ?_
 refine pu_ 32 (some 2) (bz 34 8589934591) HT_.out ?_
 refine pu_ 33 (some 3) (bz 34 17179869183) HT_.out ?_
 refine done_ (done_of HT_.out (by kernel_rfl)) ?_
 try go_wp2
 go_ret2
 exact ⟨er, bw⟩

-- NOT PRINTED: function 82 (bytealg_IndexByteString)

/-! ### stringslite_IndexByte: function 75 -/
def stringslite_IndexByte.f (a0 : ByteArray) (a1 : Int) : Option (Int) := some (Lib.indexByte a0.data.toList a1.toNat.toUInt8)
set_option maxHeartbeats 1000000 in
set_option maxRecDepth 100000 in
theorem stringslite_IndexByte.calls (a0 : ByteArray) (a1 : Int) (r : Int) (w : World) (h : stringslite_IndexByte.f a0 a1 = some r) :
  Calls Tryd.prog 75 #[.string a0, .int .u8 a1] w fun e w' => e = .returned (.int .i64 r) ∧ Drawn0 w w' := by
 obtain rfl := Option.some.inj h
 go_enter Tryd.func75, Tryd.ntmps75
 go_wp2
 rw [run_callFunc_extern Tryd.func82 (by kernel_rfl) (by kernel_rfl) (by kernel_rfl) (e := Extern.BytealgIndexByte.indexByte) (by kernel_rfl), Lib.run_indexByteString]
 simp only [Result.andThen]
 rw [Oper.upon_value]
 go_wp2
 go_ret
 exact ⟨rfl, Drawn0.refl _⟩

/-! ### strings_IndexByte: function 56 -/
def strings_IndexByte.f (a0 : ByteArray) (a1 : Int) : Option (Int) := (stringslite_IndexByte.f a0 a1).bind fun t157 => (some t157)
set_option maxHeartbeats 8000000 in
set_option maxRecDepth 100000 in
theorem strings_IndexByte.calls (a0 : ByteArray) (a1 : Int) (r : Int) (w : World) (h : strings_IndexByte.f a0 a1 = some r) :
  Calls Tryd.prog 56 #[.string a0, .int .u8 a1] w fun e w' => e = .returned (.int .i64 r) ∧ Drawn0 w w' := by
 have H : ((stringslite_IndexByte.f a0 a1).bind fun t157 => (some t157)) = some r := h
 clear h
 replace H := Option.bind_eq_some_iff.mp H
 obtain ⟨t157, A30, H⟩ := H
 have A3 := Aside0.mk A30
 clear A30
 obtain rfl := Option.some.inj H
 go_enter Tryd.func56, Tryd.ntmps56
 go_wp2_with (first | ((with_reducible refine gate_callee (f := 75) rfl ?_); refine goesL_ (some 7) rfl rfl Tryd.func75 (by kernel_rfl) rfl #[.string a0, .int .u8 a1] rfl am ?_; (with_reducible refine (stringslite_IndexByte.calls a0 a1 t157 _ A3.out).mono ?_); rintro e w' ⟨rfl, ⟨nd, rfl⟩⟩; refine ⟨_, rfl, ?_⟩))
 go_ret
 exact ⟨by first | rfl | (simp; done) | (simp [*]; done), by repeat (first | exact Drawn0.refl _ | apply Drawn0.step)⟩

-- NOT PRINTED: function 84 (bytealg_IndexString)

-- NOT PRINTED: function 85 (bytealg_Cutover)

-- NOT PRINTED: function 87 (bytealg_hashStr_string)

-- NOT PRINTED: function 86 (bytealg_IndexRabinKarp_string)

/-! ### stringslite_Index: function 83 -/
/-- At a text of one byte. -/
def oneByte (s : ByteArray) : Option UInt8 := match s.data.toList with | [c] => some c | _ => none
theorem oneByte_eq {s : ByteArray} {c : UInt8} (h : oneByte s = some c) : s = ⟨#[c]⟩ := by
 obtain ⟨⟨l⟩⟩ := s
 unfold oneByte at h
 match l, h with
 | [d], h => cases h; rfl
def stringslite_Index.f (a0 : ByteArray) (a1 : ByteArray) : Option (Int) := (oneByte a1).bind fun c => some (Lib.indexByte a0.data.toList c)
set_option maxHeartbeats 1000000 in
set_option maxRecDepth 100000 in
theorem stringslite_Index.calls (a0 : ByteArray) (a1 : ByteArray) (r : Int) (w : World) (h : stringslite_Index.f a0 a1 = some r) :
  Calls Tryd.prog 83 #[.string a0, .string a1] w fun e w' => e = .returned (.int .i64 r) ∧ Drawn0 w w' := by
 unfold stringslite_Index.f at h
 obtain ⟨c, hc, h⟩ := Option.bind_eq_some_iff.mp h
 obtain rfl := oneByte_eq hc
 obtain rfl := Option.some.inj h
 clear h hc
 go_enter Tryd.func83, Tryd.ntmps83
 go_wp2_with (go_at_call 75; refine (stringslite_IndexByte.calls _ _ _ _ rfl).mono ?_; rintro e w' ⟨rfl, ⟨n_, rfl⟩⟩)
 ·have h : ([c] == a0.toList) = true := by assumption
  go_ret
  refine ⟨?_, Drawn0.refl _⟩
  have e : a0.data.toList = [c] := by rw [← Lib.toList_data]; exact (beq_iff_eq.1 h).symm
  rw [e]
  simp [Lib.indexByte]
 ·go_ret
  exact ⟨rfl, ⟨_, rfl⟩⟩

/-! ### stringslite_Cut: function 81 -/
def stringslite_Cut.f (a0 : ByteArray) (a1 : ByteArray) : Option (ByteArray × ByteArray × Bool) := (stringslite_Index.f a0 a1).bind fun t158 => (if t158 ≥ 0 then (if 0 ≤ t158 then (if t158 ≤ (a0.size : Int) then (if 0 ≤ (wrap64 (t158 + (a1.size : Int))) then (if (wrap64 (t158 + (a1.size : Int))) ≤ (a0.size : Int) then (some (a0.extract 0 (t158 : Int).toNat, a0.extract ((wrap64 (t158 + (a1.size : Int))) : Int).toNat a0.size, true)) else (none)) else (none)) else (none)) else (none)) else (some (a0, (⟨#[]⟩ : ByteArray), false)))
set_option maxHeartbeats 8000000 in
set_option maxRecDepth 100000 in
theorem stringslite_Cut.calls (a0 : ByteArray) (a1 : ByteArray) (r1 : ByteArray) (r2 : ByteArray) (r3 : Bool) (w : World) (h : stringslite_Cut.f a0 a1 = some (r1, r2, r3)) :
  Calls Tryd.prog 81 #[.string a0, .string a1] w fun e w' => e = .returned (.tuple #[.string r1, .string r2, .bool r3]) ∧ Drawn0 w w' := by
 have H := h
 unfold stringslite_Cut.f at H
 clear h
 replace H := Option.bind_eq_some_iff.mp H
 obtain ⟨t158, A30, H⟩ := H
 have A3 := Aside0.mk A30
 clear A30
 by_cases c4 : t158 ≥ 0; rotate_left
 ·rw [if_neg c4] at H
  have c4b0 : decide (0 ≤ t158) = false := decide_eq_false c4
  clear c4
  simp only [Option.some.injEq, Prod.mk.injEq] at H
  obtain ⟨rfl, rfl, rfl⟩ := H
  go_enter Tryd.func81, Tryd.ntmps81
  go_wp2_with (first | (go_at_call 83; (with_reducible refine (stringslite_Index.calls a0 a1 t158 _ A3.out).mono ?_); rintro e w' ⟨rfl, ⟨nd, rfl⟩⟩; (try first | exact ⟨rfl, _, World.drewN_drewN _ _ _⟩ | exact ⟨rfl, _, Eq.trans (World.drewN_drewN _ _ _) (congrArg (World.drewN _) (Nat.add_assoc _ _ _))⟩)))
  go_ret3
  exact ⟨by first | rfl | (simp; done) | (simp [*]; done), by repeat (first | exact Drawn0.refl _ | apply Drawn0.step)⟩
 rw [if_pos c4] at H
 have c4b0 : decide (0 ≤ t158) = true := decide_eq_true c4
 clear c4
 obtain ⟨c5, H⟩ := its H
 have c5b0 := eq_true c5
 have c5b1 : decide (0 ≤ t158) = true := decide_eq_true c5
 clear c5
 obtain ⟨c6, H⟩ := its H
 have c6b0 := eq_true c6
 have c6b1 : decide (t158 ≤ (a0.size : Int)) = true := decide_eq_true c6
 clear c6
 obtain ⟨ji7, hji7⟩ : ∃ j_ : Int, (wrap64 (t158 + (a1.size : Int))) = j_ := ⟨_, rfl⟩
 replace H : (if 0 ≤ (ji7) then (if (ji7) ≤ (a0.size : Int) then (some (a0.extract 0 (t158 : Int).toNat, a0.extract ((ji7) : Int).toNat a0.size, true)) else (none)) else (none)) = some (r1, r2, r3) := by first | (rw [hji7] at H; exact H) | (simp only [hji7] at H ⊢; exact H)
 (try rw [hji7] at A3)
 have hji7w : (IntKind.i64.wrap (t158 + (a1.size : Int))) = ji7 := (i64_w _).trans hji7
 obtain ⟨c8, H⟩ := its H
 have c8b0 := eq_true c8
 have c8b1 : decide (0 ≤ (ji7)) = true := decide_eq_true c8
 clear c8
 obtain ⟨c9, H⟩ := its H
 have c9b0 := eq_true c9
 have c9b1 : decide ((ji7) ≤ (a0.size : Int)) = true := decide_eq_true c9
 clear c9
 simp only [Option.some.injEq, Prod.mk.injEq] at H
 obtain ⟨rfl, rfl, rfl⟩ := H
 go_enter Tryd.func81, Tryd.ntmps81
 go_wp2_with (first | (go_at_call 83; (with_reducible refine (stringslite_Index.calls a0 a1 t158 _ A3.out).mono ?_); rintro e w' ⟨rfl, ⟨nd, rfl⟩⟩; (try first | exact ⟨rfl, _, World.drewN_drewN _ _ _⟩ | exact ⟨rfl, _, Eq.trans (World.drewN_drewN _ _ _) (congrArg (World.drewN _) (Nat.add_assoc _ _ _))⟩)))
 repeat (go_quiet (first | (go_at_call 83; (with_reducible refine (stringslite_Index.calls a0 a1 t158 _ A3.out).mono ?_); rintro e w' ⟨rfl, ⟨nd, rfl⟩⟩; (try first | exact ⟨rfl, _, World.drewN_drewN _ _ _⟩ | exact ⟨rfl, _, Eq.trans (World.drewN_drewN _ _ _) (congrArg (World.drewN _) (Nat.add_assoc _ _ _))⟩))); try go_wp2_with (first | (go_at_call 83; (with_reducible refine (stringslite_Index.calls a0 a1 t158 _ A3.out).mono ?_); rintro e w' ⟨rfl, ⟨nd, rfl⟩⟩; (try first | exact ⟨rfl, _, World.drewN_drewN _ _ _⟩ | exact ⟨rfl, _, Eq.trans (World.drewN_drewN _ _ _) (congrArg (World.drewN _) (Nat.add_assoc _ _ _))⟩))))
 go_ret3
 exact ⟨by first | rfl | (simp; done) | (simp only [← hji7] <;> (first | rfl | simp)) | (simp [*]; done), by repeat (first | exact Drawn0.refl _ | apply Drawn0.step)⟩

/-! ### strings_Cut: function 74 -/
def strings_Cut.f (a0 : ByteArray) (a1 : ByteArray) : Option (ByteArray × ByteArray × Bool) := (stringslite_Cut.f a0 a1).bind fun bt159 => (some (bt159.1, bt159.2.1, bt159.2.2))
set_option maxHeartbeats 8000000 in
set_option maxRecDepth 100000 in
theorem strings_Cut.calls (a0 : ByteArray) (a1 : ByteArray) (r1 : ByteArray) (r2 : ByteArray) (r3 : Bool) (w : World) (h : strings_Cut.f a0 a1 = some (r1, r2, r3)) :
  Calls Tryd.prog 74 #[.string a0, .string a1] w fun e w' => e = .returned (.tuple #[.string r1, .string r2, .bool r3]) ∧ Drawn0 w w' := by
 have H : ((stringslite_Cut.f a0 a1).bind fun bt159 => (some (bt159.1, bt159.2.1, bt159.2.2))) = some (r1, r2, r3) := h
 clear h
 replace H := Option.bind_eq_some_iff.mp H
 obtain ⟨⟨t159, t160, t161⟩, A30, H⟩ := H
 replace H : (some (t159, t160, t161)) = some (r1, r2, r3) := H
 have A3 := Aside0.mk A30
 clear A30
 simp only [Option.some.injEq, Prod.mk.injEq] at H
 obtain ⟨rfl, rfl, rfl⟩ := H
 go_enter Tryd.func74, Tryd.ntmps74
 go_wp2_with (first | ((with_reducible refine gate_callee (f := 81) rfl ?_); refine goesL_ (some 9) rfl rfl Tryd.func81 (by kernel_rfl) rfl #[.string a0, .string a1] rfl am ?_; (with_reducible refine (stringslite_Cut.calls a0 a1 t159 t160 t161 _ A3.out).mono ?_); rintro e w' ⟨rfl, ⟨nd, rfl⟩⟩; refine ⟨_, rfl, ?_⟩))
 go_ret3
 exact ⟨by first | rfl | (simp; done) | (simp [*]; done), by repeat (first | exact Drawn0.refl _ | apply Drawn0.step)⟩

/-! ### codec_right: function 55 -/
/-- Is a byte one of the kinds' letters? -/
def letB (c : UInt8) : Bool := !decide (Lib.indexByte [98, 119, 108, 116] c < 0)
theorem below_convR (w : World) (e : TypeId) (s : ByteArray) : Below w.heap.size w (Lib.bytesWorld w e s) :=
 ⟨rfl, rfl, rfl, by rw [Lib.bytesWorld_size]; omega, fun i hi => Lib.bytesWorld_at_old w e s i hi⟩
theorem take_snocR (l : List UInt8) (k : Nat) (h : k < l.length) : l.take (k + 1) = l.take k ++ [l.getD k 0] := by
 rw [List.take_succ_eq_append_getElem h]
 simp [List.getD_eq_getElem?_getD, List.getElem?_eq_getElem h]
theorem toNat_toUInt8 (c : UInt8) : ((c.toNat : Nat) : Int).toNat.toUInt8 = c := by
 rw [show ((c.toNat : Nat) : Int).toNat = c.toNat from rfl]
 simp
def codec_right.f (a0 : ByteArray) : Option (Bool) := (strings_Cut.f a0 (⟨#[42]⟩ : ByteArray)).bind fun b =>
 if b.1.size + b.2.1.size ≤ 9223372036854775807 then some ((b.1 ++ b.2.1).data.toList.all letB && (!b.2.2 || (b.2.1.toList != ([] : List UInt8)))) else none
set_option maxHeartbeats 4000000 in
set_option maxRecDepth 100000 in
theorem codec_right.calls (a0 : ByteArray) (r : Bool) (w : World) (h : codec_right.f a0 = some r) :
  Calls Tryd.prog 55 #[.string a0] w fun e w' => e = .returned (.bool r) ∧ Below w.heap.size w w' := by
 unfold codec_right.f at h
 obtain ⟨⟨t1, t2, t3⟩, A20, h⟩ := Option.bind_eq_some_iff.mp h
 have A2 := Aside0.mk A20
 clear A20
 replace h : (if t1.size + t2.size ≤ 9223372036854775807 then some ((t1 ++ t2).data.toList.all letB && (!t3 || (t2.toList != ([] : List UInt8)))) else none) = some r := h
 by_cases c3 : t1.size + t2.size ≤ 9223372036854775807
 case neg => rw [if_neg c3] at h; exact absurd h (by simp)
 rw [if_pos c3] at h
 have HR := Aside0.mk (Option.some.inj h)
 clear h
 have c3b0 := eq_true c3
 have c3b1 : decide (t1.size + t2.size ≤ 9223372036854775807) = true := decide_eq_true c3
 have c3b2 : (9223372036854775807 < t1.size + t2.size) = False := eq_false (Nat.not_lt.2 c3)
 obtain ⟨n, hn⟩ : ∃ n : Nat, n = t1.size + t2.size := ⟨_, rfl⟩
 have HN := Aside0.mk hn
 have HSL : Aside0 ((t1 ++ t2).data.toList.length = n) := ⟨by rw [Array.length_toList, hn]; exact ByteArray.size_append⟩
 have hnb : n ≤ 9223372036854775807 := by omega
 clear hn c3
 go_enter Tryd.func55, Tryd.ntmps55
 go_wp2_with (first | ((with_reducible refine gate_callee (f := 74) rfl ?_); refine goesL_ (some 10) rfl rfl Tryd.func74 (by kernel_rfl) rfl #[.string a0, .string (⟨#[42]⟩ : ByteArray)] rfl am ?_; (with_reducible refine (strings_Cut.calls a0 (⟨#[42]⟩ : ByteArray) t1 t2 t3 _ A2.out).mono ?_); rintro e w1 ⟨rfl, hd⟩; refine ⟨_, rfl, ?_⟩; have HB1 := Aside0.mk hd.below; clear hd; have hconv := Lib.run_convert_string_bytes (P := Tryd.prog) w1 9 50 5 (t1 ++ t2) Tryd.underlying9 Tryd.underlying50 Tryd.underlying5; have HBW := Aside0.mk (below_convR w1 5 (t1 ++ t2)); have HCB := Aside0.mk (Lib.bytesWorld_cell w1 5 (t1 ++ t2)); generalize Lib.bytesWorld w1 5 (t1 ++ t2) = W1 at hconv HBW HCB; have hsz : (t1 ++ t2).size = n := (ByteArray.size_append.trans HN.out.symm); rw [hsz] at hconv HCB; clear hsz))
 go_loopw [19] (fun v19 w' => ∃ k : Nat, k ≤ n ∧ v19 = .int .i64 (k : Int) ∧ Aside0 (((t1 ++ t2).data.toList.take k).all letB = true) ∧ Drawn0 W1 w') (fun v19 _ => n - (intOf v19).toNat)
 case atStart => exact ⟨0, Nat.zero_le _, rfl, ⟨rfl⟩, Drawn0.refl _⟩
 case round =>
  obtain ⟨k, hk, rfl, HA, ⟨m1, rfl⟩⟩ := hrel
  by_cases hlt : k < n
  ·have hc0 := HCB.out k hlt
   obtain ⟨c, hc⟩ : ∃ c : UInt8, c = (t1 ++ t2).data.toList.getD k 0 := ⟨_, rfl⟩
   rw [← hc] at hc0
   have HC := Aside0.mk hc
   clear hc
   have hsn := take_snocR ((t1 ++ t2).data.toList) k (by rw [HSL.out]; exact hlt)
   rw [← HC.out] at hsn
   have HS := Aside0.mk hsn
   clear hsn
   obtain ⟨t, ht⟩ : ∃ t : Int, strings_IndexByte.f (⟨#[98, 119, 108, 116]⟩ : ByteArray) ((c.toNat : Nat) : Int) = some t := ⟨_, rfl⟩
   have htl : letB c = !decide (t < 0) := by
    have e : strings_IndexByte.f (⟨#[98, 119, 108, 116]⟩ : ByteArray) ((c.toNat : Nat) : Int) = some (Lib.indexByte [98, 119, 108, 116] (((c.toNat : Nat) : Int).toNat.toUInt8)) := rfl
    rw [toNat_toUInt8] at e
    rw [letB, Option.some.inj (ht.symm.trans e)]
   have HT := Aside0.mk htl
   have A3 := Aside0.mk ht
   clear htl ht
   by_cases ct : t < 0
   ·have ctb : decide (t < 0) = true := decide_eq_true ct
    have hf : letB c = false := by rw [HT.out, ctb]; rfl
    have hr : r = false := by
     rw [← HR.out]
     have : (t1 ++ t2).data.toList.all letB = false := by
      rw [← List.take_append_drop (k + 1) ((t1 ++ t2).data.toList), List.all_append, HS.out, List.all_append]
      simp [hf]
     rw [this]
     rfl
    subst hr
    clear ct hf
    go_wp2_with (first | ((with_reducible refine gate_callee (f := 56) rfl ?_); refine goesL_ (some 24) rfl rfl Tryd.func56 (by kernel_rfl) rfl #[.string (⟨#[98, 119, 108, 116]⟩ : ByteArray), .int .u8 ((c.toNat : Nat) : Int)] rfl am ?_; (with_reducible refine (strings_IndexByte.calls (⟨#[98, 119, 108, 116]⟩ : ByteArray) ((c.toNat : Nat) : Int) t _ A3.out).mono ?_); rintro e w' ⟨rfl, ⟨nd, rfl⟩⟩; refine ⟨_, rfl, ?_⟩))
    go_ret
    exact ⟨rfl, ((HB1.out.trans (HBW.out.mono HB1.out.size)).trans ((Drawn0.step (Drawn0.refl W1) _).below.mono (HB1.out.trans (HBW.out.mono HB1.out.size)).size))⟩
   ·have ctb : decide (t < 0) = false := decide_eq_false ct
    have hf : letB c = true := by rw [HT.out, ctb]; rfl
    have HF : Aside0 (((t1 ++ t2).data.toList.take (k + 1)).all letB = true) := ⟨by rw [HS.out, List.all_append, HA.out]; simp [hf]⟩
    clear ct hf
    go_wp2_with (first | ((with_reducible refine gate_callee (f := 56) rfl ?_); refine goesL_ (some 24) rfl rfl Tryd.func56 (by kernel_rfl) rfl #[.string (⟨#[98, 119, 108, 116]⟩ : ByteArray), .int .u8 ((c.toNat : Nat) : Int)] rfl am ?_; (with_reducible refine (strings_IndexByte.calls (⟨#[98, 119, 108, 116]⟩ : ByteArray) ((c.toNat : Nat) : Int) t _ A3.out).mono ?_); rintro e w' ⟨rfl, ⟨nd, rfl⟩⟩; refine ⟨_, rfl, ?_⟩))
    go_roundw
    case rel => exact ⟨k + 1, by omega, by go_num, HF, Drawn0.step (Drawn0.refl W1) _⟩
    case measure => simp [intOf]; omega
  ·obtain rfl : k = n := by omega
   have hall : (t1 ++ t2).data.toList.all letB = true := by have := HA.out; rwa [List.take_of_length_le (by rw [HSL.out]; exact Nat.le_refl _)] at this
   have hr : (!t3 || (t2.toList != ([] : List UInt8))) = r := by have := HR.out; rw [hall] at this; simpa using this
   have HRR := Aside0.mk hr
   clear hr hall
   cases t3
   ·have hr : r = true := by rw [← HRR.out]; rfl
    subst hr
    go_wp2
    go_ret
    exact ⟨rfl, ((HB1.out.trans (HBW.out.mono HB1.out.size)).trans ((Drawn0.step (Drawn0.refl W1) _).below.mono (HB1.out.trans (HBW.out.mono HB1.out.size)).size))⟩
   ·obtain rfl : (t2.toList != ([] : List UInt8)) = r := by have := HRR.out; simpa using this
    go_wp2
    go_ret
    exact ⟨congrArg (fun b : Bool => Ending.returned (.bool b)) (show (!t2.toList.isEmpty) = (t2.toList != ([] : List UInt8)) by cases t2.toList <;> rfl), ((HB1.out.trans (HBW.out.mono HB1.out.size)).trans ((Drawn0.step (Drawn0.refl W1) _).below.mono (HB1.out.trans (HBW.out.mono HB1.out.size)).size))⟩

end Go.Proofs.YtpgiagdpepkooaaDoor.P
