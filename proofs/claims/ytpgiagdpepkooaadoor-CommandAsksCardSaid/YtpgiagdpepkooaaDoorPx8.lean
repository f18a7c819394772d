-- Printed by this session's program wip/xp.py (a turned copy of the kit's printer): functions, their contracts.
import Derived.Test.YtpgiagdpepkooaaDoorPx0
import Derived.Test.YtpgiagdpepkooaaDoorPx3
import Derived.Test.YtpgiagdpepkooaaDoorPx7
namespace Go.Proofs.YtpgiagdpepkooaaDoor.P
open Go.RowKit Go.Proofs.YtpgiagdpepkooaaDoorW.PrintWords Go.Proofs.YtpgiagdpepkooaaDoorW.PrintLast Go.Proofs.YtpgiagdpepkooaaDoorW.PrintMore
attribute [local go_sem] max2_int min2_int max_two min_two max_three min_three max_four min_four   -- for this text's walks alone
set_option linter.unusedVariables false
set_option linter.unusedSimpArgs false

/-! ### command_Decode: function 14 -/
def command_Decode.j0 : Nat → List (S57) → Bool → Option (Int × ByteArray × ByteArray × Int × ByteArray × ByteArray × Int × Int × Int × Int)
 | 0, _, _ => none
 | k + 1, x4, x34 => if x34 = true then (some (0, (⟨#[]⟩ : ByteArray), (⟨#[]⟩ : ByteArray), 0, (⟨#[]⟩ : ByteArray), (⟨#[]⟩ : ByteArray), 0, 0, 0, 10)) else (if 0 < (x4.length : Int) then (if 1 < (x4.length : Int) then (if 2 < (x4.length : Int) then (if 3 < (x4.length : Int) then (if 4 < (x4.length : Int) then (if 5 < (x4.length : Int) then (if 6 < (x4.length : Int) then ((command_less.f ((rd_T57 x4 6).f0) ((rd_T57 x4 6).f1) ((rd_T57 x4 6).f2)).bind fun t201 => (if 7 < (x4.length : Int) then (if 8 < (x4.length : Int) then ((command_Right.f (wrap64 ((rd_T57 x4 0).f1)) ((rd_T57 x4 1).f2) ((rd_T57 x4 2).f2) (wrap64 ((rd_T57 x4 3).f1)) ((rd_T57 x4 4).f2) ((rd_T57 x4 5).f2) t201 (wrap64 ((rd_T57 x4 7).f1)) (wrap64 ((rd_T57 x4 8).f1))).bind fun t205 => (if t205 = true then (some (wrap64 ((rd_T57 x4 0).f1), (rd_T57 x4 1).f2, (rd_T57 x4 2).f2, wrap64 ((rd_T57 x4 3).f1), (rd_T57 x4 4).f2, (rd_T57 x4 5).f2, t201, wrap64 ((rd_T57 x4 7).f1), wrap64 ((rd_T57 x4 8).f1), 0)) else (some (0, (⟨#[]⟩ : ByteArray), (⟨#[]⟩ : ByteArray), 0, (⟨#[]⟩ : ByteArray), (⟨#[]⟩ : ByteArray), 0, 0, 0, 10)))) else (none)) else (none))) else (none)) else (none)) else (none)) else (none)) else (none)) else (none)) else (none))
def command_Decode.f (k : Nat) (a0 : ByteArray) : Option (Int × ByteArray × ByteArray × Int × ByteArray × ByteArray × Int × Int × Int × Int) := (codec_Decode.f k (⟨#[98, 116, 116, 108, 116, 116, 108, 98, 108]⟩ : ByteArray) a0).bind fun bt184 => (if bt184.2 = 0 then (if 3 < (bt184.1.length : Int) then ((command_fits.f ((rd_T57 bt184.1 3).f0) ((rd_T57 bt184.1 3).f1) ((rd_T57 bt184.1 3).f2)).bind fun t189 => (if t189 = true then (if 6 < (bt184.1.length : Int) then ((command_fitsOne.f ((rd_T57 bt184.1 6).f0) ((rd_T57 bt184.1 6).f1) ((rd_T57 bt184.1 6).f2)).bind fun t191 => (if t191 = true then (if 8 < (bt184.1.length : Int) then ((command_fits.f ((rd_T57 bt184.1 8).f0) ((rd_T57 bt184.1 8).f1) ((rd_T57 bt184.1 8).f2)).bind fun t193 => (command_Decode.j0 k bt184.1 (!t193))) else (none)) else (command_Decode.j0 k bt184.1 true))) else (none)) else (command_Decode.j0 k bt184.1 true))) else (none)) else (some (0, (⟨#[]⟩ : ByteArray), (⟨#[]⟩ : ByteArray), 0, (⟨#[]⟩ : ByteArray), (⟨#[]⟩ : ByteArray), 0, 0, 0, bt184.2)))
def command_Decode.T6 : Bool × List (List Nat × List Nat) := (true, [([], []), ([0], [0]), ([1], [1]), ([2], [2]), ([3], [3]), ([], []), ([5], [5]), ([6], [6]), ([7], [7]), ([], []), ([9], [9]), ([10], [10]), ([11], [11]), ([], []), ([13], [13]), ([14], [14]), ([15], [15]), ([16], [16]), ([], []), ([18], [18]), ([19], [19]), ([20], [20]), ([], []), ([22], [22]), ([23], [23]), ([24], [24]), ([], []), ([26], [26]), ([27], [27]), ([28], [28]), ([], []), ([30], [30]), ([31], [31]), ([32], [32]), ([33], [33]), ([], []), ([35], [35]), ([36], [36]), ([37], [37]), ([38], [38]), ([4, 8, 12, 17, 21, 25, 29, 34, 39], [4, 8, 12, 17, 21, 25, 29, 34, 39]), ([], []), ([41, 40, 29, 0, 1, 2, 3, 4, 5, 6, 7, 8, 9, 10, 11, 12, 13, 14, 15, 16, 17, 18, 19, 20, 21, 22, 23, 24, 25, 26, 27, 28, 29, 30, 31, 32, 33, 34, 35, 36, 37, 38, 39, 40, 41], [40, 41])])
def command_Decode.B6 : List Nat := [0, 1, 3, 7, 15, 0, 32, 96, 224, 0, 512, 1536, 3584, 0, 8192, 24576, 57344, 122880, 0, 262144, 786432, 1835008, 0, 4194304, 12582912, 29360128, 0, 67108864, 201326592, 469762048, 0, 1073741824, 3221225472, 7516192768, 16106127360, 0, 34359738368, 103079215104, 240518168576, 515396075520, 1099511627775, 0, 4398046511103]
theorem command_Decode.tab6 : rtab .any (opsOf Tryd.f14 6) = command_Decode.T6 := by kernel_rfl
theorem command_Decode.bits6 : waitsOk command_Decode.T6.2 command_Decode.B6 = true := by kernel_rfl
set_option maxHeartbeats 8000000 in
set_option maxRecDepth 100000 in
theorem command_Decode.calls (k : Nat) (a0 : ByteArray) (r1 : Int) (r2 : ByteArray) (r3 : ByteArray) (r4 : Int) (r5 : ByteArray) (r6 : ByteArray) (r7 : Int) (r8 : Int) (r9 : Int) (r10 : Int) (w : World) (HT_ : TabOk w) (h : command_Decode.f k a0 = some (r1, r2, r3, r4, r5, r6, r7, r8, r9, r10)) :
  Calls Tryd.prog 14 #[.string a0] w fun e w' => e = .returned (.tuple #[.agg #[.int .i64 r1, .string r2, .string r3, .int .i64 r4, .string r5, .string r6, .int .i64 r7, .int .i64 r8, .int .i64 r9], .int .i64 r10]) ∧ Below w.heap.size w w' := by
 have HT := Aside0.mk HT_
 clear HT_
 have hu23 := Tryd.underlying23
 have hu57 := Tryd.underlying57
 have HB := Aside0.mk (Below.refl w.heap.size w)
 have H := h
 unfold command_Decode.f at H
 clear h
 replace H := Option.bind_eq_some_iff.mp H
 obtain ⟨⟨t184, t187⟩, A20, H⟩ := H
 replace H : (if t187 = 0 then (if 3 < (t184.length : Int) then ((command_fits.f ((rd_T57 t184 3).f0) ((rd_T57 t184 3).f1) ((rd_T57 t184 3).f2)).bind fun t189 => (if t189 = true then (if 6 < (t184.length : Int) then ((command_fitsOne.f ((rd_T57 t184 6).f0) ((rd_T57 t184 6).f1) ((rd_T57 t184 6).f2)).bind fun t191 => (if t191 = true then (if 8 < (t184.length : Int) then ((command_fits.f ((rd_T57 t184 8).f0) ((rd_T57 t184 8).f1) ((rd_T57 t184 8).f2)).bind fun t193 => (command_Decode.j0 k t184 (!t193))) else (none)) else (command_Decode.j0 k t184 true))) else (none)) else (command_Decode.j0 k t184 true))) else (none)) else (some (0, (⟨#[]⟩ : ByteArray), (⟨#[]⟩ : ByteArray), 0, (⟨#[]⟩ : ByteArray), (⟨#[]⟩ : ByteArray), 0, 0, 0, t187))) = some (r1, r2, r3, r4, r5, r6, r7, r8, r9, r10) := H
 have A2 := Aside0.mk A20
 clear A20
 by_cases c3 : t187 = 0; rotate_left
 ·rw [if_neg c3] at H
  have b9 : (t187 == 0) = false := beq_eq_false_iff_ne.mpr c3
  have ca : (t187 != 0) = true := bne_iff_ne.mpr c3
  simp only [Option.some.injEq, Prod.mk.injEq] at H
  obtain ⟨rfl, rfl, rfl, rfl, rfl, rfl, rfl, rfl, rfl, rfl⟩ := H
  go_enter Tryd.func14, Tryd.ntmps14
  go_wp2_with (first | ((with_reducible refine gate_dst (N := 2) rfl ?_); refine box_event ?hg (N := 2) ?hd (cs := za1_) (t := 23) ?hr ?_; (case hd => rfl); (case hg => rfl); (case hr => first | (go_simp; done) | (go_simp; rfl)); intro av hg w75 hbox hb; have al := Aside0.mk (hbox); have GW183 := Aside0.mk ((g1 hg bw : w.heap.size ≤ av)); have GE183 := Aside0.mk ((g1 hg bw : w.heap.size ≤ av)); replace HB := Aside0.mk (below_step bw hb); clear hb hbox hg) | ((with_reducible refine gate_callee (f := 37) rfl ?_); refine goesL_ (some 9) rfl rfl Tryd.func37 (by kernel_rfl) rfl #[.string (⟨#[98, 116, 116, 108, 116, 116, 108, 98, 108]⟩ : ByteArray), .string a0] rfl am ?_; (with_reducible refine (codec_Decode.calls k (⟨#[98, 116, 116, 108, 116, 116, 108, 98, 108]⟩ : ByteArray) a0 t184 t187 _ tbk A2.out).mono ?_); rintro e w76 ⟨v185, rfl, ho0, hb⟩; refine ⟨_, rfl, ?_⟩; have ar := Aside0.mk (Kd.V_lower (Kd.V_mono (ok' := fun k_ => k_ ≠ av) ho0 (fun k_ hk_ => (Kd.freshB (g := av) (o := .cells #[.int .i64 0, .string (⟨#[]⟩ : ByteArray), .string (⟨#[]⟩ : ByteArray), .int .i64 0, .string (⟨#[]⟩ : ByteArray), .string (⟨#[]⟩ : ByteArray), .int .i64 0, .int .i64 0, .int .i64 0] 23 (0, 0)) (bk al.out) k_ hk_))) (below_size bw)); replace al := Aside0.mk (nb al.out hb); replace HB := Aside0.mk (below_step bw hb); (try clear hb); (try clear ho0); obtain ⟨hcz77_0, hcz77_1, hcz77_2, hcz77_3, hcz77_4, hcz77_5, hcz77_6, hcz77_7, hcz77_8, hfz77_0, hfz77_1, hfz77_2, hfz77_3, hfz77_4, hfz77_5, hfz77_6, hfz77_7, hfz77_8⟩ := bx9 al.out))
  refine bodyPost_ret (results_ct rfl _ _ av 23 #[.int .i64 0, .string (⟨#[]⟩ : ByteArray), .string (⟨#[]⟩ : ByteArray), .int .i64 0, .string (⟨#[]⟩ : ByteArray), .string (⟨#[]⟩ : ByteArray), .int .i64 0, .int .i64 0, .int .i64 0] (0, 0) _ rfl (by (iterate 9 ((with_reducible repeat (first | refine blk_drewN ?_ _ | refine blk_drew ?_ | refine blk_alloc ?_ _)); refine blk_put (cs := za1_) ?_ _ _ rfl)); (with_reducible repeat (first | refine blk_drewN ?_ _ | refine blk_drew ?_ | refine blk_alloc ?_ _)); exact al.out) Tryd.underlying23 rfl (by kernel_rfl)) rfl ?_
  exact ⟨er, bw⟩
 rw [if_pos c3] at H
 have b9 : (t187 == 0) = true := beq_iff_eq.mpr c3
 have ca : (t187 != 0) = false := bne_eq_false_iff_eq.mpr c3
 clear c3
 have HC4 := Aside0.mk H
 clear H
 go_enter Tryd.func14, Tryd.ntmps14
 go_upto_region 4 with (first | ((with_reducible refine gate_dst (N := 2) rfl ?_); refine box_event ?hg (N := 2) ?hd (cs := za1_) (t := 23) ?hr ?_; (case hd => rfl); (case hg => rfl); (case hr => first | (go_simp; done) | (go_simp; rfl)); intro av hg w5 hbox hb; have al := Aside0.mk (hbox); have GW183 := Aside0.mk ((g1 hg bw : w.heap.size ≤ av)); have GE183 := Aside0.mk ((g1 hg bw : w.heap.size ≤ av)); replace HB := Aside0.mk (below_step bw hb); clear hb hbox hg) | ((with_reducible refine gate_callee (f := 37) rfl ?_); refine goesL_ (some 9) rfl rfl Tryd.func37 (by kernel_rfl) rfl #[.string (⟨#[98, 116, 116, 108, 116, 116, 108, 98, 108]⟩ : ByteArray), .string a0] rfl am ?_; (with_reducible refine (codec_Decode.calls k (⟨#[98, 116, 116, 108, 116, 116, 108, 98, 108]⟩ : ByteArray) a0 t184 t187 _ tbk A2.out).mono ?_); rintro e w6 ⟨v185, rfl, ho0, hb⟩; refine ⟨_, rfl, ?_⟩; have ar := Aside0.mk (Kd.V_lower (Kd.V_mono (ok' := fun k_ => k_ ≠ av) ho0 (fun k_ hk_ => (Kd.freshB (g := av) (o := .cells #[.int .i64 0, .string (⟨#[]⟩ : ByteArray), .string (⟨#[]⟩ : ByteArray), .int .i64 0, .string (⟨#[]⟩ : ByteArray), .string (⟨#[]⟩ : ByteArray), .int .i64 0, .int .i64 0, .int .i64 0] 23 (0, 0)) (bk al.out) k_ hk_))) (below_size bw)); replace al := Aside0.mk (nb al.out hb); replace HB := Aside0.mk (below_step bw hb); (try clear hb); (try clear ho0)))
 (try simp only [Act.put, sl1, sl2, sl3])
 go_cut [34] (fun v34 wc => ∃ (kq : Nat) (x34_3 : Bool), v34 = .bool x34_3 ∧ Aside0 (command_Decode.j0 kq t184 x34_3 = some (r1, r2, r3, r4, r5, r6, r7, r8, r9, r10)) ∧ Aside0 (kq ≤ k) ∧ Aside0 (Kd.V k57 57 wc w.heap.size (fun k_ => k_ ≠ av) v185 t184) ∧ Aside0 (wc.heap[av]? = some (.cells #[.int .i64 0, .string (⟨#[]⟩ : ByteArray), .string (⟨#[]⟩ : ByteArray), .int .i64 0, .string (⟨#[]⟩ : ByteArray), .string (⟨#[]⟩ : ByteArray), .int .i64 0, .int .i64 0, .int .i64 0] 23 (0, 0))) ∧ Aside0 (Below w.heap.size w wc))
 case first =>
  have H := HC4.out
  clear HC4
  obtain ⟨c7, H⟩ := its H
  have b8 : decide (3 < (t184.length : Int)) = true := decide_eq_true c7
  have c7b1 : decide (3 < t184.length) = true := decide_eq_true (by omega)
  clear c7
  (first | rw [b8] | (simp only [i64_w, i32_w]; rw [b8]) | skip)
  replace H := Option.bind_eq_some_iff.mp H
  obtain ⟨t189, A80, H⟩ := H
  have A8 := Aside0.mk A80
  clear A80
  by_cases c9 : t189 = true; rotate_left
  ·replace c9 := Bool.eq_false_iff.mpr c9
   subst c9
   have H1 : (command_Decode.j0 k t184 true) = some (r1, r2, r3, r4, r5, r6, r7, r8, r9, r10) := by rw [if_neg (show ¬ (false = true) by decide)] at H; exact H
   clear H
   have H := H1
   clear H1
   have H' := Aside0.mk H
   clear H
   obtain ⟨Ao22, co22, eo22⟩ := Kd.V_slice ar.out
   subst eo22
   have p188 : 0 ≤ (3 : Int) := (by omega)
   have q188 : 3 < (t184.length : Int) := od
   obtain ⟨b4, e188, aw, ax, ay⟩ := at_T57 (Kd.V_reads' ar.out).2.2 3 p188 q188
   cases e188
   (try simp only [tn3, Nat.reduceMul, Nat.reduceEqDiff, Go.Addr.add, ↓reduceIte] at aw)
   (try simp only [tn3, Nat.reduceMul, Nat.reduceEqDiff, Go.Addr.add, ↓reduceIte] at ax)
   (try simp only [tn3, Nat.reduceMul, Nat.reduceEqDiff, Go.Addr.add, ↓reduceIte] at ay)
   have qi188 : (3 < t184.length) = True := eq_true (by omega)
   (try rw [tn3] at aw)
   (try rw [show 3 * 3 = 9 from rfl] at aw)
   (try rw [tn3] at ax)
   (try rw [show 3 * 3 = 9 from rfl] at ax)
   (try rw [tn3] at ay)
   (try rw [show 3 * 3 = 9 from rfl] at ay)
   replace p188 := eq_true p188
   replace q188 := eq_true q188
   go_wp2_with (first | ((with_reducible refine gate_callee (f := 38) rfl ?_); refine goesL_ (some 19) rfl rfl Tryd.func38 (by kernel_rfl) rfl #[.agg #[.int .i64 ((rd_T57 t184 3).f0), .int .u64 ((rd_T57 t184 3).f1), .string ((rd_T57 t184 3).f2)]] rfl am ?_; (with_reducible refine (command_fits.calls ((rd_T57 t184 3).f0) ((rd_T57 t184 3).f1) ((rd_T57 t184 3).f2) false _ A8.out).mono ?_); rintro e w23 ⟨rfl, hb⟩; refine ⟨_, rfl, ?_⟩; replace ar := Aside0.mk (Kd.V_below (v_ ar.out) hb); replace al := Aside0.mk (nb al.out hb); replace HB := Aside0.mk (below_step bw hb); (try clear hb)))
   go_meet
   case rel => exact ⟨_, (true), (by first | rfl | (simp; done) | (simp [*]; done)), H', ⟨by first | omega | exact Nat.le_refl _⟩, ⟨v_ ar.out⟩, ⟨by (with_reducible repeat (first | refine blk_drewN ?_ _ | refine blk_drew ?_ | refine blk_alloc ?_ _)); exact al.out⟩, ⟨bw⟩⟩
  subst c9
  have H1 := H
  rw [if_pos rfl] at H1
  clear H
  have H := H1
  clear H1
  obtain ⟨c10, H⟩ := its H
  have c10b0 : decide (6 < (t184.length : Int)) = true := decide_eq_true c10
  have c10b1 : decide (6 < t184.length) = true := decide_eq_true (by omega)
  clear c10
  replace H := Option.bind_eq_some_iff.mp H
  obtain ⟨t191, A110, H⟩ := H
  have A11 := Aside0.mk A110
  clear A110
  by_cases c12 : t191 = true; rotate_left
  ·replace c12 := Bool.eq_false_iff.mpr c12
   subst c12
   have H1 : (command_Decode.j0 k t184 true) = some (r1, r2, r3, r4, r5, r6, r7, r8, r9, r10) := by rw [if_neg (show ¬ (false = true) by decide)] at H; exact H
   clear H
   have H := H1
   clear H1
   have H' := Aside0.mk H
   clear H
   obtain ⟨Ao19, co19, eo19⟩ := Kd.V_slice ar.out
   subst eo19
   have p188 : 0 ≤ (3 : Int) := (by omega)
   have q188 : 3 < (t184.length : Int) := od
   obtain ⟨b4, e188, aw, ax, ay⟩ := at_T57 (Kd.V_reads' ar.out).2.2 3 p188 q188
   cases e188
   (try simp only [tn3, Nat.reduceMul, Nat.reduceEqDiff, Go.Addr.add, ↓reduceIte] at aw)
   (try simp only [tn3, Nat.reduceMul, Nat.reduceEqDiff, Go.Addr.add, ↓reduceIte] at ax)
   (try simp only [tn3, Nat.reduceMul, Nat.reduceEqDiff, Go.Addr.add, ↓reduceIte] at ay)
   have qi188 : (3 < t184.length) = True := eq_true (by omega)
   (try rw [tn3] at aw)
   (try rw [show 3 * 3 = 9 from rfl] at aw)
   (try rw [tn3] at ax)
   (try rw [show 3 * 3 = 9 from rfl] at ax)
   (try rw [tn3] at ay)
   (try rw [show 3 * 3 = 9 from rfl] at ay)
   replace p188 := eq_true p188
   replace q188 := eq_true q188
   go_wp2_with (first | ((with_reducible refine gate_callee (f := 38) rfl ?_); refine goesL_ (some 19) rfl rfl Tryd.func38 (by kernel_rfl) rfl #[.agg #[.int .i64 ((rd_T57 t184 3).f0), .int .u64 ((rd_T57 t184 3).f1), .string ((rd_T57 t184 3).f2)]] rfl am ?_; (with_reducible refine (command_fits.calls ((rd_T57 t184 3).f0) ((rd_T57 t184 3).f1) ((rd_T57 t184 3).f2) true _ A8.out).mono ?_); rintro e w20 ⟨rfl, hb⟩; refine ⟨_, rfl, ?_⟩; replace ar := Aside0.mk (Kd.V_below (v_ ar.out) hb); replace al := Aside0.mk (nb al.out hb); replace HB := Aside0.mk (below_step bw hb); (try clear hb); have p190 : 0 ≤ (6 : Int) := (by omega); have q190 : 6 < (t184.length : Int) := od; obtain ⟨b7, e190, a1, a2, a3⟩ := at_T57 (Kd.V_reads' ar.out).2.2 6 p190 q190; obtain rfl : b4 = b7 := (by injection e190); (try simp only [tn6, Nat.reduceMul, Nat.reduceEqDiff, Go.Addr.add, ↓reduceIte] at a1); (try simp only [tn6, Nat.reduceMul, Nat.reduceEqDiff, Go.Addr.add, ↓reduceIte] at a2); (try simp only [tn6, Nat.reduceMul, Nat.reduceEqDiff, Go.Addr.add, ↓reduceIte] at a3); have qi190 : (6 < t184.length) = True := eq_true (by omega); (try rw [tn6] at a1); (try rw [show 6 * 3 = 18 from rfl] at a1); (try rw [tn6] at a2); (try rw [show 6 * 3 = 18 from rfl] at a2); (try rw [tn6] at a3); (try rw [show 6 * 3 = 18 from rfl] at a3); replace p190 := eq_true p190; replace q190 := eq_true q190) | (go_at_call 39; (with_reducible refine (command_fitsOne.calls ((rd_T57 t184 6).f0) ((rd_T57 t184 6).f1) ((rd_T57 t184 6).f2) false _ A11.out).mono ?_); rintro e w21 ⟨rfl, hb⟩; replace ar := Aside0.mk (Kd.V_below (v_ ar.out) hb); replace al := Aside0.mk (nb al.out hb); replace HB := Aside0.mk (below_step bw hb); (try clear hb)))
   go_meet
   case rel => exact ⟨_, (true), (by first | rfl | (simp; done) | (simp [*]; done)), H', ⟨by first | omega | exact Nat.le_refl _⟩, ⟨v_ ar.out⟩, ⟨by (with_reducible repeat (first | refine blk_drewN ?_ _ | refine blk_drew ?_ | refine blk_alloc ?_ _)); exact al.out⟩, ⟨bw⟩⟩
  subst c12
  have H1 := H
  rw [if_pos rfl] at H1
  clear H
  have H := H1
  clear H1
  obtain ⟨c13, H⟩ := its H
  have c13b0 : decide (8 < (t184.length : Int)) = true := decide_eq_true c13
  have c13b1 : decide (8 < t184.length) = true := decide_eq_true (by omega)
  clear c13
  replace H := Option.bind_eq_some_iff.mp H
  obtain ⟨t193, A140, H⟩ := H
  have A14 := Aside0.mk A140
  clear A140
  have H' := Aside0.mk H
  clear H
  obtain ⟨Ao15, co15, eo15⟩ := Kd.V_slice ar.out
  subst eo15
  have p188 : 0 ≤ (3 : Int) := (by omega)
  have q188 : 3 < (t184.length : Int) := od
  obtain ⟨b4, e188, aw, ax, ay⟩ := at_T57 (Kd.V_reads' ar.out).2.2 3 p188 q188
  cases e188
  (try simp only [tn3, Nat.reduceMul, Nat.reduceEqDiff, Go.Addr.add, ↓reduceIte] at aw)
  (try simp only [tn3, Nat.reduceMul, Nat.reduceEqDiff, Go.Addr.add, ↓reduceIte] at ax)
  (try simp only [tn3, Nat.reduceMul, Nat.reduceEqDiff, Go.Addr.add, ↓reduceIte] at ay)
  have qi188 : (3 < t184.length) = True := eq_true (by omega)
  (try rw [tn3] at aw)
  (try rw [show 3 * 3 = 9 from rfl] at aw)
  (try rw [tn3] at ax)
  (try rw [show 3 * 3 = 9 from rfl] at ax)
  (try rw [tn3] at ay)
  (try rw [show 3 * 3 = 9 from rfl] at ay)
  replace p188 := eq_true p188
  replace q188 := eq_true q188
  go_wp2_with (first | ((with_reducible refine gate_callee (f := 38) rfl ?_); refine goesL_ (some 19) rfl rfl Tryd.func38 (by kernel_rfl) rfl #[.agg #[.int .i64 ((rd_T57 t184 3).f0), .int .u64 ((rd_T57 t184 3).f1), .string ((rd_T57 t184 3).f2)]] rfl am ?_; (with_reducible refine (command_fits.calls ((rd_T57 t184 3).f0) ((rd_T57 t184 3).f1) ((rd_T57 t184 3).f2) true _ A8.out).mono ?_); rintro e w16 ⟨rfl, hb⟩; refine ⟨_, rfl, ?_⟩; replace ar := Aside0.mk (Kd.V_below (v_ ar.out) hb); replace al := Aside0.mk (nb al.out hb); replace HB := Aside0.mk (below_step bw hb); (try clear hb); have p190 : 0 ≤ (6 : Int) := (by omega); have q190 : 6 < (t184.length : Int) := od; obtain ⟨b7, e190, a1, a2, a3⟩ := at_T57 (Kd.V_reads' ar.out).2.2 6 p190 q190; obtain rfl : b4 = b7 := (by injection e190); (try simp only [tn6, Nat.reduceMul, Nat.reduceEqDiff, Go.Addr.add, ↓reduceIte] at a1); (try simp only [tn6, Nat.reduceMul, Nat.reduceEqDiff, Go.Addr.add, ↓reduceIte] at a2); (try simp only [tn6, Nat.reduceMul, Nat.reduceEqDiff, Go.Addr.add, ↓reduceIte] at a3); have qi190 : (6 < t184.length) = True := eq_true (by omega); (try rw [tn6] at a1); (try rw [show 6 * 3 = 18 from rfl] at a1); (try rw [tn6] at a2); (try rw [show 6 * 3 = 18 from rfl] at a2); (try rw [tn6] at a3); (try rw [show 6 * 3 = 18 from rfl] at a3); replace p190 := eq_true p190; replace q190 := eq_true q190) | (go_at_call 39; (with_reducible refine (command_fitsOne.calls ((rd_T57 t184 6).f0) ((rd_T57 t184 6).f1) ((rd_T57 t184 6).f2) true _ A11.out).mono ?_); rintro e w17 ⟨rfl, hb⟩; replace ar := Aside0.mk (Kd.V_below (v_ ar.out) hb); replace al := Aside0.mk (nb al.out hb); replace HB := Aside0.mk (below_step bw hb); (try clear hb); have p192 : 0 ≤ (8 : Int) := (by omega); have q192 : 8 < (t184.length : Int) := od; obtain ⟨ad192, e192, a5, a6, a7⟩ := at_T57 (Kd.V_reads' ar.out).2.2 8 p192 q192; obtain rfl : b4 = ad192 := (by injection e192); (try simp only [tn8, Nat.reduceMul, Nat.reduceEqDiff, Go.Addr.add, ↓reduceIte] at a5); (try simp only [tn8, Nat.reduceMul, Nat.reduceEqDiff, Go.Addr.add, ↓reduceIte] at a6); (try simp only [tn8, Nat.reduceMul, Nat.reduceEqDiff, Go.Addr.add, ↓reduceIte] at a7); have qi192 : (8 < t184.length) = True := eq_true (by omega); (try rw [tn8] at a5); (try rw [show 8 * 3 = 24 from rfl] at a5); (try rw [tn8] at a6); (try rw [show 8 * 3 = 24 from rfl] at a6); (try rw [tn8] at a7); (try rw [show 8 * 3 = 24 from rfl] at a7); replace p192 := eq_true p192; replace q192 := eq_true q192) | (go_at_call 38; (with_reducible refine (command_fits.calls ((rd_T57 t184 8).f0) ((rd_T57 t184 8).f1) ((rd_T57 t184 8).f2) t193 _ A14.out).mono ?_); rintro e w18 ⟨rfl, hb⟩; replace ar := Aside0.mk (Kd.V_below (v_ ar.out) hb); replace al := Aside0.mk (nb al.out hb); replace HB := Aside0.mk (below_step bw hb); (try clear hb)))
  go_meet
  case rel => exact ⟨_, (!t193), (by first | rfl | (simp; done) | (simp [*]; done)), H', ⟨by first | omega | exact Nat.le_refl _⟩, ⟨v_ ar.out⟩, ⟨by (with_reducible repeat (first | refine blk_drewN ?_ _ | refine blk_drew ?_ | refine blk_alloc ?_ _)); exact al.out⟩, ⟨bw⟩⟩
 case rest =>
  clear HC4
  try clear c1
  try clear p1
  try clear q1
  try clear hx1
  try clear qi1
  try clear p2
  try clear c3
  try clear b9
  try clear ca
  try clear c7
  try clear b8
  try clear c7b1
  try clear c9
  try clear c10
  try clear c10b0
  try clear c10b1
  try clear c12
  try clear c13
  try clear c13b0
  try clear c13b1
  try clear c14
  try clear p18
  try clear q18
  try clear hx18
  try clear qi18
  try clear p19
  try clear q19
  try clear hx19
  try clear qi19
  try clear aw
  try clear ax
  try clear ay
  try clear a1
  try clear a2
  try clear a3
  try clear a5
  try clear a6
  try clear a7
  try clear p188
  try clear p190
  try clear p192
  try clear q188
  try clear q190
  try clear q192
  obtain ⟨kq, x34_3, rfl, HA, HJ3, az, al, HB⟩ := hcut
  cases kq with
  | zero => exact absurd HA.out (by simp [command_Decode.j0])
  | succ kj3 =>
   have H := HA.out
   clear HA
   simp only [command_Decode.j0] at H
   by_cases c24 : x34_3 = true
   ·subst c24
    have H1 := H
    rw [if_pos rfl] at H1
    clear H
    have H := H1
    clear H1
    simp only [Option.some.injEq, Prod.mk.injEq] at H
    obtain ⟨rfl, rfl, rfl, rfl, rfl, rfl, rfl, rfl, rfl, rfl⟩ := H
    obtain ⟨hcz25_0, hcz25_1, hcz25_2, hcz25_3, hcz25_4, hcz25_5, hcz25_6, hcz25_7, hcz25_8, hfz25_0, hfz25_1, hfz25_2, hfz25_3, hfz25_4, hfz25_5, hfz25_6, hfz25_7, hfz25_8⟩ := bx9 al.out
    go_wp2
    refine bodyPost_ret (results_ct rfl _ _ av 23 #[.int .i64 0, .string (⟨#[]⟩ : ByteArray), .string (⟨#[]⟩ : ByteArray), .int .i64 0, .string (⟨#[]⟩ : ByteArray), .string (⟨#[]⟩ : ByteArray), .int .i64 0, .int .i64 0, .int .i64 0] (0, 0) _ rfl (by (iterate 9 ((with_reducible repeat (first | refine blk_drewN ?_ _ | refine blk_drew ?_ | refine blk_alloc ?_ _)); refine blk_put (cs := za1_) ?_ _ _ rfl)); (with_reducible repeat (first | refine blk_drewN ?_ _ | refine blk_drew ?_ | refine blk_alloc ?_ _)); exact al.out) Tryd.underlying23 rfl (by kernel_rfl)) rfl ?_
    exact ⟨er, bw⟩
   replace c24 := Bool.eq_false_iff.mpr c24
   subst c24
   have H1 : (if 0 < (t184.length : Int) then (if 1 < (t184.length : Int) then (if 2 < (t184.length : Int) then (if 3 < (t184.length : Int) then (if 4 < (t184.length : Int) then (if 5 < (t184.length : Int) then (if 6 < (t184.length : Int) then ((command_less.f ((rd_T57 t184 6).f0) ((rd_T57 t184 6).f1) ((rd_T57 t184 6).f2)).bind fun t201 => (if 7 < (t184.length : Int) then (if 8 < (t184.length : Int) then ((command_Right.f (wrap64 ((rd_T57 t184 0).f1)) ((rd_T57 t184 1).f2) ((rd_T57 t184 2).f2) (wrap64 ((rd_T57 t184 3).f1)) ((rd_T57 t184 4).f2) ((rd_T57 t184 5).f2) t201 (wrap64 ((rd_T57 t184 7).f1)) (wrap64 ((rd_T57 t184 8).f1))).bind fun t205 => (if t205 = true then (some (wrap64 ((rd_T57 t184 0).f1), (rd_T57 t184 1).f2, (rd_T57 t184 2).f2, wrap64 ((rd_T57 t184 3).f1), (rd_T57 t184 4).f2, (rd_T57 t184 5).f2, t201, wrap64 ((rd_T57 t184 7).f1), wrap64 ((rd_T57 t184 8).f1), 0)) else (some (0, (⟨#[]⟩ : ByteArray), (⟨#[]⟩ : ByteArray), 0, (⟨#[]⟩ : ByteArray), (⟨#[]⟩ : ByteArray), 0, 0, 0, 10)))) else (none)) else (none))) else (none)) else (none)) else (none)) else (none)) else (none)) else (none)) else (none)) = some (r1, r2, r3, r4, r5, r6, r7, r8, r9, r10) := by rw [if_neg (show ¬ (false = true) by decide)] at H; exact H
   clear H
   have H := H1
   clear H1
   obtain ⟨c26, H⟩ := its H
   have c26b0 : decide (0 < (t184.length : Int)) = true := decide_eq_true c26
   have c26b1 : decide (0 < t184.length) = true := decide_eq_true (by omega)
   clear c26
   obtain ⟨c27, H⟩ := its H
   have c27b0 : decide (1 < (t184.length : Int)) = true := decide_eq_true c27
   have c27b1 : decide (1 < t184.length) = true := decide_eq_true (by omega)
   clear c27
   obtain ⟨c28, H⟩ := its H
   have c28b0 : decide (2 < (t184.length : Int)) = true := decide_eq_true c28
   have c28b1 : decide (2 < t184.length) = true := decide_eq_true (by omega)
   clear c28
   obtain ⟨c29, H⟩ := its H
   have c29b0 : decide (3 < (t184.length : Int)) = true := decide_eq_true c29
   have c29b1 : decide (3 < t184.length) = true := decide_eq_true (by omega)
   clear c29
   obtain ⟨c30, H⟩ := its H
   have c30b0 : decide (4 < (t184.length : Int)) = true := decide_eq_true c30
   have c30b1 : decide (4 < t184.length) = true := decide_eq_true (by omega)
   clear c30
   obtain ⟨c31, H⟩ := its H
   have c31b0 : decide (5 < (t184.length : Int)) = true := decide_eq_true c31
   have c31b1 : decide (5 < t184.length) = true := decide_eq_true (by omega)
   clear c31
   obtain ⟨c32, H⟩ := its H
   have c32b0 : decide (6 < (t184.length : Int)) = true := decide_eq_true c32
   have c32b1 : decide (6 < t184.length) = true := decide_eq_true (by omega)
   clear c32
   replace H := Option.bind_eq_some_iff.mp H
   obtain ⟨t201, A330, H⟩ := H
   have A33 := Aside0.mk A330
   clear A330
   obtain ⟨c34, H⟩ := its H
   have c34b0 : decide (7 < (t184.length : Int)) = true := decide_eq_true c34
   have c34b1 : decide (7 < t184.length) = true := decide_eq_true (by omega)
   clear c34
   obtain ⟨c35, H⟩ := its H
   have c35b0 : decide (8 < (t184.length : Int)) = true := decide_eq_true c35
   have c35b1 : decide (8 < t184.length) = true := decide_eq_true (by omega)
   clear c35
   replace H := Option.bind_eq_some_iff.mp H
   obtain ⟨t205, A360, H⟩ := H
   have A36 := Aside0.mk A360
   clear A360
   have HhZ := Aside0.mk H
   clear H
   try go_wp2
   replace az := Aside0.mk (Kd.V_drew az.out)
   replace al := Aside0.mk (blk_drew al.out)
   replace HB := Aside0.mk (below_drew1 HB.out)
   obtain ⟨Ao39, a4, cb⟩ := Kd.V_slice az.out
   (first | subst cb | (injection cb with f1_ f2_ f3_; have f4_ := f1_.symm; have f5_ := f3_.symm; clear f1_ f2_ f3_; subst f4_; subst f5_))
   have p194 : 0 ≤ (0 : Int) := (by omega)
   have q194 : 0 < (t184.length : Int) := od
   obtain ⟨ad, e194, a8, a9, ba⟩ := at_T57 (Kd.V_reads' az.out).2.2 0 p194 q194
   cases e194
   have qi194 : (0 < t184.length) = True := eq_true (by omega)
   (try rw [tn0] at a8)
   (try rw [show 0 * 3 = 0 from rfl] at a8)
   (try rw [Addr.add_zero'] at a8)
   (try rw [tn0] at a9)
   (try rw [show 0 * 3 = 0 from rfl] at a9)
   (try rw [Addr.add_zero'] at a9)
   (try rw [tn0] at ba)
   (try rw [show 0 * 3 = 0 from rfl] at ba)
   (try rw [Addr.add_zero'] at ba)
   replace p194 := eq_true p194
   replace q194 := eq_true q194
   have p195 : 0 ≤ (1 : Int) := (by omega)
   have q195 : 1 < (t184.length : Int) := od
   obtain ⟨ad195, e195, bb, bc, bd⟩ := at_T57 (Kd.V_reads' az.out).2.2 1 p195 q195
   obtain rfl : ad = ad195 := (by injection e195)
   (try simp only [tn1, Nat.reduceMul, Nat.reduceEqDiff, Go.Addr.add, ↓reduceIte] at bb)
   (try simp only [tn1, Nat.reduceMul, Nat.reduceEqDiff, Go.Addr.add, ↓reduceIte] at bc)
   (try simp only [tn1, Nat.reduceMul, Nat.reduceEqDiff, Go.Addr.add, ↓reduceIte] at bd)
   have qi195 : (1 < t184.length) = True := eq_true (by omega)
   (try rw [tn1] at bb)
   (try rw [show 1 * 3 = 3 from rfl] at bb)
   (try rw [tn1] at bc)
   (try rw [show 1 * 3 = 3 from rfl] at bc)
   (try rw [tn1] at bd)
   (try rw [show 1 * 3 = 3 from rfl] at bd)
   replace p195 := eq_true p195
   replace q195 := eq_true q195
   have p196 : 0 ≤ (2 : Int) := (by omega)
   have q196 : 2 < (t184.length : Int) := od
   obtain ⟨ad196, e196, be, bf, bg⟩ := at_T57 (Kd.V_reads' az.out).2.2 2 p196 q196
   obtain rfl : ad = ad196 := (by injection e196)
   (try simp only [tn2, Nat.reduceMul, Nat.reduceEqDiff, Go.Addr.add, ↓reduceIte] at be)
   (try simp only [tn2, Nat.reduceMul, Nat.reduceEqDiff, Go.Addr.add, ↓reduceIte] at bf)
   (try simp only [tn2, Nat.reduceMul, Nat.reduceEqDiff, Go.Addr.add, ↓reduceIte] at bg)
   have qi196 : (2 < t184.length) = True := eq_true (by omega)
   (try rw [tn2] at be)
   (try rw [show 2 * 3 = 6 from rfl] at be)
   (try rw [tn2] at bf)
   (try rw [show 2 * 3 = 6 from rfl] at bf)
   (try rw [tn2] at bg)
   (try rw [show 2 * 3 = 6 from rfl] at bg)
   replace p196 := eq_true p196
   replace q196 := eq_true q196
   have p197 : 0 ≤ (3 : Int) := (by omega)
   have q197 : 3 < (t184.length : Int) := od
   obtain ⟨ad197, e197, bh, bi, bj⟩ := at_T57 (Kd.V_reads' az.out).2.2 3 p197 q197
   obtain rfl : ad = ad197 := (by injection e197)
   (try simp only [tn3, Nat.reduceMul, Nat.reduceEqDiff, Go.Addr.add, ↓reduceIte] at bh)
   (try simp only [tn3, Nat.reduceMul, Nat.reduceEqDiff, Go.Addr.add, ↓reduceIte] at bi)
   (try simp only [tn3, Nat.reduceMul, Nat.reduceEqDiff, Go.Addr.add, ↓reduceIte] at bj)
   have qi197 : (3 < t184.length) = True := eq_true (by omega)
   (try rw [tn3] at bh)
   (try rw [show 3 * 3 = 9 from rfl] at bh)
   (try rw [tn3] at bi)
   (try rw [show 3 * 3 = 9 from rfl] at bi)
   (try rw [tn3] at bj)
   (try rw [show 3 * 3 = 9 from rfl] at bj)
   replace p197 := eq_true p197
   replace q197 := eq_true q197
   have p198 : 0 ≤ (4 : Int) := (by omega)
   have q198 : 4 < (t184.length : Int) := od
   obtain ⟨ad198, e198, bl, bm, bn⟩ := at_T57 (Kd.V_reads' az.out).2.2 4 p198 q198
   obtain rfl : ad = ad198 := (by injection e198)
   (try simp only [tn4, Nat.reduceMul, Nat.reduceEqDiff, Go.Addr.add, ↓reduceIte] at bl)
   (try simp only [tn4, Nat.reduceMul, Nat.reduceEqDiff, Go.Addr.add, ↓reduceIte] at bm)
   (try simp only [tn4, Nat.reduceMul, Nat.reduceEqDiff, Go.Addr.add, ↓reduceIte] at bn)
   have qi198 : (4 < t184.length) = True := eq_true (by omega)
   (try rw [tn4] at bl)
   (try rw [show 4 * 3 = 12 from rfl] at bl)
   (try rw [tn4] at bm)
   (try rw [show 4 * 3 = 12 from rfl] at bm)
   (try rw [tn4] at bn)
   (try rw [show 4 * 3 = 12 from rfl] at bn)
   replace p198 := eq_true p198
   replace q198 := eq_true q198
   have p199 : 0 ≤ (5 : Int) := (by omega)
   have q199 : 5 < (t184.length : Int) := od
   obtain ⟨ad199, e199, bo, bp, bq⟩ := at_T57 (Kd.V_reads' az.out).2.2 5 p199 q199
   obtain rfl : ad = ad199 := (by injection e199)
   (try simp only [tn5, Nat.reduceMul, Nat.reduceEqDiff, Go.Addr.add, ↓reduceIte] at bo)
   (try simp only [tn5, Nat.reduceMul, Nat.reduceEqDiff, Go.Addr.add, ↓reduceIte] at bp)
   (try simp only [tn5, Nat.reduceMul, Nat.reduceEqDiff, Go.Addr.add, ↓reduceIte] at bq)
   have qi199 : (5 < t184.length) = True := eq_true (by omega)
   (try rw [tn5] at bo)
   (try rw [show 5 * 3 = 15 from rfl] at bo)
   (try rw [tn5] at bp)
   (try rw [show 5 * 3 = 15 from rfl] at bp)
   (try rw [tn5] at bq)
   (try rw [show 5 * 3 = 15 from rfl] at bq)
   replace p199 := eq_true p199
   replace q199 := eq_true q199
   have p200 : 0 ≤ (6 : Int) := (by omega)
   have q200 : 6 < (t184.length : Int) := od
   obtain ⟨ad200, e200, br, bs, bu⟩ := at_T57 (Kd.V_reads' az.out).2.2 6 p200 q200
   obtain rfl : ad = ad200 := (by injection e200)
   (try simp only [tn6, Nat.reduceMul, Nat.reduceEqDiff, Go.Addr.add, ↓reduceIte] at br)
   (try simp only [tn6, Nat.reduceMul, Nat.reduceEqDiff, Go.Addr.add, ↓reduceIte] at bs)
   (try simp only [tn6, Nat.reduceMul, Nat.reduceEqDiff, Go.Addr.add, ↓reduceIte] at bu)
   have qi200 : (6 < t184.length) = True := eq_true (by omega)
   (try rw [tn6] at br)
   (try rw [show 6 * 3 = 18 from rfl] at br)
   (try rw [tn6] at bs)
   (try rw [show 6 * 3 = 18 from rfl] at bs)
   (try rw [tn6] at bu)
   (try rw [show 6 * 3 = 18 from rfl] at bu)
   replace p200 := eq_true p200
   replace q200 := eq_true q200
   have p202 : 0 ≤ (7 : Int) := (by omega)
   have q202 : 7 < (t184.length : Int) := od
   obtain ⟨ad202, e202, bv, bx, b0⟩ := at_T57 (Kd.V_reads' az.out).2.2 7 p202 q202
   obtain rfl : ad = ad202 := (by injection e202)
   (try simp only [tn7, Nat.reduceMul, Nat.reduceEqDiff, Go.Addr.add, ↓reduceIte] at bv)
   (try simp only [tn7, Nat.reduceMul, Nat.reduceEqDiff, Go.Addr.add, ↓reduceIte] at bx)
   (try simp only [tn7, Nat.reduceMul, Nat.reduceEqDiff, Go.Addr.add, ↓reduceIte] at b0)
   have qi202 : (7 < t184.length) = True := eq_true (by omega)
   (try rw [tn7] at bv)
   (try rw [show 7 * 3 = 21 from rfl] at bv)
   (try rw [tn7] at bx)
   (try rw [show 7 * 3 = 21 from rfl] at bx)
   (try rw [tn7] at b0)
   (try rw [show 7 * 3 = 21 from rfl] at b0)
   replace p202 := eq_true p202
   replace q202 := eq_true q202
   have p203 : 0 ≤ (8 : Int) := (by omega)
   have q203 : 8 < (t184.length : Int) := od
   obtain ⟨ad203, e203, b1, b2, b3⟩ := at_T57 (Kd.V_reads' az.out).2.2 8 p203 q203
   obtain rfl : ad = ad203 := (by injection e203)
   (try simp only [tn8, Nat.reduceMul, Nat.reduceEqDiff, Go.Addr.add, ↓reduceIte] at b1)
   (try simp only [tn8, Nat.reduceMul, Nat.reduceEqDiff, Go.Addr.add, ↓reduceIte] at b2)
   (try simp only [tn8, Nat.reduceMul, Nat.reduceEqDiff, Go.Addr.add, ↓reduceIte] at b3)
   have qi203 : (8 < t184.length) = True := eq_true (by omega)
   (try rw [tn8] at b1)
   (try rw [show 8 * 3 = 24 from rfl] at b1)
   (try rw [tn8] at b2)
   (try rw [show 8 * 3 = 24 from rfl] at b2)
   (try rw [tn8] at b3)
   (try rw [show 8 * 3 = 24 from rfl] at b3)
   replace p203 := eq_true p203
   replace q203 := eq_true q203
   refine start_ (n := 43) (S := fun w' => True) (ds := []) (bz 43 0) (by kernel_rfl) rfl rfl trivial (fun hHeld => ?_); refine with_tabW command_Decode.tab6 command_Decode.bits6 (fun HT_ HW_ => ?_)
   generalize wc.drew = w38 at az al HB a8 a9 ba bb bc bd be bf bg bh bi bj bl bm bn bo bp bq br bs bu bv bx b0 b1 b2 b3 hHeld ⊢
   refine pu_ 0 (some 36) (bz 43 1) HT_.out ?_
   refine pu_ 5 (some 41) (bz 43 33) HT_.out ?_
   refine pu_ 9 (some 45) (bz 43 545) HT_.out ?_
   refine pu_ 13 (some 49) (bz 43 8737) HT_.out ?_
   refine pu_ 18 (some 54) (bz 43 270881) HT_.out ?_
   refine pu_ 22 (some 58) (bz 43 4465185) HT_.out ?_
   refine pu_ 26 (some 62) (bz 43 71574049) HT_.out ?_
   refine pu_ 30 (some 66) (bz 43 1145315873) HT_.out ?_
   refine pu_ 35 (some 71) (bz 43 35505054241) HT_.out ?_
   refine inv_at [1, 2, 3, 4, 6, 7, 8, 10, 11, 12, 14, 15, 16, 17, 19, 20, 21, 23, 24, 25, 27, 28, 29, 31, 32, 33, 34, 36, 37, 38, 39, 40, 41, 42] (fun a0_ b a w' => ∃ (aj : Nat) (m41_ : Value), a = putSel a0_ b [(1, 37, .pointer (some ad)), (2, 38, .pointer (some ⟨ad.block, ad.off + 1, none⟩)), (3, 39, .int .u64 ((rd_T57 t184 0).f1)), (4, 40, .int .i64 (wrap64 ((rd_T57 t184 0).f1))), (6, 42, .pointer (some (ad.add 3))), (7, 43, .pointer (some ⟨(ad.add 3).block, (ad.add 3).off + 2, none⟩)), (8, 44, .string ((rd_T57 t184 1).f2)), (10, 46, .pointer (some (ad.add 6))), (11, 47, .pointer (some ⟨(ad.add 6).block, (ad.add 6).off + 2, none⟩)), (12, 48, .string ((rd_T57 t184 2).f2)), (14, 50, .pointer (some (ad.add 9))), (15, 51, .pointer (some ⟨(ad.add 9).block, (ad.add 9).off + 1, none⟩)), (16, 52, .int .u64 ((rd_T57 t184 3).f1)), (17, 53, .int .i64 (wrap64 ((rd_T57 t184 3).f1))), (19, 55, .pointer (some (ad.add 12))), (20, 56, .pointer (some ⟨(ad.add 12).block, (ad.add 12).off + 2, none⟩)), (21, 57, .string ((rd_T57 t184 4).f2)), (23, 59, .pointer (some (ad.add 15))), (24, 60, .pointer (some ⟨(ad.add 15).block, (ad.add 15).off + 2, none⟩)), (25, 61, .string ((rd_T57 t184 5).f2)), (27, 63, .pointer (some (ad.add 18))), (28, 64, .agg #[.int .i64 ((rd_T57 t184 6).f0), .int .u64 ((rd_T57 t184 6).f1), .string ((rd_T57 t184 6).f2)]), (29, 65, .int .i64 t201), (31, 67, .pointer (some (ad.add 21))), (32, 68, .pointer (some ⟨(ad.add 21).block, (ad.add 21).off + 1, none⟩)), (33, 69, .int .u64 ((rd_T57 t184 7).f1)), (34, 70, .int .i64 (wrap64 ((rd_T57 t184 7).f1))), (36, 72, .pointer (some (ad.add 24))), (37, 73, .pointer (some ⟨(ad.add 24).block, (ad.add 24).off + 1, none⟩)), (38, 74, .int .u64 ((rd_T57 t184 8).f1)), (39, 75, .int .i64 (wrap64 ((rd_T57 t184 8).f1))), (40, 76, .agg #[.int .i64 (wrap64 ((rd_T57 t184 0).f1)), .string ((rd_T57 t184 1).f2), .string ((rd_T57 t184 2).f2), .int .i64 (wrap64 ((rd_T57 t184 3).f1)), .string ((rd_T57 t184 4).f2), .string ((rd_T57 t184 5).f2), .int .i64 t201, .int .i64 (wrap64 ((rd_T57 t184 7).f1)), .int .i64 (wrap64 ((rd_T57 t184 8).f1))]), (41, 6, m41_)] ∧ (b 41 = false → Kd.V k57 57 w' w.heap.size (fun k_ => k_ ≠ av) (.slice (some ad) t184.length a4) t184) ∧ (w'.heap[av]? = some (.cells #[.int .i64 0, .string (⟨#[]⟩ : ByteArray), .string (⟨#[]⟩ : ByteArray), .int .i64 0, .string (⟨#[]⟩ : ByteArray), .string (⟨#[]⟩ : ByteArray), .int .i64 0, .int .i64 0, .int .i64 0] 23 (0, 0))) ∧ (Below w.heap.size w w') ∧ (b 41 = true → Kd.V k57 57 w' w.heap.size (fun k_ => k_ ≠ av ∧ k_ ≠ aj) (.slice (some ad) t184.length a4) t184) ∧ (b 41 = true → b 42 = false → w'.heap[aj]? = some (.cells #[.int .i64 0, .string (⟨#[]⟩ : ByteArray), .string (⟨#[]⟩ : ByteArray), .int .i64 0, .string (⟨#[]⟩ : ByteArray), .string (⟨#[]⟩ : ByteArray), .int .i64 0, .int .i64 0, .int .i64 0] 23 (0, 0))) ∧ (b 41 = true → w.heap.size ≤ aj) ∧ (b 41 = true → w.heap.size ≤ aj) ∧ (b 41 = true → av ≠ aj) ∧ (b 41 = true → aj ≠ av) ∧ (b 42 = true → w'.heap[aj]? = some (.cells #[.int .i64 (wrap64 ((rd_T57 t184 0).f1)), .string ((rd_T57 t184 1).f2), .string ((rd_T57 t184 2).f2), .int .i64 (wrap64 ((rd_T57 t184 3).f1)), .string ((rd_T57 t184 4).f2), .string ((rd_T57 t184 5).f2), .int .i64 t201, .int .i64 (wrap64 ((rd_T57 t184 7).f1)), .int .i64 (wrap64 ((rd_T57 t184 8).f1))] 23 (0, 0))) ∧ (b 41 = true → (m41_ : Value) = .pointer (some ⟨aj, 0, none⟩))) HT_.out HW_.out (by kernel_rfl) (by kernel_rfl) ?_ ?_ ?_
   ·exact ⟨0, .bool false, by simp only [putSel, Bool.false_eq_true, if_false], fun _ => az.out, al.out, HB.out, fun h_ => absurd h_ (by decide), fun h_ => absurd h_ (by decide), fun h_ => absurd h_ (by decide), fun h_ => absurd h_ (by decide), fun h_ => absurd h_ (by decide), fun h_ => absurd h_ (by decide), fun h_ => absurd h_ (by decide), fun h_ => absurd h_ (by decide)⟩
   ·skip
    clear al HB az
    refine steps_cons ?_ ?_
    ·rintro b a w' ⟨aj, m41_, ha, ak, ae, ao, aa, ah, af, ag, ab, ac, ai, an⟩ hb_ hon hoff
     refine ⟨_, rfl, fun K hK => ?_⟩
     have e36 : a.tmps[36]? = some (.slice (some ad) t184.length a4) := by rw [ha]; exact (putSel_off rfl).trans rfl
     replace ha := Aside0.mk ha
     have al := Aside0.mk ae
     have HB := Aside0.mk ao
     refine value_ (w1 := w') (v := .pointer (some ad)) (by rfl) rfl ?_ ?_
     ·go_simp
      (try simp only [i64_w])
      try rfl
     refine hK.out _ _ ⟨aj, m41_, (by rw [ha.out]; exact putSel_upk 0 hb_ rfl rfl rfl), ak, ae, ao, aa, ah, af, ag, ab, ac, fun h0_ => absurd ((hoff 42 (by kernel_rfl)).symm.trans h0_) (by decide), an⟩
    refine steps_cons ?_ ?_
    ·rintro b a w' ⟨aj, m41_, ha, ak, ae, ao, aa, ah, af, ag, ab, ac, ai, an⟩ hb_ hon hoff
     refine ⟨_, rfl, fun K hK => ?_⟩
     have e37 : a.tmps[37]? = some (.pointer (some ad)) := by rw [ha]; exact putSel_on (e := (1, 37, .pointer (some ad))) 0 rfl rfl (hon 1 (by kernel_rfl)) rfl
     replace ha := Aside0.mk ha
     have al := Aside0.mk ae
     have HB := Aside0.mk ao
     refine value_ (w1 := w') (v := .pointer (some ⟨ad.block, ad.off + 1, none⟩)) (by rfl) rfl ?_ ?_
     ·go_simp
      (try simp only [i64_w])
      try rfl
     refine hK.out _ _ ⟨aj, m41_, (by rw [ha.out]; exact putSel_upk 1 hb_ rfl rfl rfl), ak, ae, ao, aa, ah, af, ag, ab, ac, fun h0_ => absurd ((hoff 42 (by kernel_rfl)).symm.trans h0_) (by decide), an⟩
    refine steps_cons ?_ ?_
    ·rintro b a w' ⟨aj, m41_, ha, ak, ae, ao, aa, ah, af, ag, ab, ac, ai, an⟩ hb_ hon hoff
     refine ⟨_, rfl, fun K hK => ?_⟩
     have e38 : a.tmps[38]? = some (.pointer (some ⟨ad.block, ad.off + 1, none⟩)) := by rw [ha]; exact putSel_on (e := (2, 38, .pointer (some ⟨ad.block, ad.off + 1, none⟩))) 1 rfl rfl (hon 2 (by kernel_rfl)) rfl
     replace ha := Aside0.mk ha
     have al := Aside0.mk ae
     have HB := Aside0.mk ao
     obtain ⟨ad194_z, e194_z, hx194_0_z, hx194_1_z, hx194_2_z⟩ := at_T57 (vc ak aa) 0 (of_eq_true p194) (of_eq_true q194)
     cases e194_z
     have hs0_ : w'.cell? ad = some (.int .i64 ((rd_T57 t184 0).f0)) := hq hx194_0_z
     have hs1_ : w'.cell? ⟨ad.block, ad.off + 1, none⟩ = some (.int .u64 ((rd_T57 t184 0).f1)) := hq hx194_1_z
     have hs2_ : w'.cell? ⟨ad.block, ad.off + 2, none⟩ = some (.string ((rd_T57 t184 0).f2)) := hq hx194_2_z
     refine value_ (w1 := w') (v := .int .u64 ((rd_T57 t184 0).f1)) (by rfl) rfl ?_ ?_
     ·go_simp
      (try simp only [i64_w])
      try rfl
     refine hK.out _ _ ⟨aj, m41_, (by rw [ha.out]; exact putSel_upk 2 hb_ rfl rfl rfl), ak, ae, ao, aa, ah, af, ag, ab, ac, fun h0_ => absurd ((hoff 42 (by kernel_rfl)).symm.trans h0_) (by decide), an⟩
    refine steps_cons ?_ ?_
    ·rintro b a w' ⟨aj, m41_, ha, ak, ae, ao, aa, ah, af, ag, ab, ac, ai, an⟩ hb_ hon hoff
     refine ⟨_, rfl, fun K hK => ?_⟩
     have e39 : a.tmps[39]? = some (.int .u64 ((rd_T57 t184 0).f1)) := by rw [ha]; exact putSel_on (e := (3, 39, .int .u64 ((rd_T57 t184 0).f1))) 2 rfl rfl (hon 3 (by kernel_rfl)) rfl
     replace ha := Aside0.mk ha
     have al := Aside0.mk ae
     have HB := Aside0.mk ao
     refine value_ (w1 := w') (v := .int .i64 (wrap64 ((rd_T57 t184 0).f1))) (by rfl) rfl ?_ ?_
     ·go_simp
      (try simp only [i64_w])
      try rfl
     refine hK.out _ _ ⟨aj, m41_, (by rw [ha.out]; exact putSel_upk 3 hb_ rfl rfl rfl), ak, ae, ao, aa, ah, af, ag, ab, ac, fun h0_ => absurd ((hoff 42 (by kernel_rfl)).symm.trans h0_) (by decide), an⟩
    refine steps_cons ?_ ?_
    ·rintro b a w' ⟨aj, m41_, ha, ak, ae, ao, aa, ah, af, ag, ab, ac, ai, an⟩ hb_ hon hoff
     refine ⟨_, rfl, fun K hK => ?_⟩
     have e41 : a.tmps[41]? = some (.slice (some ad) t184.length a4) := by rw [ha]; exact (putSel_off rfl).trans rfl
     replace ha := Aside0.mk ha
     have al := Aside0.mk ae
     have HB := Aside0.mk ao
     refine value_ (w1 := w') (v := .pointer (some (ad.add 3))) (by rfl) rfl ?_ ?_
     ·go_simp
      (try simp only [i64_w])
      try rfl
     refine hK.out _ _ ⟨aj, m41_, (by rw [ha.out]; exact putSel_upk 4 hb_ rfl rfl rfl), ak, ae, ao, aa, ah, af, ag, ab, ac, fun h0_ => absurd ((hoff 42 (by kernel_rfl)).symm.trans h0_) (by decide), an⟩
    refine steps_cons ?_ ?_
    ·rintro b a w' ⟨aj, m41_, ha, ak, ae, ao, aa, ah, af, ag, ab, ac, ai, an⟩ hb_ hon hoff
     refine ⟨_, rfl, fun K hK => ?_⟩
     have e42 : a.tmps[42]? = some (.pointer (some (ad.add 3))) := by rw [ha]; exact putSel_on (e := (6, 42, .pointer (some (ad.add 3)))) 4 rfl rfl (hon 6 (by kernel_rfl)) rfl
     replace ha := Aside0.mk ha
     have al := Aside0.mk ae
     have HB := Aside0.mk ao
     refine value_ (w1 := w') (v := .pointer (some ⟨(ad.add 3).block, (ad.add 3).off + 2, none⟩)) (by rfl) rfl ?_ ?_
     ·go_simp
      (try simp only [i64_w])
      try rfl
     refine hK.out _ _ ⟨aj, m41_, (by rw [ha.out]; exact putSel_upk 5 hb_ rfl rfl rfl), ak, ae, ao, aa, ah, af, ag, ab, ac, fun h0_ => absurd ((hoff 42 (by kernel_rfl)).symm.trans h0_) (by decide), an⟩
    refine steps_cons ?_ ?_
    ·rintro b a w' ⟨aj, m41_, ha, ak, ae, ao, aa, ah, af, ag, ab, ac, ai, an⟩ hb_ hon hoff
     refine ⟨_, rfl, fun K hK => ?_⟩
     have e43 : a.tmps[43]? = some (.pointer (some ⟨(ad.add 3).block, (ad.add 3).off + 2, none⟩)) := by rw [ha]; exact putSel_on (e := (7, 43, .pointer (some ⟨(ad.add 3).block, (ad.add 3).off + 2, none⟩))) 5 rfl rfl (hon 7 (by kernel_rfl)) rfl
     replace ha := Aside0.mk ha
     have al := Aside0.mk ae
     have HB := Aside0.mk ao
     obtain ⟨ad195_z, e195_z, hx195_0_z, hx195_1_z, hx195_2_z⟩ := at_T57 (vc ak aa) 1 (of_eq_true p195) (of_eq_true q195)
     cases e195_z
     have hs3_ : w'.cell? ⟨ad.block, ad.off + 3, none⟩ = some (.int .i64 ((rd_T57 t184 1).f0)) := hq hx195_0_z
     have hs4_ : w'.cell? ⟨ad.block, ad.off + 3 + 1, none⟩ = some (.int .u64 ((rd_T57 t184 1).f1)) := hq hx195_1_z
     have hs5_ : w'.cell? ⟨ad.block, ad.off + 3 + 2, none⟩ = some (.string ((rd_T57 t184 1).f2)) := hq hx195_2_z
     refine value_ (w1 := w') (v := .string ((rd_T57 t184 1).f2)) (by rfl) rfl ?_ ?_
     ·go_simp
      (try simp only [i64_w])
      try rfl
     refine hK.out _ _ ⟨aj, m41_, (by rw [ha.out]; exact putSel_upk 6 hb_ rfl rfl rfl), ak, ae, ao, aa, ah, af, ag, ab, ac, fun h0_ => absurd ((hoff 42 (by kernel_rfl)).symm.trans h0_) (by decide), an⟩
    refine steps_cons ?_ ?_
    ·rintro b a w' ⟨aj, m41_, ha, ak, ae, ao, aa, ah, af, ag, ab, ac, ai, an⟩ hb_ hon hoff
     refine ⟨_, rfl, fun K hK => ?_⟩
     have e45 : a.tmps[45]? = some (.slice (some ad) t184.length a4) := by rw [ha]; exact (putSel_off rfl).trans rfl
     replace ha := Aside0.mk ha
     have al := Aside0.mk ae
     have HB := Aside0.mk ao
     refine value_ (w1 := w') (v := .pointer (some (ad.add 6))) (by rfl) rfl ?_ ?_
     ·go_simp
      (try simp only [i64_w])
      try rfl
     refine hK.out _ _ ⟨aj, m41_, (by rw [ha.out]; exact putSel_upk 7 hb_ rfl rfl rfl), ak, ae, ao, aa, ah, af, ag, ab, ac, fun h0_ => absurd ((hoff 42 (by kernel_rfl)).symm.trans h0_) (by decide), an⟩
    refine steps_cons ?_ ?_
    ·rintro b a w' ⟨aj, m41_, ha, ak, ae, ao, aa, ah, af, ag, ab, ac, ai, an⟩ hb_ hon hoff
     refine ⟨_, rfl, fun K hK => ?_⟩
     have e46 : a.tmps[46]? = some (.pointer (some (ad.add 6))) := by rw [ha]; exact putSel_on (e := (10, 46, .pointer (some (ad.add 6)))) 7 rfl rfl (hon 10 (by kernel_rfl)) rfl
     replace ha := Aside0.mk ha
     have al := Aside0.mk ae
     have HB := Aside0.mk ao
     refine value_ (w1 := w') (v := .pointer (some ⟨(ad.add 6).block, (ad.add 6).off + 2, none⟩)) (by rfl) rfl ?_ ?_
     ·go_simp
      (try simp only [i64_w])
      try rfl
     refine hK.out _ _ ⟨aj, m41_, (by rw [ha.out]; exact putSel_upk 8 hb_ rfl rfl rfl), ak, ae, ao, aa, ah, af, ag, ab, ac, fun h0_ => absurd ((hoff 42 (by kernel_rfl)).symm.trans h0_) (by decide), an⟩
    refine steps_cons ?_ ?_
    ·rintro b a w' ⟨aj, m41_, ha, ak, ae, ao, aa, ah, af, ag, ab, ac, ai, an⟩ hb_ hon hoff
     refine ⟨_, rfl, fun K hK => ?_⟩
     have e47 : a.tmps[47]? = some (.pointer (some ⟨(ad.add 6).block, (ad.add 6).off + 2, none⟩)) := by rw [ha]; exact putSel_on (e := (11, 47, .pointer (some ⟨(ad.add 6).block, (ad.add 6).off + 2, none⟩))) 8 rfl rfl (hon 11 (by kernel_rfl)) rfl
     replace ha := Aside0.mk ha
     have al := Aside0.mk ae
     have HB := Aside0.mk ao
     obtain ⟨ad196_z, e196_z, hx196_0_z, hx196_1_z, hx196_2_z⟩ := at_T57 (vc ak aa) 2 (of_eq_true p196) (of_eq_true q196)
     cases e196_z
     have hs6_ : w'.cell? ⟨ad.block, ad.off + 6, none⟩ = some (.int .i64 ((rd_T57 t184 2).f0)) := hq hx196_0_z
     have hs7_ : w'.cell? ⟨ad.block, ad.off + 6 + 1, none⟩ = some (.int .u64 ((rd_T57 t184 2).f1)) := hq hx196_1_z
     have hs8_ : w'.cell? ⟨ad.block, ad.off + 6 + 2, none⟩ = some (.string ((rd_T57 t184 2).f2)) := hq hx196_2_z
     refine value_ (w1 := w') (v := .string ((rd_T57 t184 2).f2)) (by rfl) rfl ?_ ?_
     ·go_simp
      (try simp only [i64_w])
      try rfl
     refine hK.out _ _ ⟨aj, m41_, (by rw [ha.out]; exact putSel_upk 9 hb_ rfl rfl rfl), ak, ae, ao, aa, ah, af, ag, ab, ac, fun h0_ => absurd ((hoff 42 (by kernel_rfl)).symm.trans h0_) (by decide), an⟩
    refine steps_cons ?_ ?_
    ·rintro b a w' ⟨aj, m41_, ha, ak, ae, ao, aa, ah, af, ag, ab, ac, ai, an⟩ hb_ hon hoff
     refine ⟨_, rfl, fun K hK => ?_⟩
     have e49 : a.tmps[49]? = some (.slice (some ad) t184.length a4) := by rw [ha]; exact (putSel_off rfl).trans rfl
     replace ha := Aside0.mk ha
     have al := Aside0.mk ae
     have HB := Aside0.mk ao
     refine value_ (w1 := w') (v := .pointer (some (ad.add 9))) (by rfl) rfl ?_ ?_
     ·go_simp
      (try simp only [i64_w])
      try rfl
     refine hK.out _ _ ⟨aj, m41_, (by rw [ha.out]; exact putSel_upk 10 hb_ rfl rfl rfl), ak, ae, ao, aa, ah, af, ag, ab, ac, fun h0_ => absurd ((hoff 42 (by kernel_rfl)).symm.trans h0_) (by decide), an⟩
    refine steps_cons ?_ ?_
    ·rintro b a w' ⟨aj, m41_, ha, ak, ae, ao, aa, ah, af, ag, ab, ac, ai, an⟩ hb_ hon hoff
     refine ⟨_, rfl, fun K hK => ?_⟩
     have e50 : a.tmps[50]? = some (.pointer (some (ad.add 9))) := by rw [ha]; exact putSel_on (e := (14, 50, .pointer (some (ad.add 9)))) 10 rfl rfl (hon 14 (by kernel_rfl)) rfl
     replace ha := Aside0.mk ha
     have al := Aside0.mk ae
     have HB := Aside0.mk ao
     refine value_ (w1 := w') (v := .pointer (some ⟨(ad.add 9).block, (ad.add 9).off + 1, none⟩)) (by rfl) rfl ?_ ?_
     ·go_simp
      (try simp only [i64_w])
      try rfl
     refine hK.out _ _ ⟨aj, m41_, (by rw [ha.out]; exact putSel_upk 11 hb_ rfl rfl rfl), ak, ae, ao, aa, ah, af, ag, ab, ac, fun h0_ => absurd ((hoff 42 (by kernel_rfl)).symm.trans h0_) (by decide), an⟩
    refine steps_cons ?_ ?_
    ·rintro b a w' ⟨aj, m41_, ha, ak, ae, ao, aa, ah, af, ag, ab, ac, ai, an⟩ hb_ hon hoff
     refine ⟨_, rfl, fun K hK => ?_⟩
     have e51 : a.tmps[51]? = some (.pointer (some ⟨(ad.add 9).block, (ad.add 9).off + 1, none⟩)) := by rw [ha]; exact putSel_on (e := (15, 51, .pointer (some ⟨(ad.add 9).block, (ad.add 9).off + 1, none⟩))) 11 rfl rfl (hon 15 (by kernel_rfl)) rfl
     replace ha := Aside0.mk ha
     have al := Aside0.mk ae
     have HB := Aside0.mk ao
     obtain ⟨ad197_z, e197_z, hx197_0_z, hx197_1_z, hx197_2_z⟩ := at_T57 (vc ak aa) 3 (of_eq_true p197) (of_eq_true q197)
     cases e197_z
     have hs9_ : w'.cell? ⟨ad.block, ad.off + 9, none⟩ = some (.int .i64 ((rd_T57 t184 3).f0)) := hq hx197_0_z
     have hs10_ : w'.cell? ⟨ad.block, ad.off + 9 + 1, none⟩ = some (.int .u64 ((rd_T57 t184 3).f1)) := hq hx197_1_z
     have hs11_ : w'.cell? ⟨ad.block, ad.off + 9 + 2, none⟩ = some (.string ((rd_T57 t184 3).f2)) := hq hx197_2_z
     refine value_ (w1 := w') (v := .int .u64 ((rd_T57 t184 3).f1)) (by rfl) rfl ?_ ?_
     ·go_simp
      (try simp only [i64_w])
      try rfl
     refine hK.out _ _ ⟨aj, m41_, (by rw [ha.out]; exact putSel_upk 12 hb_ rfl rfl rfl), ak, ae, ao, aa, ah, af, ag, ab, ac, fun h0_ => absurd ((hoff 42 (by kernel_rfl)).symm.trans h0_) (by decide), an⟩
    refine steps_cons ?_ ?_
    ·rintro b a w' ⟨aj, m41_, ha, ak, ae, ao, aa, ah, af, ag, ab, ac, ai, an⟩ hb_ hon hoff
     refine ⟨_, rfl, fun K hK => ?_⟩
     have e52 : a.tmps[52]? = some (.int .u64 ((rd_T57 t184 3).f1)) := by rw [ha]; exact putSel_on (e := (16, 52, .int .u64 ((rd_T57 t184 3).f1))) 12 rfl rfl (hon 16 (by kernel_rfl)) rfl
     replace ha := Aside0.mk ha
     have al := Aside0.mk ae
     have HB := Aside0.mk ao
     refine value_ (w1 := w') (v := .int .i64 (wrap64 ((rd_T57 t184 3).f1))) (by rfl) rfl ?_ ?_
     ·go_simp
      (try simp only [i64_w])
      try rfl
     refine hK.out _ _ ⟨aj, m41_, (by rw [ha.out]; exact putSel_upk 13 hb_ rfl rfl rfl), ak, ae, ao, aa, ah, af, ag, ab, ac, fun h0_ => absurd ((hoff 42 (by kernel_rfl)).symm.trans h0_) (by decide), an⟩
    refine steps_cons ?_ ?_
    ·rintro b a w' ⟨aj, m41_, ha, ak, ae, ao, aa, ah, af, ag, ab, ac, ai, an⟩ hb_ hon hoff
     refine ⟨_, rfl, fun K hK => ?_⟩
     have e54 : a.tmps[54]? = some (.slice (some ad) t184.length a4) := by rw [ha]; exact (putSel_off rfl).trans rfl
     replace ha := Aside0.mk ha
     have al := Aside0.mk ae
     have HB := Aside0.mk ao
     refine value_ (w1 := w') (v := .pointer (some (ad.add 12))) (by rfl) rfl ?_ ?_
     ·go_simp
      (try simp only [i64_w])
      try rfl
     refine hK.out _ _ ⟨aj, m41_, (by rw [ha.out]; exact putSel_upk 14 hb_ rfl rfl rfl), ak, ae, ao, aa, ah, af, ag, ab, ac, fun h0_ => absurd ((hoff 42 (by kernel_rfl)).symm.trans h0_) (by decide), an⟩
    refine steps_cons ?_ ?_
    ·rintro b a w' ⟨aj, m41_, ha, ak, ae, ao, aa, ah, af, ag, ab, ac, ai, an⟩ hb_ hon hoff
     refine ⟨_, rfl, fun K hK => ?_⟩
     have e55 : a.tmps[55]? = some (.pointer (some (ad.add 12))) := by rw [ha]; exact putSel_on (e := (19, 55, .pointer (some (ad.add 12)))) 14 rfl rfl (hon 19 (by kernel_rfl)) rfl
     replace ha := Aside0.mk ha
     have al := Aside0.mk ae
     have HB := Aside0.mk ao
     refine value_ (w1 := w') (v := .pointer (some ⟨(ad.add 12).block, (ad.add 12).off + 2, none⟩)) (by rfl) rfl ?_ ?_
     ·go_simp
      (try simp only [i64_w])
      try rfl
     refine hK.out _ _ ⟨aj, m41_, (by rw [ha.out]; exact putSel_upk 15 hb_ rfl rfl rfl), ak, ae, ao, aa, ah, af, ag, ab, ac, fun h0_ => absurd ((hoff 42 (by kernel_rfl)).symm.trans h0_) (by decide), an⟩
    refine steps_cons ?_ ?_
    ·rintro b a w' ⟨aj, m41_, ha, ak, ae, ao, aa, ah, af, ag, ab, ac, ai, an⟩ hb_ hon hoff
     refine ⟨_, rfl, fun K hK => ?_⟩
     have e56 : a.tmps[56]? = some (.pointer (some ⟨(ad.add 12).block, (ad.add 12).off + 2, none⟩)) := by rw [ha]; exact putSel_on (e := (20, 56, .pointer (some ⟨(ad.add 12).block, (ad.add 12).off + 2, none⟩))) 15 rfl rfl (hon 20 (by kernel_rfl)) rfl
     replace ha := Aside0.mk ha
     have al := Aside0.mk ae
     have HB := Aside0.mk ao
     obtain ⟨ad198_z, e198_z, hx198_0_z, hx198_1_z, hx198_2_z⟩ := at_T57 (vc ak aa) 4 (of_eq_true p198) (of_eq_true q198)
     cases e198_z
     have hs12_ : w'.cell? ⟨ad.block, ad.off + 12, none⟩ = some (.int .i64 ((rd_T57 t184 4).f0)) := hq hx198_0_z
     have hs13_ : w'.cell? ⟨ad.block, ad.off + 12 + 1, none⟩ = some (.int .u64 ((rd_T57 t184 4).f1)) := hq hx198_1_z
     have hs14_ : w'.cell? ⟨ad.block, ad.off + 12 + 2, none⟩ = some (.string ((rd_T57 t184 4).f2)) := hq hx198_2_z
     refine value_ (w1 := w') (v := .string ((rd_T57 t184 4).f2)) (by rfl) rfl ?_ ?_
     ·go_simp
      (try simp only [i64_w])
      try rfl
     refine hK.out _ _ ⟨aj, m41_, (by rw [ha.out]; exact putSel_upk 16 hb_ rfl rfl rfl), ak, ae, ao, aa, ah, af, ag, ab, ac, fun h0_ => absurd ((hoff 42 (by kernel_rfl)).symm.trans h0_) (by decide), an⟩
    refine steps_cons ?_ ?_
    ·rintro b a w' ⟨aj, m41_, ha, ak, ae, ao, aa, ah, af, ag, ab, ac, ai, an⟩ hb_ hon hoff
     refine ⟨_, rfl, fun K hK => ?_⟩
     have e58 : a.tmps[58]? = some (.slice (some ad) t184.length a4) := by rw [ha]; exact (putSel_off rfl).trans rfl
     replace ha := Aside0.mk ha
     have al := Aside0.mk ae
     have HB := Aside0.mk ao
     refine value_ (w1 := w') (v := .pointer (some (ad.add 15))) (by rfl) rfl ?_ ?_
     ·go_simp
      (try simp only [i64_w])
      try rfl
     refine hK.out _ _ ⟨aj, m41_, (by rw [ha.out]; exact putSel_upk 17 hb_ rfl rfl rfl), ak, ae, ao, aa, ah, af, ag, ab, ac, fun h0_ => absurd ((hoff 42 (by kernel_rfl)).symm.trans h0_) (by decide), an⟩
    refine steps_cons ?_ ?_
    ·rintro b a w' ⟨aj, m41_, ha, ak, ae, ao, aa, ah, af, ag, ab, ac, ai, an⟩ hb_ hon hoff
     refine ⟨_, rfl, fun K hK => ?_⟩
     have e59 : a.tmps[59]? = some (.pointer (some (ad.add 15))) := by rw [ha]; exact putSel_on (e := (23, 59, .pointer (some (ad.add 15)))) 17 rfl rfl (hon 23 (by kernel_rfl)) rfl
     replace ha := Aside0.mk ha
     have al := Aside0.mk ae
     have HB := Aside0.mk ao
     refine value_ (w1 := w') (v := .pointer (some ⟨(ad.add 15).block, (ad.add 15).off + 2, none⟩)) (by rfl) rfl ?_ ?_
     ·go_simp
      (try simp only [i64_w])
      try rfl
     refine hK.out _ _ ⟨aj, m41_, (by rw [ha.out]; exact putSel_upk 18 hb_ rfl rfl rfl), ak, ae, ao, aa, ah, af, ag, ab, ac, fun h0_ => absurd ((hoff 42 (by kernel_rfl)).symm.trans h0_) (by decide), an⟩
    refine steps_cons ?_ ?_
    ·rintro b a w' ⟨aj, m41_, ha, ak, ae, ao, aa, ah, af, ag, ab, ac, ai, an⟩ hb_ hon hoff
     refine ⟨_, rfl, fun K hK => ?_⟩
     have e60 : a.tmps[60]? = some (.pointer (some ⟨(ad.add 15).block, (ad.add 15).off + 2, none⟩)) := by rw [ha]; exact putSel_on (e := (24, 60, .pointer (some ⟨(ad.add 15).block, (ad.add 15).off + 2, none⟩))) 18 rfl rfl (hon 24 (by kernel_rfl)) rfl
     replace ha := Aside0.mk ha
     have al := Aside0.mk ae
     have HB := Aside0.mk ao
     obtain ⟨ad199_z, e199_z, hx199_0_z, hx199_1_z, hx199_2_z⟩ := at_T57 (vc ak aa) 5 (of_eq_true p199) (of_eq_true q199)
     cases e199_z
     have hs15_ : w'.cell? ⟨ad.block, ad.off + 15, none⟩ = some (.int .i64 ((rd_T57 t184 5).f0)) := hq hx199_0_z
     have hs16_ : w'.cell? ⟨ad.block, ad.off + 15 + 1, none⟩ = some (.int .u64 ((rd_T57 t184 5).f1)) := hq hx199_1_z
     have hs17_ : w'.cell? ⟨ad.block, ad.off + 15 + 2, none⟩ = some (.string ((rd_T57 t184 5).f2)) := hq hx199_2_z
     refine value_ (w1 := w') (v := .string ((rd_T57 t184 5).f2)) (by rfl) rfl ?_ ?_
     ·go_simp
      (try simp only [i64_w])
      try rfl
     refine hK.out _ _ ⟨aj, m41_, (by rw [ha.out]; exact putSel_upk 19 hb_ rfl rfl rfl), ak, ae, ao, aa, ah, af, ag, ab, ac, fun h0_ => absurd ((hoff 42 (by kernel_rfl)).symm.trans h0_) (by decide), an⟩
    refine steps_cons ?_ ?_
    ·rintro b a w' ⟨aj, m41_, ha, ak, ae, ao, aa, ah, af, ag, ab, ac, ai, an⟩ hb_ hon hoff
     refine ⟨_, rfl, fun K hK => ?_⟩
     have e62 : a.tmps[62]? = some (.slice (some ad) t184.length a4) := by rw [ha]; exact (putSel_off rfl).trans rfl
     replace ha := Aside0.mk ha
     have al := Aside0.mk ae
     have HB := Aside0.mk ao
     refine value_ (w1 := w') (v := .pointer (some (ad.add 18))) (by rfl) rfl ?_ ?_
     ·go_simp
      (try simp only [i64_w])
      try rfl
     refine hK.out _ _ ⟨aj, m41_, (by rw [ha.out]; exact putSel_upk 20 hb_ rfl rfl rfl), ak, ae, ao, aa, ah, af, ag, ab, ac, fun h0_ => absurd ((hoff 42 (by kernel_rfl)).symm.trans h0_) (by decide), an⟩
    refine steps_cons ?_ ?_
    ·rintro b a w' ⟨aj, m41_, ha, ak, ae, ao, aa, ah, af, ag, ab, ac, ai, an⟩ hb_ hon hoff
     refine ⟨_, rfl, fun K hK => ?_⟩
     have e63 : a.tmps[63]? = some (.pointer (some (ad.add 18))) := by rw [ha]; exact putSel_on (e := (27, 63, .pointer (some (ad.add 18)))) 20 rfl rfl (hon 27 (by kernel_rfl)) rfl
     replace ha := Aside0.mk ha
     have al := Aside0.mk ae
     have HB := Aside0.mk ao
     obtain ⟨ad200_z, e200_z, hx200_0_z, hx200_1_z, hx200_2_z⟩ := at_T57 (vc ak aa) 6 (of_eq_true p200) (of_eq_true q200)
     cases e200_z
     have hs18_ : w'.cell? ⟨ad.block, ad.off + 18, none⟩ = some (.int .i64 ((rd_T57 t184 6).f0)) := hq hx200_0_z
     have hs19_ : w'.cell? ⟨ad.block, ad.off + 18 + 1, none⟩ = some (.int .u64 ((rd_T57 t184 6).f1)) := hq hx200_1_z
     have hs20_ : w'.cell? ⟨ad.block, ad.off + 18 + 2, none⟩ = some (.string ((rd_T57 t184 6).f2)) := hq hx200_2_z
     refine value_ (w1 := w') (v := .agg #[.int .i64 ((rd_T57 t184 6).f0), .int .u64 ((rd_T57 t184 6).f1), .string ((rd_T57 t184 6).f2)]) (by rfl) rfl ?_ ?_
     ·go_simp
      (try simp only [i64_w])
      try rfl
     refine hK.out _ _ ⟨aj, m41_, (by rw [ha.out]; exact putSel_upk 21 hb_ rfl rfl rfl), ak, ae, ao, aa, ah, af, ag, ab, ac, fun h0_ => absurd ((hoff 42 (by kernel_rfl)).symm.trans h0_) (by decide), an⟩
    refine steps_cons ?_ ?_
    ·rintro b a w' ⟨aj, m41_, ha, ak, ae, ao, aa, ah, af, ag, ab, ac, ai, an⟩ hb_ hon hoff
     refine ⟨_, rfl, fun K hK => ?_⟩
     have e64 : a.tmps[64]? = some (.agg #[.int .i64 ((rd_T57 t184 6).f0), .int .u64 ((rd_T57 t184 6).f1), .string ((rd_T57 t184 6).f2)]) := by rw [ha]; exact putSel_on (e := (28, 64, .agg #[.int .i64 ((rd_T57 t184 6).f0), .int .u64 ((rd_T57 t184 6).f1), .string ((rd_T57 t184 6).f2)])) 21 rfl rfl (hon 28 (by kernel_rfl)) rfl
     replace ha := Aside0.mk ha
     have al := Aside0.mk ae
     have HB := Aside0.mk ao
     refine goes_ Tryd.func40 (by kernel_rfl) rfl #[.agg #[.int .i64 ((rd_T57 t184 6).f0), .int .u64 ((rd_T57 t184 6).f1), .string ((rd_T57 t184 6).f2)]] (by rfl) rfl rfl (by first | (simp only [List.map_toArray, List.map_cons, List.map_nil, Act.eval, Array.getD_eq_getD_getElem?, Option.getD_some, e64]; done) | (simp only [List.map_toArray, List.map_cons, List.map_nil, Act.eval, Array.getD_eq_getD_getElem?, Option.getD_some, e64]; rfl)) ?_
     with_reducible refine (command_less.calls ((rd_T57 t184 6).f0) ((rd_T57 t184 6).f1) ((rd_T57 t184 6).f2) t201 _ A33.out).mono ?_
     rintro e w40 ⟨rfl, hb⟩
     refine ⟨_, rfl, ?_⟩
     have n1_ := Aside0.mk (nb al.out hb)
     have n2_ := Aside0.mk (below_step bw hb)
     have z_HO_4 := fun (h0_ : b 41 = false) => (show Kd.V k57 57 w40 w.heap.size (fun k_ => k_ ≠ av) (.slice (some ad) t184.length a4) t184 from by first | exact (Kd.V_below (by (with_reducible repeat (first | apply Kd.V_alloc | apply Kd.V_drewN | apply Kd.V_drew)); exact (ak h0_)) hb) | exact Kd.V_mono (Kd.V_below (by (with_reducible repeat (first | apply Kd.V_alloc | apply Kd.V_drewN | apply Kd.V_drew)); exact (ak h0_)) hb) (fun _ h_ => by first | trivial | exact h_ | exact h_.1))
     have z_HO_4_e41 := fun (h0_ : b 41 = true) => (show Kd.V k57 57 w40 w.heap.size (fun k_ => k_ ≠ av ∧ k_ ≠ aj) (.slice (some ad) t184.length a4) t184 from by first | exact (Kd.V_below (by (with_reducible repeat (first | apply Kd.V_alloc | apply Kd.V_drewN | apply Kd.V_drew)); exact (aa h0_)) hb) | exact Kd.V_mono (Kd.V_below (by (with_reducible repeat (first | apply Kd.V_alloc | apply Kd.V_drewN | apply Kd.V_drew)); exact (aa h0_)) hb) (fun _ h_ => by first | trivial | exact h_ | exact h_.1))
     have z_BK204 := fun (h0_ : b 41 = true) (h1_ : b 42 = false) => (show w40.heap[aj]? = some (.cells #[.int .i64 0, .string (⟨#[]⟩ : ByteArray), .string (⟨#[]⟩ : ByteArray), .int .i64 0, .string (⟨#[]⟩ : ByteArray), .string (⟨#[]⟩ : ByteArray), .int .i64 0, .int .i64 0, .int .i64 0] 23 (0, 0)) from by first | exact (blk_below (g := aj) (o := .cells #[.int .i64 0, .string (⟨#[]⟩ : ByteArray), .string (⟨#[]⟩ : ByteArray), .int .i64 0, .string (⟨#[]⟩ : ByteArray), .string (⟨#[]⟩ : ByteArray), .int .i64 0, .int .i64 0, .int .i64 0] 23 (0, 0)) (by (with_reducible repeat (first | refine blk_drewN ?_ _ | refine blk_drew ?_ | refine blk_alloc ?_ _)); exact (ah h0_ h1_)) hb))
     clear al
     clear HB
     have al := n1_
     have HB := n2_
     clear n1_ n2_
     (try clear hb)
     (try clear hb2)
     (try clear hk)
     (try clear hi)
     refine hK.out _ _ ⟨aj, m41_, (by rw [ha.out]; exact putSel_upk 22 hb_ rfl rfl rfl), z_HO_4, (bk al.out), bw, z_HO_4_e41, z_BK204, af, ag, ab, ac, fun h0_ => absurd ((hoff 42 (by kernel_rfl)).symm.trans h0_) (by decide), an⟩
    refine steps_cons ?_ ?_
    ·rintro b a w' ⟨aj, m41_, ha, ak, ae, ao, aa, ah, af, ag, ab, ac, ai, an⟩ hb_ hon hoff
     refine ⟨_, rfl, fun K hK => ?_⟩
     have e66 : a.tmps[66]? = some (.slice (some ad) t184.length a4) := by rw [ha]; exact (putSel_off rfl).trans rfl
     replace ha := Aside0.mk ha
     have al := Aside0.mk ae
     have HB := Aside0.mk ao
     refine value_ (w1 := w') (v := .pointer (some (ad.add 21))) (by rfl) rfl ?_ ?_
     ·go_simp
      (try simp only [i64_w])
      try rfl
     refine hK.out _ _ ⟨aj, m41_, (by rw [ha.out]; exact putSel_upk 23 hb_ rfl rfl rfl), ak, ae, ao, aa, ah, af, ag, ab, ac, fun h0_ => absurd ((hoff 42 (by kernel_rfl)).symm.trans h0_) (by decide), an⟩
    refine steps_cons ?_ ?_
    ·rintro b a w' ⟨aj, m41_, ha, ak, ae, ao, aa, ah, af, ag, ab, ac, ai, an⟩ hb_ hon hoff
     refine ⟨_, rfl, fun K hK => ?_⟩
     have e67 : a.tmps[67]? = some (.pointer (some (ad.add 21))) := by rw [ha]; exact putSel_on (e := (31, 67, .pointer (some (ad.add 21)))) 23 rfl rfl (hon 31 (by kernel_rfl)) rfl
     replace ha := Aside0.mk ha
     have al := Aside0.mk ae
     have HB := Aside0.mk ao
     refine value_ (w1 := w') (v := .pointer (some ⟨(ad.add 21).block, (ad.add 21).off + 1, none⟩)) (by rfl) rfl ?_ ?_
     ·go_simp
      (try simp only [i64_w])
      try rfl
     refine hK.out _ _ ⟨aj, m41_, (by rw [ha.out]; exact putSel_upk 24 hb_ rfl rfl rfl), ak, ae, ao, aa, ah, af, ag, ab, ac, fun h0_ => absurd ((hoff 42 (by kernel_rfl)).symm.trans h0_) (by decide), an⟩
    refine steps_cons ?_ ?_
    ·rintro b a w' ⟨aj, m41_, ha, ak, ae, ao, aa, ah, af, ag, ab, ac, ai, an⟩ hb_ hon hoff
     refine ⟨_, rfl, fun K hK => ?_⟩
     have e68 : a.tmps[68]? = some (.pointer (some ⟨(ad.add 21).block, (ad.add 21).off + 1, none⟩)) := by rw [ha]; exact putSel_on (e := (32, 68, .pointer (some ⟨(ad.add 21).block, (ad.add 21).off + 1, none⟩))) 24 rfl rfl (hon 32 (by kernel_rfl)) rfl
     replace ha := Aside0.mk ha
     have al := Aside0.mk ae
     have HB := Aside0.mk ao
     obtain ⟨ad202_z, e202_z, hx202_0_z, hx202_1_z, hx202_2_z⟩ := at_T57 (vc ak aa) 7 (of_eq_true p202) (of_eq_true q202)
     cases e202_z
     have hs21_ : w'.cell? ⟨ad.block, ad.off + 21, none⟩ = some (.int .i64 ((rd_T57 t184 7).f0)) := hq hx202_0_z
     have hs22_ : w'.cell? ⟨ad.block, ad.off + 21 + 1, none⟩ = some (.int .u64 ((rd_T57 t184 7).f1)) := hq hx202_1_z
     have hs23_ : w'.cell? ⟨ad.block, ad.off + 21 + 2, none⟩ = some (.string ((rd_T57 t184 7).f2)) := hq hx202_2_z
     refine value_ (w1 := w') (v := .int .u64 ((rd_T57 t184 7).f1)) (by rfl) rfl ?_ ?_
     ·go_simp
      (try simp only [i64_w])
      try rfl
     refine hK.out _ _ ⟨aj, m41_, (by rw [ha.out]; exact putSel_upk 25 hb_ rfl rfl rfl), ak, ae, ao, aa, ah, af, ag, ab, ac, fun h0_ => absurd ((hoff 42 (by kernel_rfl)).symm.trans h0_) (by decide), an⟩
    refine steps_cons ?_ ?_
    ·rintro b a w' ⟨aj, m41_, ha, ak, ae, ao, aa, ah, af, ag, ab, ac, ai, an⟩ hb_ hon hoff
     refine ⟨_, rfl, fun K hK => ?_⟩
     have e69 : a.tmps[69]? = some (.int .u64 ((rd_T57 t184 7).f1)) := by rw [ha]; exact putSel_on (e := (33, 69, .int .u64 ((rd_T57 t184 7).f1))) 25 rfl rfl (hon 33 (by kernel_rfl)) rfl
     replace ha := Aside0.mk ha
     have al := Aside0.mk ae
     have HB := Aside0.mk ao
     refine value_ (w1 := w') (v := .int .i64 (wrap64 ((rd_T57 t184 7).f1))) (by rfl) rfl ?_ ?_
     ·go_simp
      (try simp only [i64_w])
      try rfl
     refine hK.out _ _ ⟨aj, m41_, (by rw [ha.out]; exact putSel_upk 26 hb_ rfl rfl rfl), ak, ae, ao, aa, ah, af, ag, ab, ac, fun h0_ => absurd ((hoff 42 (by kernel_rfl)).symm.trans h0_) (by decide), an⟩
    refine steps_cons ?_ ?_
    ·rintro b a w' ⟨aj, m41_, ha, ak, ae, ao, aa, ah, af, ag, ab, ac, ai, an⟩ hb_ hon hoff
     refine ⟨_, rfl, fun K hK => ?_⟩
     have e71 : a.tmps[71]? = some (.slice (some ad) t184.length a4) := by rw [ha]; exact (putSel_off rfl).trans rfl
     replace ha := Aside0.mk ha
     have al := Aside0.mk ae
     have HB := Aside0.mk ao
     refine value_ (w1 := w') (v := .pointer (some (ad.add 24))) (by rfl) rfl ?_ ?_
     ·go_simp
      (try simp only [i64_w])
      try rfl
     refine hK.out _ _ ⟨aj, m41_, (by rw [ha.out]; exact putSel_upk 27 hb_ rfl rfl rfl), ak, ae, ao, aa, ah, af, ag, ab, ac, fun h0_ => absurd ((hoff 42 (by kernel_rfl)).symm.trans h0_) (by decide), an⟩
    refine steps_cons ?_ ?_
    ·rintro b a w' ⟨aj, m41_, ha, ak, ae, ao, aa, ah, af, ag, ab, ac, ai, an⟩ hb_ hon hoff
     refine ⟨_, rfl, fun K hK => ?_⟩
     have e72 : a.tmps[72]? = some (.pointer (some (ad.add 24))) := by rw [ha]; exact putSel_on (e := (36, 72, .pointer (some (ad.add 24)))) 27 rfl rfl (hon 36 (by kernel_rfl)) rfl
     replace ha := Aside0.mk ha
     have al := Aside0.mk ae
     have HB := Aside0.mk ao
     refine value_ (w1 := w') (v := .pointer (some ⟨(ad.add 24).block, (ad.add 24).off + 1, none⟩)) (by rfl) rfl ?_ ?_
     ·go_simp
      (try simp only [i64_w])
      try rfl
     refine hK.out _ _ ⟨aj, m41_, (by rw [ha.out]; exact putSel_upk 28 hb_ rfl rfl rfl), ak, ae, ao, aa, ah, af, ag, ab, ac, fun h0_ => absurd ((hoff 42 (by kernel_rfl)).symm.trans h0_) (by decide), an⟩
    refine steps_cons ?_ ?_
    ·rintro b a w' ⟨aj, m41_, ha, ak, ae, ao, aa, ah, af, ag, ab, ac, ai, an⟩ hb_ hon hoff
     refine ⟨_, rfl, fun K hK => ?_⟩
     have e73 : a.tmps[73]? = some (.pointer (some ⟨(ad.add 24).block, (ad.add 24).off + 1, none⟩)) := by rw [ha]; exact putSel_on (e := (37, 73, .pointer (some ⟨(ad.add 24).block, (ad.add 24).off + 1, none⟩))) 28 rfl rfl (hon 37 (by kernel_rfl)) rfl
     replace ha := Aside0.mk ha
     have al := Aside0.mk ae
     have HB := Aside0.mk ao
     obtain ⟨ad203_z, e203_z, hx203_0_z, hx203_1_z, hx203_2_z⟩ := at_T57 (vc ak aa) 8 (of_eq_true p203) (of_eq_true q203)
     cases e203_z
     have hs24_ : w'.cell? ⟨ad.block, ad.off + 24, none⟩ = some (.int .i64 ((rd_T57 t184 8).f0)) := hq hx203_0_z
     have hs25_ : w'.cell? ⟨ad.block, ad.off + 24 + 1, none⟩ = some (.int .u64 ((rd_T57 t184 8).f1)) := hq hx203_1_z
     have hs26_ : w'.cell? ⟨ad.block, ad.off + 24 + 2, none⟩ = some (.string ((rd_T57 t184 8).f2)) := hq hx203_2_z
     refine value_ (w1 := w') (v := .int .u64 ((rd_T57 t184 8).f1)) (by rfl) rfl ?_ ?_
     ·go_simp
      (try simp only [i64_w])
      try rfl
     refine hK.out _ _ ⟨aj, m41_, (by rw [ha.out]; exact putSel_upk 29 hb_ rfl rfl rfl), ak, ae, ao, aa, ah, af, ag, ab, ac, fun h0_ => absurd ((hoff 42 (by kernel_rfl)).symm.trans h0_) (by decide), an⟩
    refine steps_cons ?_ ?_
    ·rintro b a w' ⟨aj, m41_, ha, ak, ae, ao, aa, ah, af, ag, ab, ac, ai, an⟩ hb_ hon hoff
     refine ⟨_, rfl, fun K hK => ?_⟩
     have e74 : a.tmps[74]? = some (.int .u64 ((rd_T57 t184 8).f1)) := by rw [ha]; exact putSel_on (e := (38, 74, .int .u64 ((rd_T57 t184 8).f1))) 29 rfl rfl (hon 38 (by kernel_rfl)) rfl
     replace ha := Aside0.mk ha
     have al := Aside0.mk ae
     have HB := Aside0.mk ao
     refine value_ (w1 := w') (v := .int .i64 (wrap64 ((rd_T57 t184 8).f1))) (by rfl) rfl ?_ ?_
     ·go_simp
      (try simp only [i64_w])
      try rfl
     refine hK.out _ _ ⟨aj, m41_, (by rw [ha.out]; exact putSel_upk 30 hb_ rfl rfl rfl), ak, ae, ao, aa, ah, af, ag, ab, ac, fun h0_ => absurd ((hoff 42 (by kernel_rfl)).symm.trans h0_) (by decide), an⟩
    refine steps_cons ?_ ?_
    ·rintro b a w' ⟨aj, m41_, ha, ak, ae, ao, aa, ah, af, ag, ab, ac, ai, an⟩ hb_ hon hoff
     refine ⟨_, rfl, fun K hK => ?_⟩
     have e40 : a.tmps[40]? = some (.int .i64 (wrap64 ((rd_T57 t184 0).f1))) := by rw [ha]; exact putSel_on (e := (4, 40, .int .i64 (wrap64 ((rd_T57 t184 0).f1)))) 3 rfl rfl (hon 4 (by kernel_rfl)) rfl
     have e44 : a.tmps[44]? = some (.string ((rd_T57 t184 1).f2)) := by rw [ha]; exact putSel_on (e := (8, 44, .string ((rd_T57 t184 1).f2))) 6 rfl rfl (hon 8 (by kernel_rfl)) rfl
     have e48 : a.tmps[48]? = some (.string ((rd_T57 t184 2).f2)) := by rw [ha]; exact putSel_on (e := (12, 48, .string ((rd_T57 t184 2).f2))) 9 rfl rfl (hon 12 (by kernel_rfl)) rfl
     have e53 : a.tmps[53]? = some (.int .i64 (wrap64 ((rd_T57 t184 3).f1))) := by rw [ha]; exact putSel_on (e := (17, 53, .int .i64 (wrap64 ((rd_T57 t184 3).f1)))) 13 rfl rfl (hon 17 (by kernel_rfl)) rfl
     have e57 : a.tmps[57]? = some (.string ((rd_T57 t184 4).f2)) := by rw [ha]; exact putSel_on (e := (21, 57, .string ((rd_T57 t184 4).f2))) 16 rfl rfl (hon 21 (by kernel_rfl)) rfl
     have e61 : a.tmps[61]? = some (.string ((rd_T57 t184 5).f2)) := by rw [ha]; exact putSel_on (e := (25, 61, .string ((rd_T57 t184 5).f2))) 19 rfl rfl (hon 25 (by kernel_rfl)) rfl
     have e65 : a.tmps[65]? = some (.int .i64 t201) := by rw [ha]; exact putSel_on (e := (29, 65, .int .i64 t201)) 22 rfl rfl (hon 29 (by kernel_rfl)) rfl
     have e70 : a.tmps[70]? = some (.int .i64 (wrap64 ((rd_T57 t184 7).f1))) := by rw [ha]; exact putSel_on (e := (34, 70, .int .i64 (wrap64 ((rd_T57 t184 7).f1)))) 26 rfl rfl (hon 34 (by kernel_rfl)) rfl
     have e75 : a.tmps[75]? = some (.int .i64 (wrap64 ((rd_T57 t184 8).f1))) := by rw [ha]; exact putSel_on (e := (39, 75, .int .i64 (wrap64 ((rd_T57 t184 8).f1)))) 30 rfl rfl (hon 39 (by kernel_rfl)) rfl
     replace ha := Aside0.mk ha
     have al := Aside0.mk ae
     have HB := Aside0.mk ao
     refine value_ (w1 := w') (v := .agg #[.int .i64 (wrap64 ((rd_T57 t184 0).f1)), .string ((rd_T57 t184 1).f2), .string ((rd_T57 t184 2).f2), .int .i64 (wrap64 ((rd_T57 t184 3).f1)), .string ((rd_T57 t184 4).f2), .string ((rd_T57 t184 5).f2), .int .i64 t201, .int .i64 (wrap64 ((rd_T57 t184 7).f1)), .int .i64 (wrap64 ((rd_T57 t184 8).f1))]) (by rfl) rfl ?_ ?_
     ·go_simp
      (try simp only [i64_w])
      try rfl
     refine hK.out _ _ ⟨aj, m41_, (by rw [ha.out]; exact putSel_upk 31 hb_ rfl rfl rfl), ak, ae, ao, aa, ah, af, ag, ab, ac, fun h0_ => absurd ((hoff 42 (by kernel_rfl)).symm.trans h0_) (by decide), an⟩
    refine steps_cons ?_ ?_
    ·rintro b a w' ⟨aj, m41_, ha, ak, ae, ao, aa, ah, af, ag, ab, ac, ai, an⟩ hb_ hon hoff
     refine ⟨_, rfl, fun K hK => ?_⟩
     replace ha := Aside0.mk ha
     have az := Aside0.mk (ak hb_)
     have al := Aside0.mk ae
     have HB := Aside0.mk ao
     refine box_step ?hg (N := 6) ?hd (cs := za1_) (t := 23) ?hr ?_; (case hd => rfl); (case hg => rfl); (case hr => first | (go_simp; done) | (go_simp; rfl))
     intro aj hg w40 hbox hb
     replace az := Aside0.mk (Kd.V_below (Kd.V_elderB (v_ az.out) aj (Nat.le_of_eq hg.symm)) hb)
     have au := Aside0.mk (hbox)
     have b5 := Aside0.mk ((g1 hg bw : w.heap.size ≤ aj))
     have b6 := Aside0.mk ((g1 hg bw : w.heap.size ≤ aj))
     replace HB := Aside0.mk (below_step bw hb)
     have ap := Aside0.mk ((n1 hg al.out : av ≠ aj))
     have aq := Aside0.mk ((n2 hg al.out : aj ≠ av))
     replace al := Aside0.mk (nb al.out hb)
     clear hb hbox hg
     refine hK.out _ _ ⟨aj, (.pointer (some ⟨aj, 0, none⟩)), (by rw [ha.out]; exact putSel_upk 32 hb_ rfl rfl rfl), fun h0_ => absurd ((up_self b 41).symm.trans h0_) (by decide), (bk al.out), bw, fun _ => (v_ az.out), fun _ _ => (bk au.out), fun _ => b5.out, fun _ => b6.out, fun _ => ap.out, fun _ => aq.out, fun h0_ => absurd ((hoff 42 (by kernel_rfl)).symm.trans h0_) (by decide), fun _ => rfl⟩
    refine steps_cons ?_ ?_
    ·rintro b a w' ⟨aj, m41_, ha, ak, ae, ao, aa, ah, af, ag, ab, ac, ai, an⟩ hb_ hon hoff
     refine ⟨_, rfl, fun K hK => ?_⟩
     have e6 : a.tmps[6]? = some (m41_) := by rw [ha]; exact putSel_on (e := (41, 6, m41_)) 32 rfl rfl (hon 41 (by kernel_rfl)) rfl
     rw [an (hon 41 (by kernel_rfl))] at e6
     have e76 : a.tmps[76]? = some (.agg #[.int .i64 (wrap64 ((rd_T57 t184 0).f1)), .string ((rd_T57 t184 1).f2), .string ((rd_T57 t184 2).f2), .int .i64 (wrap64 ((rd_T57 t184 3).f1)), .string ((rd_T57 t184 4).f2), .string ((rd_T57 t184 5).f2), .int .i64 t201, .int .i64 (wrap64 ((rd_T57 t184 7).f1)), .int .i64 (wrap64 ((rd_T57 t184 8).f1))]) := by rw [ha]; exact putSel_on (e := (40, 76, .agg #[.int .i64 (wrap64 ((rd_T57 t184 0).f1)), .string ((rd_T57 t184 1).f2), .string ((rd_T57 t184 2).f2), .int .i64 (wrap64 ((rd_T57 t184 3).f1)), .string ((rd_T57 t184 4).f2), .string ((rd_T57 t184 5).f2), .int .i64 t201, .int .i64 (wrap64 ((rd_T57 t184 7).f1)), .int .i64 (wrap64 ((rd_T57 t184 8).f1))])) 31 rfl rfl (hon 40 (by kernel_rfl)) rfl
     replace ha := Aside0.mk ha
     have al := Aside0.mk ae
     have HB := Aside0.mk ao
     have az := Aside0.mk (aa (hon 41 (by kernel_rfl)))
     have au := Aside0.mk (ah (hon 41 (by kernel_rfl)) hb_)
     have b5 := Aside0.mk (af (hon 41 (by kernel_rfl)))
     have b6 := Aside0.mk (ag (hon 41 (by kernel_rfl)))
     have ap := Aside0.mk (ab (hon 41 (by kernel_rfl)))
     have aq := Aside0.mk (ac (hon 41 (by kernel_rfl)))
     have hs43 : w'.cell? ⟨aj, 0, none⟩ = some (.int .i64 0) := (blk_cell au.out 0).trans rfl
     have hfs43 := blk_frozen au.out 0
     have hns43_0 := ap.out
     have hms43_0 := aq.out
     have hs44 : w'.cell? ⟨aj, 1, none⟩ = some (.string (⟨#[]⟩ : ByteArray)) := (blk_cell au.out 1).trans rfl
     have hfs44 := blk_frozen au.out 1
     have hns44_0 := ap.out
     have hms44_0 := aq.out
     have hs45 : w'.cell? ⟨aj, 2, none⟩ = some (.string (⟨#[]⟩ : ByteArray)) := (blk_cell au.out 2).trans rfl
     have hfs45 := blk_frozen au.out 2
     have hns45_0 := ap.out
     have hms45_0 := aq.out
     have hs46 : w'.cell? ⟨aj, 3, none⟩ = some (.int .i64 0) := (blk_cell au.out 3).trans rfl
     have hfs46 := blk_frozen au.out 3
     have hns46_0 := ap.out
     have hms46_0 := aq.out
     have hs47 : w'.cell? ⟨aj, 4, none⟩ = some (.string (⟨#[]⟩ : ByteArray)) := (blk_cell au.out 4).trans rfl
     have hfs47 := blk_frozen au.out 4
     have hns47_0 := ap.out
     have hms47_0 := aq.out
     have hs48 : w'.cell? ⟨aj, 5, none⟩ = some (.string (⟨#[]⟩ : ByteArray)) := (blk_cell au.out 5).trans rfl
     have hfs48 := blk_frozen au.out 5
     have hns48_0 := ap.out
     have hms48_0 := aq.out
     have hs49 : w'.cell? ⟨aj, 6, none⟩ = some (.int .i64 0) := (blk_cell au.out 6).trans rfl
     have hfs49 := blk_frozen au.out 6
     have hns49_0 := ap.out
     have hms49_0 := aq.out
     have hs50 : w'.cell? ⟨aj, 7, none⟩ = some (.int .i64 0) := (blk_cell au.out 7).trans rfl
     have hfs50 := blk_frozen au.out 7
     have hns50_0 := ap.out
     have hms50_0 := aq.out
     have hs51 : w'.cell? ⟨aj, 8, none⟩ = some (.int .i64 0) := (blk_cell au.out 8).trans rfl
     have hfs51 := blk_frozen au.out 8
     have hns51_0 := ap.out
     have hms51_0 := aq.out
     refine skip_ (w1 := ?_) (by rfl) rfl ?_ ?_
     rotate_left
     ·go_simp
      rfl
     refine hK.out _ _ ⟨aj, m41_, (by rw [ha.out]; exact putSel_none (v := undef) rfl), fun h0_ => absurd ((hon 41 (by kernel_rfl)).symm.trans h0_) (by decide), (by (with_reducible repeat (first | refine blk_drewN ?_ _ | refine blk_drew ?_ | refine blk_alloc ?_ _ | refine blk_far ?_ ap.out _)); exact al.out), bw, fun _ => (by (with_reducible repeat (first | apply Kd.V_alloc | apply Kd.V_drewN | apply Kd.V_drew)); exact Kd.V_mono (Kd.V_far (p := ⟨aj, 8, none⟩) (Kd.V_far (p := ⟨aj, 7, none⟩) (Kd.V_far (p := ⟨aj, 6, none⟩) (Kd.V_far (p := ⟨aj, 5, none⟩) (Kd.V_far (p := ⟨aj, 4, none⟩) (Kd.V_far (p := ⟨aj, 3, none⟩) (Kd.V_far (p := ⟨aj, 2, none⟩) (Kd.V_far (p := ⟨aj, 1, none⟩) (Kd.V_far (p := ⟨aj, 0, none⟩) (Kd.V_mono az.out (fun k_ hk => (⟨hk, hk.2⟩ : _ ∧ k_ ≠ aj))) (fun _ hk => hk.2) (.int .i64 (wrap64 ((rd_T57 t184 0).f1)))) (fun _ hk => hk.2) (.string ((rd_T57 t184 1).f2))) (fun _ hk => hk.2) (.string ((rd_T57 t184 2).f2))) (fun _ hk => hk.2) (.int .i64 (wrap64 ((rd_T57 t184 3).f1)))) (fun _ hk => hk.2) (.string ((rd_T57 t184 4).f2))) (fun _ hk => hk.2) (.string ((rd_T57 t184 5).f2))) (fun _ hk => hk.2) (.int .i64 t201)) (fun _ hk => hk.2) (.int .i64 (wrap64 ((rd_T57 t184 7).f1)))) (fun _ hk => hk.2) (.int .i64 (wrap64 ((rd_T57 t184 8).f1)))) (fun _ hk => ⟨hk.1.1, hk.1.2⟩)), fun _ h1_ => absurd ((up_self b 42).symm.trans h1_) (by decide), fun _ => b5.out, fun _ => b6.out, fun _ => ap.out, fun _ => aq.out, fun _ => (by (with_reducible repeat (first | refine blk_drewN ?_ _ | refine blk_drew ?_ | refine blk_alloc ?_ _)); refine blk_put (cs := #[.int .i64 (wrap64 ((rd_T57 t184 0).f1)), .string ((rd_T57 t184 1).f2), .string ((rd_T57 t184 2).f2), .int .i64 (wrap64 ((rd_T57 t184 3).f1)), .string ((rd_T57 t184 4).f2), .string ((rd_T57 t184 5).f2), .int .i64 t201, .int .i64 (wrap64 ((rd_T57 t184 7).f1)), .int .i64 0]) ?_ 8 _ rfl; (with_reducible repeat (first | refine blk_drewN ?_ _ | refine blk_drew ?_ | refine blk_alloc ?_ _)); refine blk_put (cs := #[.int .i64 (wrap64 ((rd_T57 t184 0).f1)), .string ((rd_T57 t184 1).f2), .string ((rd_T57 t184 2).f2), .int .i64 (wrap64 ((rd_T57 t184 3).f1)), .string ((rd_T57 t184 4).f2), .string ((rd_T57 t184 5).f2), .int .i64 t201, .int .i64 0, .int .i64 0]) ?_ 7 _ rfl; (with_reducible repeat (first | refine blk_drewN ?_ _ | refine blk_drew ?_ | refine blk_alloc ?_ _)); refine blk_put (cs := #[.int .i64 (wrap64 ((rd_T57 t184 0).f1)), .string ((rd_T57 t184 1).f2), .string ((rd_T57 t184 2).f2), .int .i64 (wrap64 ((rd_T57 t184 3).f1)), .string ((rd_T57 t184 4).f2), .string ((rd_T57 t184 5).f2), .int .i64 0, .int .i64 0, .int .i64 0]) ?_ 6 _ rfl; (with_reducible repeat (first | refine blk_drewN ?_ _ | refine blk_drew ?_ | refine blk_alloc ?_ _)); refine blk_put (cs := #[.int .i64 (wrap64 ((rd_T57 t184 0).f1)), .string ((rd_T57 t184 1).f2), .string ((rd_T57 t184 2).f2), .int .i64 (wrap64 ((rd_T57 t184 3).f1)), .string ((rd_T57 t184 4).f2), .string (⟨#[]⟩ : ByteArray), .int .i64 0, .int .i64 0, .int .i64 0]) ?_ 5 _ rfl; (with_reducible repeat (first | refine blk_drewN ?_ _ | refine blk_drew ?_ | refine blk_alloc ?_ _)); refine blk_put (cs := #[.int .i64 (wrap64 ((rd_T57 t184 0).f1)), .string ((rd_T57 t184 1).f2), .string ((rd_T57 t184 2).f2), .int .i64 (wrap64 ((rd_T57 t184 3).f1)), .string (⟨#[]⟩ : ByteArray), .string (⟨#[]⟩ : ByteArray), .int .i64 0, .int .i64 0, .int .i64 0]) ?_ 4 _ rfl; (with_reducible repeat (first | refine blk_drewN ?_ _ | refine blk_drew ?_ | refine blk_alloc ?_ _)); refine blk_put (cs := #[.int .i64 (wrap64 ((rd_T57 t184 0).f1)), .string ((rd_T57 t184 1).f2), .string ((rd_T57 t184 2).f2), .int .i64 0, .string (⟨#[]⟩ : ByteArray), .string (⟨#[]⟩ : ByteArray), .int .i64 0, .int .i64 0, .int .i64 0]) ?_ 3 _ rfl; (with_reducible repeat (first | refine blk_drewN ?_ _ | refine blk_drew ?_ | refine blk_alloc ?_ _)); refine blk_put (cs := #[.int .i64 (wrap64 ((rd_T57 t184 0).f1)), .string ((rd_T57 t184 1).f2), .string (⟨#[]⟩ : ByteArray), .int .i64 0, .string (⟨#[]⟩ : ByteArray), .string (⟨#[]⟩ : ByteArray), .int .i64 0, .int .i64 0, .int .i64 0]) ?_ 2 _ rfl; (with_reducible repeat (first | refine blk_drewN ?_ _ | refine blk_drew ?_ | refine blk_alloc ?_ _)); refine blk_put (cs := #[.int .i64 (wrap64 ((rd_T57 t184 0).f1)), .string (⟨#[]⟩ : ByteArray), .string (⟨#[]⟩ : ByteArray), .int .i64 0, .string (⟨#[]⟩ : ByteArray), .string (⟨#[]⟩ : ByteArray), .int .i64 0, .int .i64 0, .int .i64 0]) ?_ 1 _ rfl; (with_reducible repeat (first | refine blk_drewN ?_ _ | refine blk_drew ?_ | refine blk_alloc ?_ _)); refine blk_put (cs := za1_) ?_ 0 _ rfl; (with_reducible repeat (first | refine blk_drewN ?_ _ | refine blk_drew ?_ | refine blk_alloc ?_ _)); exact au.out), an⟩
    exact steps_nil
   rintro b a w51 hall ⟨aj, m41_, ha, ak, ae, ao, aa, ah, af, ag, ab, ac, ai, an⟩
   clear al HB az
   have hb1_ := hall 1 (by kernel_rfl)
   have hb2_ := hall 2 (by kernel_rfl)
   have hb3_ := hall 3 (by kernel_rfl)
   have hb4_ := hall 4 (by kernel_rfl)
   have hb6_ := hall 6 (by kernel_rfl)
   have hb7_ := hall 7 (by kernel_rfl)
   have hb8_ := hall 8 (by kernel_rfl)
   have hb10_ := hall 10 (by kernel_rfl)
   have hb11_ := hall 11 (by kernel_rfl)
   have hb12_ := hall 12 (by kernel_rfl)
   have hb14_ := hall 14 (by kernel_rfl)
   have hb15_ := hall 15 (by kernel_rfl)
   have hb16_ := hall 16 (by kernel_rfl)
   have hb17_ := hall 17 (by kernel_rfl)
   have hb19_ := hall 19 (by kernel_rfl)
   have hb20_ := hall 20 (by kernel_rfl)
   have hb21_ := hall 21 (by kernel_rfl)
   have hb23_ := hall 23 (by kernel_rfl)
   have hb24_ := hall 24 (by kernel_rfl)
   have hb25_ := hall 25 (by kernel_rfl)
   have hb27_ := hall 27 (by kernel_rfl)
   have hb28_ := hall 28 (by kernel_rfl)
   have hb29_ := hall 29 (by kernel_rfl)
   have hb31_ := hall 31 (by kernel_rfl)
   have hb32_ := hall 32 (by kernel_rfl)
   have hb33_ := hall 33 (by kernel_rfl)
   have hb34_ := hall 34 (by kernel_rfl)
   have hb36_ := hall 36 (by kernel_rfl)
   have hb37_ := hall 37 (by kernel_rfl)
   have hb38_ := hall 38 (by kernel_rfl)
   have hb39_ := hall 39 (by kernel_rfl)
   have hb40_ := hall 40 (by kernel_rfl)
   have hb41_ := hall 41 (by kernel_rfl)
   have hb42_ := hall 42 (by kernel_rfl)
   subst ha
   obtain rfl := an hb41_
   simp only [putSel, hb1_, hb2_, hb3_, hb4_, hb6_, hb7_, hb8_, hb10_, hb11_, hb12_, hb14_, hb15_, hb16_, hb17_, hb19_, hb20_, hb21_, hb23_, hb24_, hb25_, hb27_, hb28_, hb29_, hb31_, hb32_, hb33_, hb34_, hb36_, hb37_, hb38_, hb39_, hb40_, hb41_, hb42_, if_true, Act.put, sl1, sl2, sl3]
   clear ak
   have al := Aside0.mk ae
   clear ae
   have HB := Aside0.mk ao
   clear ao
   have az := Aside0.mk (aa hb41_)
   clear aa
   clear ah
   have b5 := Aside0.mk (af hb41_)
   clear af
   have b6 := Aside0.mk (ag hb41_)
   clear ag
   have ap := Aside0.mk (ab hb41_)
   clear ab
   have aq := Aside0.mk (ac hb41_)
   clear ac
   have au := Aside0.mk (ai hb42_)
   clear ai
   clear hall hb1_ hb2_ hb3_ hb4_ hb6_ hb7_ hb8_ hb10_ hb11_ hb12_ hb14_ hb15_ hb16_ hb17_ hb19_ hb20_ hb21_ hb23_ hb24_ hb25_ hb27_ hb28_ hb29_ hb31_ hb32_ hb33_ hb34_ hb36_ hb37_ hb38_ hb39_ hb40_ hb41_ hb42_
   have hnb52 := aq.out
   have hnc52 := ap.out
   obtain ⟨hcz53_0, hcz53_1, hcz53_2, hcz53_3, hcz53_4, hcz53_5, hcz53_6, hcz53_7, hcz53_8, hfz53_0, hfz53_1, hfz53_2, hfz53_3, hfz53_4, hfz53_5, hfz53_6, hfz53_7, hfz53_8⟩ := bx9 au.out
   have H := HhZ.out
   clear HhZ
   by_cases c37 : t205 = true
   ·subst c37
    have H1 := H
    rw [if_pos rfl] at H1
    clear H
    have H := H1
    clear H1
    simp only [Option.some.injEq, Prod.mk.injEq] at H
    obtain ⟨rfl, rfl, rfl, rfl, rfl, rfl, rfl, rfl, rfl, rfl⟩ := H
    try go_wp2_with (first | ((with_reducible refine gate_callee (f := 16) rfl ?_); refine goesL_ (some 78) rfl rfl Tryd.func16 (by kernel_rfl) rfl #[.agg #[.int .i64 (wrap64 ((rd_T57 t184 0).f1)), .string ((rd_T57 t184 1).f2), .string ((rd_T57 t184 2).f2), .int .i64 (wrap64 ((rd_T57 t184 3).f1)), .string ((rd_T57 t184 4).f2), .string ((rd_T57 t184 5).f2), .int .i64 t201, .int .i64 (wrap64 ((rd_T57 t184 7).f1)), .int .i64 (wrap64 ((rd_T57 t184 8).f1))]] rfl am ?_; (with_reducible refine (command_Right.calls (wrap64 ((rd_T57 t184 0).f1)) ((rd_T57 t184 1).f2) ((rd_T57 t184 2).f2) (wrap64 ((rd_T57 t184 3).f1)) ((rd_T57 t184 4).f2) ((rd_T57 t184 5).f2) t201 (wrap64 ((rd_T57 t184 7).f1)) (wrap64 ((rd_T57 t184 8).f1)) true _ A36.out).mono ?_); rintro e w54 ⟨rfl, hb⟩; refine ⟨_, rfl, ?_⟩; replace az := Aside0.mk (Kd.V_below (v_ az.out) hb); replace al := Aside0.mk (nb al.out hb); replace au := Aside0.mk (nb au.out hb); replace HB := Aside0.mk (below_step bw hb); (try clear hb); obtain ⟨hcz55_0, hcz55_1, hcz55_2, hcz55_3, hcz55_4, hcz55_5, hcz55_6, hcz55_7, hcz55_8, hfz55_0, hfz55_1, hfz55_2, hfz55_3, hfz55_4, hfz55_5, hfz55_6, hfz55_7, hfz55_8⟩ := bx9 au.out; obtain ⟨hcz56_0, hcz56_1, hcz56_2, hcz56_3, hcz56_4, hcz56_5, hcz56_6, hcz56_7, hcz56_8, hfz56_0, hfz56_1, hfz56_2, hfz56_3, hfz56_4, hfz56_5, hfz56_6, hfz56_7, hfz56_8⟩ := bx9 al.out))
    refine bodyPost_ret (results_ct rfl _ _ av 23 #[.int .i64 (wrap64 ((rd_T57 t184 0).f1)), .string ((rd_T57 t184 1).f2), .string ((rd_T57 t184 2).f2), .int .i64 (wrap64 ((rd_T57 t184 3).f1)), .string ((rd_T57 t184 4).f2), .string ((rd_T57 t184 5).f2), .int .i64 t201, .int .i64 (wrap64 ((rd_T57 t184 7).f1)), .int .i64 (wrap64 ((rd_T57 t184 8).f1))] (0, 0) _ rfl (by (with_reducible repeat (first | refine blk_drewN ?_ _ | refine blk_drew ?_ | refine blk_alloc ?_ _)); refine blk_put (cs := #[.int .i64 (wrap64 ((rd_T57 t184 0).f1)), .string ((rd_T57 t184 1).f2), .string ((rd_T57 t184 2).f2), .int .i64 (wrap64 ((rd_T57 t184 3).f1)), .string ((rd_T57 t184 4).f2), .string ((rd_T57 t184 5).f2), .int .i64 t201, .int .i64 (wrap64 ((rd_T57 t184 7).f1)), .int .i64 0]) ?_ 8 _ rfl; (with_reducible repeat (first | refine blk_drewN ?_ _ | refine blk_drew ?_ | refine blk_alloc ?_ _)); refine blk_put (cs := #[.int .i64 (wrap64 ((rd_T57 t184 0).f1)), .string ((rd_T57 t184 1).f2), .string ((rd_T57 t184 2).f2), .int .i64 (wrap64 ((rd_T57 t184 3).f1)), .string ((rd_T57 t184 4).f2), .string ((rd_T57 t184 5).f2), .int .i64 t201, .int .i64 0, .int .i64 0]) ?_ 7 _ rfl; (with_reducible repeat (first | refine blk_drewN ?_ _ | refine blk_drew ?_ | refine blk_alloc ?_ _)); refine blk_put (cs := #[.int .i64 (wrap64 ((rd_T57 t184 0).f1)), .string ((rd_T57 t184 1).f2), .string ((rd_T57 t184 2).f2), .int .i64 (wrap64 ((rd_T57 t184 3).f1)), .string ((rd_T57 t184 4).f2), .string ((rd_T57 t184 5).f2), .int .i64 0, .int .i64 0, .int .i64 0]) ?_ 6 _ rfl; (with_reducible repeat (first | refine blk_drewN ?_ _ | refine blk_drew ?_ | refine blk_alloc ?_ _)); refine blk_put (cs := #[.int .i64 (wrap64 ((rd_T57 t184 0).f1)), .string ((rd_T57 t184 1).f2), .string ((rd_T57 t184 2).f2), .int .i64 (wrap64 ((rd_T57 t184 3).f1)), .string ((rd_T57 t184 4).f2), .string (⟨#[]⟩ : ByteArray), .int .i64 0, .int .i64 0, .int .i64 0]) ?_ 5 _ rfl; (with_reducible repeat (first | refine blk_drewN ?_ _ | refine blk_drew ?_ | refine blk_alloc ?_ _)); refine blk_put (cs := #[.int .i64 (wrap64 ((rd_T57 t184 0).f1)), .string ((rd_T57 t184 1).f2), .string ((rd_T57 t184 2).f2), .int .i64 (wrap64 ((rd_T57 t184 3).f1)), .string (⟨#[]⟩ : ByteArray), .string (⟨#[]⟩ : ByteArray), .int .i64 0, .int .i64 0, .int .i64 0]) ?_ 4 _ rfl; (with_reducible repeat (first | refine blk_drewN ?_ _ | refine blk_drew ?_ | refine blk_alloc ?_ _)); refine blk_put (cs := #[.int .i64 (wrap64 ((rd_T57 t184 0).f1)), .string ((rd_T57 t184 1).f2), .string ((rd_T57 t184 2).f2), .int .i64 0, .string (⟨#[]⟩ : ByteArray), .string (⟨#[]⟩ : ByteArray), .int .i64 0, .int .i64 0, .int .i64 0]) ?_ 3 _ rfl; (with_reducible repeat (first | refine blk_drewN ?_ _ | refine blk_drew ?_ | refine blk_alloc ?_ _)); refine blk_put (cs := #[.int .i64 (wrap64 ((rd_T57 t184 0).f1)), .string ((rd_T57 t184 1).f2), .string (⟨#[]⟩ : ByteArray), .int .i64 0, .string (⟨#[]⟩ : ByteArray), .string (⟨#[]⟩ : ByteArray), .int .i64 0, .int .i64 0, .int .i64 0]) ?_ 2 _ rfl; (with_reducible repeat (first | refine blk_drewN ?_ _ | refine blk_drew ?_ | refine blk_alloc ?_ _)); refine blk_put (cs := #[.int .i64 (wrap64 ((rd_T57 t184 0).f1)), .string (⟨#[]⟩ : ByteArray), .string (⟨#[]⟩ : ByteArray), .int .i64 0, .string (⟨#[]⟩ : ByteArray), .string (⟨#[]⟩ : ByteArray), .int .i64 0, .int .i64 0, .int .i64 0]) ?_ 1 _ rfl; (with_reducible repeat (first | refine blk_drewN ?_ _ | refine blk_drew ?_ | refine blk_alloc ?_ _)); refine blk_put (cs := za1_) ?_ 0 _ rfl; (with_reducible repeat (first | refine blk_drewN ?_ _ | refine blk_drew ?_ | refine blk_alloc ?_ _)); exact al.out) Tryd.underlying23 rfl (by kernel_rfl)) rfl ?_
    exact ⟨er, bw⟩
   replace c37 := Bool.eq_false_iff.mpr c37
   subst c37
   have H1 : (some (0, (⟨#[]⟩ : ByteArray), (⟨#[]⟩ : ByteArray), 0, (⟨#[]⟩ : ByteArray), (⟨#[]⟩ : ByteArray), 0, 0, 0, 10)) = some (r1, r2, r3, r4, r5, r6, r7, r8, r9, r10) := by rw [if_neg (show ¬ (false = true) by decide)] at H; exact H
   clear H
   have H := H1
   clear H1
   simp only [Option.some.injEq, Prod.mk.injEq] at H
   obtain ⟨rfl, rfl, rfl, rfl, rfl, rfl, rfl, rfl, rfl, rfl⟩ := H
   try go_wp2_with (first | ((with_reducible refine gate_callee (f := 16) rfl ?_); refine goesL_ (some 78) rfl rfl Tryd.func16 (by kernel_rfl) rfl #[.agg #[.int .i64 (wrap64 ((rd_T57 t184 0).f1)), .string ((rd_T57 t184 1).f2), .string ((rd_T57 t184 2).f2), .int .i64 (wrap64 ((rd_T57 t184 3).f1)), .string ((rd_T57 t184 4).f2), .string ((rd_T57 t184 5).f2), .int .i64 t201, .int .i64 (wrap64 ((rd_T57 t184 7).f1)), .int .i64 (wrap64 ((rd_T57 t184 8).f1))]] rfl am ?_; (with_reducible refine (command_Right.calls (wrap64 ((rd_T57 t184 0).f1)) ((rd_T57 t184 1).f2) ((rd_T57 t184 2).f2) (wrap64 ((rd_T57 t184 3).f1)) ((rd_T57 t184 4).f2) ((rd_T57 t184 5).f2) t201 (wrap64 ((rd_T57 t184 7).f1)) (wrap64 ((rd_T57 t184 8).f1)) false _ A36.out).mono ?_); rintro e w73 ⟨rfl, hb⟩; refine ⟨_, rfl, ?_⟩; replace az := Aside0.mk (Kd.V_below (v_ az.out) hb); replace al := Aside0.mk (nb al.out hb); replace au := Aside0.mk (nb au.out hb); replace HB := Aside0.mk (below_step bw hb); (try clear hb); obtain ⟨hcz74_0, hcz74_1, hcz74_2, hcz74_3, hcz74_4, hcz74_5, hcz74_6, hcz74_7, hcz74_8, hfz74_0, hfz74_1, hfz74_2, hfz74_3, hfz74_4, hfz74_5, hfz74_6, hfz74_7, hfz74_8⟩ := bx9 al.out))
   refine bodyPost_ret (results_ct rfl _ _ av 23 #[.int .i64 0, .string (⟨#[]⟩ : ByteArray), .string (⟨#[]⟩ : ByteArray), .int .i64 0, .string (⟨#[]⟩ : ByteArray), .string (⟨#[]⟩ : ByteArray), .int .i64 0, .int .i64 0, .int .i64 0] (0, 0) _ rfl (by (iterate 9 ((with_reducible repeat (first | refine blk_drewN ?_ _ | refine blk_drew ?_ | refine blk_alloc ?_ _)); refine blk_put (cs := za1_) ?_ _ _ rfl)); (with_reducible repeat (first | refine blk_drewN ?_ _ | refine blk_drew ?_ | refine blk_alloc ?_ _)); exact al.out) Tryd.underlying23 rfl (by kernel_rfl)) rfl ?_
   exact ⟨er, bw⟩

end Go.Proofs.YtpgiagdpepkooaaDoor.P
