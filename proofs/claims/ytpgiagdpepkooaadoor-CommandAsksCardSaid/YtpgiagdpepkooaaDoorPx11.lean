-- Printed by this session's program wip/xp.py (a turned copy of the kit's printer): functions, their contracts.
import Derived.Test.YtpgiagdpepkooaaDoorPx0
import Derived.Test.YtpgiagdpepkooaaDoorPx4
import Derived.Test.YtpgiagdpepkooaaDoorPx9
import Derived.Test.YtpgiagdpepkooaaDoorPx10
namespace Go.Proofs.YtpgiagdpepkooaaDoor.P
open Go.RowKit Go.Proofs.YtpgiagdpepkooaaDoorW.PrintWords Go.Proofs.YtpgiagdpepkooaaDoorW.PrintLast Go.Proofs.YtpgiagdpepkooaaDoorW.PrintMore
attribute [local go_sem] max2_int min2_int max_two min_two max_three min_three max_four min_four   -- for this text's walks alone
set_option linter.unusedVariables false
set_option linter.unusedSimpArgs false

/-! ### command_Answer: function 24 -/
mutual
def command_Answer.j0 : Nat → Int → Bool → Int → Int → List (S48) → Option (ByteArray × Int)
 | 0, _, _, _, _, _ => none
 | k + 1, x0, x21, x246000, x246001, x246002 => if x21 = true then (some ((⟨#[]⟩ : ByteArray), 1)) else ((command_long.f x0).bind fun bt247 => ((command_small.f x246000).bind fun bt250 => ((command_long.f (wrap64 (x246001 + 1))).bind fun bt253 => (command_Answer.l0 k (([(⟨bt247.1, bt247.2.1, bt247.2.2⟩ : S57), (⟨bt250.1, bt250.2.1, bt250.2.2⟩ : S57), (⟨bt253.1, bt253.2.1, bt253.2.2⟩ : S57)] : List (S57))) x246002 (x246002.length : Int) 0))))
def command_Answer.l0 : Nat → List (S57) → List (S48) → Int → Int → Option (ByteArray × Int)
 | 0, _, _, _, _ => none
 | k + 1, x6, x33, x34, x35 => if x35 < x34 then (if 0 ≤ x35 then (if x35 < (x33.length : Int) then ((command_long.f ((rd_T48 x33 x35).f0)).bind fun bt261 => ((command_text.f ((rd_T48 x33 x35).f1)).bind fun bt264 => ((command_long.f ((rd_T48 x33 x35).f2)).bind fun bt267 => ((command_text.f ((rd_T48 x33 x35).f3)).bind fun bt270 => ((command_text.f ((rd_T48 x33 x35).f4)).bind fun bt273 => ((some (([(⟨bt261.1, bt261.2.1, bt261.2.2⟩ : S57), (⟨bt264.1, bt264.2.1, bt264.2.2⟩ : S57), (⟨bt267.1, bt267.2.1, bt267.2.2⟩ : S57), (⟨bt270.1, bt270.2.1, bt270.2.2⟩ : S57), (⟨bt273.1, bt273.2.1, bt273.2.2⟩ : S57)] : List (S57)) : List (S57))).bind fun y276 => (if x6.length + y276.length < 4398046511104 then (command_Answer.l0 k (x6 ++ y276) x33 x34 (wrap64 (x35 + 1))) else (none)))))))) else (none)) else (none)) else ((codec_Encode.f k x6).bind fun bt282 => (if bt282.2 = 0 then ((crc_Frame.f bt282.1).bind fun bt284 => (some (bt284.1, bt284.2))) else (some ((⟨#[]⟩ : ByteArray), bt282.2))))
end
def command_Answer.f (k : Nat) (a0 : Int) (a1_0 : Int) (a1_1 : Int) (l1_2 : List (S48)) : Option (ByteArray × Int) := (command_told.f k a1_0 a1_1 l1_2).bind fun t246 => (if t246 = true then (if a0 < 0 then (command_Answer.j0 k a0 true a1_0 a1_1 l1_2) else (command_Answer.j0 k a0 (decide (a0 > 9007199254740991)) a1_0 a1_1 l1_2)) else (command_Answer.j0 k a0 true a1_0 a1_1 l1_2))
def command_Answer.T3 : Bool × List (List Nat × List Nat) := (true, [([], []), ([0], [0]), ([], []), ([2], [2]), ([3, 1], [3]), ([], []), ([5], [5]), ([6], [6]), ([7, 4], [7]), ([1, 4, 8], [1, 4, 8]), ([9, 8, 0, 1, 2, 3, 4, 5, 6, 7, 8, 9], [9])])
def command_Answer.B3 : List Nat := [0, 1, 0, 4, 15, 0, 32, 96, 255, 511, 1023]
theorem command_Answer.tab3 : rtab .any (opsOf Tryd.f24 3) = command_Answer.T3 := by kernel_rfl
theorem command_Answer.bits3 : waitsOk command_Answer.T3.2 command_Answer.B3 = true := by kernel_rfl
def command_Answer.T7 : Bool × List (List Nat × List Nat) := (true, [([], []), ([], []), ([1], [1]), ([2], [2]), ([], []), ([4], [4]), ([5, 3], [5]), ([], []), ([7], [7]), ([8, 6], [8]), ([], []), ([10], [10]), ([11, 9], [11]), ([], []), ([13], [13]), ([14, 12], [14]), ([3, 6, 9, 12, 15], [3, 6, 9, 12, 15]), ([0, 16, 15], [0, 16]), ([17, 17, 0, 1, 2, 3, 4, 5, 6, 7, 8, 9, 10, 11, 12, 13, 14, 15, 16, 17], [0, 17])])
def command_Answer.B7 : List Nat := [0, 0, 2, 6, 0, 16, 62, 0, 128, 510, 0, 1024, 4094, 0, 8192, 32766, 65534, 131071, 262143]
theorem command_Answer.tab7 : rtab .any (opsOf Tryd.f24 7) = command_Answer.T7 := by kernel_rfl
theorem command_Answer.bits7 : waitsOk command_Answer.T7.2 command_Answer.B7 = true := by kernel_rfl
set_option maxHeartbeats 8000000 in
set_option maxRecDepth 100000 in
theorem command_Answer.calls (k : Nat) (a0 : Int) (a1_0 : Int) (a1_1 : Int) (A1_2 : Option Addr) (c1_2 : Nat) (l1_2 : List (S48)) (r1 : ByteArray) (r2 : Int) (w : World) (hr1_2 : Kd.C k48 w A1_2 l1_2.length l1_2) (hc1_2 : l1_2.length ≤ c1_2) (HT_ : TabOk w) (h : command_Answer.f k a0 a1_0 a1_1 l1_2 = some (r1, r2)) :
  Calls Tryd.prog 24 #[.int .i64 a0, .agg #[.int .i64 a1_0, .int .i64 a1_1, .slice A1_2 l1_2.length c1_2]] w fun e w' => e = .returned (.tuple #[.string r1, .int .i64 r2]) ∧ Below w.heap.size w w' := by
 have HT := Aside0.mk HT_
 clear HT_
 have hu39 := Tryd.underlying39
 have hu48 := Tryd.underlying48
 have HR1_2 := Aside0.mk hr1_2
 have HC1_2 := Aside0.mk hc1_2
 clear hr1_2 hc1_2
 have HB := Aside0.mk (Below.refl w.heap.size w)
 have H := h
 unfold command_Answer.f at H
 clear h
 have HC3 := Aside0.mk H
 clear H
 go_enter Tryd.func24, Tryd.ntmps24
 go_upto_region 1 with (first | ((with_reducible refine gate_dst (N := 3) rfl ?_); refine box_event ?hg (N := 3) ?hd (cs := #[.int .i64 a1_0, .int .i64 a1_1, .slice A1_2 l1_2.length c1_2]) (t := 39) ?hr ?_; (case hd => rfl); (case hg => rfl); (case hr => first | (go_simp; done) | (go_simp; rfl)); intro ae hg w4 hbox hb; have aa := Aside0.mk (hbox); have GW245 := Aside0.mk ((g1 hg bw : w.heap.size ≤ ae)); have GE245 := Aside0.mk ((g1 hg bw : w.heap.size ≤ ae)); replace HB := Aside0.mk (below_step bw hb); clear hb hbox hg))
 (try simp only [Act.put, sl1, sl2, sl3])
 go_cut [21] (fun v21 wc => ∃ (kq : Nat) (x21_2 : Bool), v21 = .bool x21_2 ∧ Aside0 (command_Answer.j0 kq a0 x21_2 a1_0 a1_1 l1_2 = some (r1, r2)) ∧ Aside0 (kq ≤ k) ∧ Aside0 (wc.heap[ae]? = some (.cells #[.int .i64 a1_0, .int .i64 a1_1, (.slice A1_2 l1_2.length c1_2)] 39 (0, 0))) ∧ Aside0 (Below w.heap.size w wc))
 case first =>
  have H := HC3.out
  clear HC3
  replace H := Option.bind_eq_some_iff.mp H
  obtain ⟨t246, A50, H⟩ := H
  have A5 := Aside0.mk A50
  clear A50
  by_cases c6 : t246 = true; rotate_left
  ·replace c6 := Bool.eq_false_iff.mpr c6
   subst c6
   have H1 : (command_Answer.j0 k a0 true a1_0 a1_1 l1_2) = some (r1, r2) := by rw [if_neg (show ¬ (false = true) by decide)] at H; exact H
   clear H
   have H := H1
   clear H1
   have H' := Aside0.mk H
   clear H
   obtain ⟨aw, ax, ay, az, a4, a5⟩ := bx3 aa.out
   go_wp2_with (first | ((with_reducible refine gate_callee (f := 51) rfl ?_); refine goesL_ (some 12) rfl rfl Tryd.func51 (by kernel_rfl) rfl #[.agg #[.int .i64 a1_0, .int .i64 a1_1, .slice A1_2 l1_2.length c1_2]] rfl am ?_; (with_reducible refine (command_told.calls k a1_0 a1_1 _ _ l1_2 false _ ?side1 ?side2 A5.out).mono ?_); (case side1 => repeat (first | exact (Kd.C_below HR1_2.out HB.out) | (with_reducible refine Kd.C_alloc ?_ _) | (with_reducible refine Kd.C_drewN ?_ _) | (with_reducible refine Kd.C_drew ?_))); (case side2 => exact HC1_2.out); rintro e w13 ⟨rfl, hb⟩; refine ⟨_, rfl, ?_⟩; replace aa := Aside0.mk (nb aa.out hb); replace HB := Aside0.mk (below_step bw hb); (try clear hb)))
   go_meet
   case rel => exact ⟨_, (true), (by first | rfl | (simp; done) | (simp [*]; done)), H', ⟨by first | omega | exact Nat.le_refl _⟩, ⟨by (with_reducible repeat (first | refine blk_drewN ?_ _ | refine blk_drew ?_ | refine blk_alloc ?_ _)); exact aa.out⟩, ⟨bw⟩⟩
  subst c6
  have H1 := H
  rw [if_pos rfl] at H1
  clear H
  have H := H1
  clear H1
  by_cases c7 : a0 < 0; rotate_left
  ·rw [if_neg c7] at H
   have an : decide (a0 < 0) = false := decide_eq_false c7
   clear c7
   (first | rw [an] | (simp only [i64_w, i32_w]; rw [an]) | skip)
   have H' := Aside0.mk H
   clear H
   obtain ⟨ao, ap, aq, ar, au, av⟩ := bx3 aa.out
   go_wp2_with (first | ((with_reducible refine gate_callee (f := 51) rfl ?_); refine goesL_ (some 12) rfl rfl Tryd.func51 (by kernel_rfl) rfl #[.agg #[.int .i64 a1_0, .int .i64 a1_1, .slice A1_2 l1_2.length c1_2]] rfl am ?_; (with_reducible refine (command_told.calls k a1_0 a1_1 _ _ l1_2 true _ ?side1 ?side2 A5.out).mono ?_); (case side1 => repeat (first | exact (Kd.C_below HR1_2.out HB.out) | (with_reducible refine Kd.C_alloc ?_ _) | (with_reducible refine Kd.C_drewN ?_ _) | (with_reducible refine Kd.C_drew ?_))); (case side2 => exact HC1_2.out); rintro e w11 ⟨rfl, hb⟩; refine ⟨_, rfl, ?_⟩; replace aa := Aside0.mk (nb aa.out hb); replace HB := Aside0.mk (below_step bw hb); (try clear hb)))
   go_meet
   case rel => exact ⟨_, (decide (a0 > 9007199254740991)), (by first | rfl | (simp; done) | (simp [*]; done)), H', ⟨by first | omega | exact Nat.le_refl _⟩, ⟨by (with_reducible repeat (first | refine blk_drewN ?_ _ | refine blk_drew ?_ | refine blk_alloc ?_ _)); exact aa.out⟩, ⟨bw⟩⟩
  rw [if_pos c7] at H
  have an : decide (a0 < 0) = true := decide_eq_true c7
  clear c7
  (first | rw [an] | (simp only [i64_w, i32_w]; rw [an]) | skip)
  have H' := Aside0.mk H
  clear H
  obtain ⟨a6, a7, a8, a9, ba, bb⟩ := bx3 aa.out
  go_wp2_with (first | ((with_reducible refine gate_callee (f := 51) rfl ?_); refine goesL_ (some 12) rfl rfl Tryd.func51 (by kernel_rfl) rfl #[.agg #[.int .i64 a1_0, .int .i64 a1_1, .slice A1_2 l1_2.length c1_2]] rfl am ?_; (with_reducible refine (command_told.calls k a1_0 a1_1 _ _ l1_2 true _ ?side1 ?side2 A5.out).mono ?_); (case side1 => repeat (first | exact (Kd.C_below HR1_2.out HB.out) | (with_reducible refine Kd.C_alloc ?_ _) | (with_reducible refine Kd.C_drewN ?_ _) | (with_reducible refine Kd.C_drew ?_))); (case side2 => exact HC1_2.out); rintro e w9 ⟨rfl, hb⟩; refine ⟨_, rfl, ?_⟩; replace aa := Aside0.mk (nb aa.out hb); replace HB := Aside0.mk (below_step bw hb); (try clear hb)))
  go_meet
  case rel => exact ⟨_, (true), (by first | rfl | (simp; done) | (simp [*]; done)), H', ⟨by first | omega | exact Nat.le_refl _⟩, ⟨by (with_reducible repeat (first | refine blk_drewN ?_ _ | refine blk_drew ?_ | refine blk_alloc ?_ _)); exact aa.out⟩, ⟨bw⟩⟩
 case rest =>
  clear HC3
  try clear c1
  try clear c2
  try clear p2
  try clear c5
  try clear c6
  try clear c7
  try clear an
  try clear ao ap aq aw ax ay a6 a7 a8
  try clear ar au av az a4 a5 a9 ba bb
  obtain ⟨kq, x21_2, rfl, HA, HJ2, aa, HB⟩ := hcut
  cases kq with
  | zero => exact absurd HA.out (by simp [command_Answer.j0])
  | succ kj2 =>
   have H := HA.out
   clear HA
   simp only [command_Answer.j0] at H
   by_cases c14 : x21_2 = true
   ·subst c14
    have H1 : (some ((⟨#[]⟩ : ByteArray), 1)) = some (r1, r2) := by rw [if_pos rfl] at H; exact H
    clear H
    have H := H1
    clear H1
    simp only [Option.some.injEq, Prod.mk.injEq] at H
    obtain ⟨rfl, rfl⟩ := H
    go_wp2
    go_ret2
    exact ⟨er, bw⟩
   replace c14 := Bool.eq_false_iff.mpr c14
   subst c14
   have H1 : ((command_long.f a0).bind fun bt247 => ((command_small.f a1_0).bind fun bt250 => ((command_long.f (wrap64 (a1_1 + 1))).bind fun bt253 => (command_Answer.l0 kj2 (([(⟨bt247.1, bt247.2.1, bt247.2.2⟩ : S57), (⟨bt250.1, bt250.2.1, bt250.2.2⟩ : S57), (⟨bt253.1, bt253.2.1, bt253.2.2⟩ : S57)] : List (S57))) l1_2 (l1_2.length : Int) 0)))) = some (r1, r2) := by rw [if_neg (show ¬ (false = true) by decide)] at H; exact H
   clear H
   have H := H1
   clear H1
   replace H := Option.bind_eq_some_iff.mp H
   obtain ⟨⟨t247, t248, t249⟩, A150, H⟩ := H
   replace H : ((command_small.f a1_0).bind fun bt250 => ((command_long.f (wrap64 (a1_1 + 1))).bind fun bt253 => (command_Answer.l0 kj2 (([(⟨t247, t248, t249⟩ : S57), (⟨bt250.1, bt250.2.1, bt250.2.2⟩ : S57), (⟨bt253.1, bt253.2.1, bt253.2.2⟩ : S57)] : List (S57))) l1_2 (l1_2.length : Int) 0))) = some (r1, r2) := H
   have A15 := Aside0.mk A150
   clear A150
   replace H := Option.bind_eq_some_iff.mp H
   obtain ⟨⟨t250, t251, t252⟩, A160, H⟩ := H
   replace H : ((command_long.f (wrap64 (a1_1 + 1))).bind fun bt253 => (command_Answer.l0 kj2 (([(⟨t247, t248, t249⟩ : S57), (⟨t250, t251, t252⟩ : S57), (⟨bt253.1, bt253.2.1, bt253.2.2⟩ : S57)] : List (S57))) l1_2 (l1_2.length : Int) 0)) = some (r1, r2) := H
   have A16 := Aside0.mk A160
   clear A160
   replace H := Option.bind_eq_some_iff.mp H
   obtain ⟨⟨t253, t254, t255⟩, A170, H⟩ := H
   replace H : (command_Answer.l0 kj2 (([(⟨t247, t248, t249⟩ : S57), (⟨t250, t251, t252⟩ : S57), (⟨t253, t254, t255⟩ : S57)] : List (S57))) l1_2 (l1_2.length : Int) 0) = some (r1, r2) := H
   have A17 := Aside0.mk A170
   clear A170
   obtain ⟨y256, hy256⟩ : ∃ y_ : List (S57), y_ = (([(⟨t247, t248, t249⟩ : S57), (⟨t250, t251, t252⟩ : S57), (⟨t253, t254, t255⟩ : S57)] : List (S57))) := ⟨_, rfl⟩
   replace H : (command_Answer.l0 kj2 y256 l1_2 (l1_2.length : Int) 0) = some (r1, r2) := by first | (rw [hy256]; with_reducible exact H) | (have H2_ := (Option.bind_some _ _).symm.trans H; rw [hy256]; with_reducible exact H2_) | (have H2_ := (Option.bind_some _ _).symm.trans H; with_reducible exact H2_) | with_reducible exact H | (rw [hy256]; exact H) | exact H
   have Ny256 := Aside0.mk hy256
   clear hy256
   have H' := Aside0.mk H
   clear H
   try go_wp2
   replace aa := Aside0.mk (blk_drew aa.out)
   replace HB := Aside0.mk (below_drew1 HB.out)
   refine start_ (n := 11) (S := fun w' => w'.cell? ⟨ae, 0, none⟩ = some (.int .i64 a1_0) ∧ w'.cell? ⟨ae, 1, none⟩ = some (.int .i64 a1_1) ∧ w'.cell? ⟨ae, 2, none⟩ = some (.slice A1_2 l1_2.length c1_2)) (ds := []) (bz 11 0) (by kernel_rfl) rfl rfl ⟨(blk_cell aa.out 0).trans rfl, (blk_cell aa.out 1).trans rfl, (blk_cell aa.out 2).trans rfl⟩ (fun hHeld => ?_); refine with_tabW command_Answer.tab3 command_Answer.bits3 (fun HT_ HW_ => ?_)
   generalize wc.drew = w18 at aa HB hHeld ⊢
   refine pu_ 0 (some 22) (bz 11 1) HT_.out ?_
   refine pu_ 2 (some 24) (bz 11 5) HT_.out ?_
   refine pu_ 5 (some 27) (bz 11 37) HT_.out ?_
   refine take_ (i := 3) (N := some 25) (v := ?_) (a' := ?_) (bz 11 45) rfl rfl (take_ofW HT_.out HW_.out (by kernel_rfl)) (fun _ _ _ h => h) (Or.inl ⟨by rfl, ?_⟩) hHeld ?_ ?_
   rotate_left
   ·rintro w' ⟨s0, s1, s2⟩
    go_simp
    with_reducible rfl
   rotate_left
   ·simp only [Act.put, sl1, sl2, sl3, i64_w, i32_w]
    rfl
   refine take_ (i := 6) (N := some 28) (v := ?_) (a' := ?_) (bz 11 109) rfl rfl (take_ofW HT_.out HW_.out (by kernel_rfl)) (fun _ _ _ h => h) (Or.inl ⟨by rfl, ?_⟩) hHeld ?_ ?_
   rotate_left
   ·rintro w' ⟨s0, s1, s2⟩
    go_simp
    with_reducible rfl
   rotate_left
   ·simp only [Act.put, sl1, sl2, sl3, i64_w, i32_w]
    rfl
   refine pu_ 7 (some 29) (bz 11 237) HT_.out ?_
   refine one_ (i := 1) (N := some 23) (bz 11 239) rfl rfl (one_of HT_.out (by kernel_rfl)) (by decide) (fun K hK => ?_)
   refine goes_ Tryd.func32 (by kernel_rfl) rfl #[.int .i64 a0] (by rfl) rfl rfl am ?_
   with_reducible refine (command_long.calls a0 t247 t248 t249 _ A15.out).mono ?_
   rintro e w19 ⟨rfl, hb⟩
   refine ⟨_, rfl, ?_⟩
   replace aa := Aside0.mk (nb aa.out hb)
   replace HB := Aside0.mk (below_step bw hb)
   (try clear hb)
   (try clear hb2)
   (try clear hk)
   (try clear hi)
   refine hK.out _ _ ⟨(blk_cell aa.out 0).trans rfl, (blk_cell aa.out 1).trans rfl, (blk_cell aa.out 2).trans rfl⟩ (fun hHeld => ?_)
   clear hK K
   refine norm_ (a' := ?_) ?_ ?_
   rotate_left
   ·show Act.put _ (some 23) _ = _
    simp only [Act.put, sl1, sl2, sl3, i64_w, i32_w]
    rfl
   refine one_ (i := 4) (N := some 26) (bz 11 255) rfl rfl (one_of HT_.out (by kernel_rfl)) (by decide) (fun K hK => ?_)
   refine goes_ Tryd.func30 (by kernel_rfl) rfl #[.int .i64 a1_0] (by rfl) rfl rfl am ?_
   with_reducible refine (command_small.calls a1_0 t250 t251 t252 _ A16.out).mono ?_
   rintro e w20 ⟨rfl, hb⟩
   refine ⟨_, rfl, ?_⟩
   replace aa := Aside0.mk (nb aa.out hb)
   replace HB := Aside0.mk (below_step bw hb)
   (try clear hb)
   (try clear hb2)
   (try clear hk)
   (try clear hi)
   refine hK.out _ _ ⟨(blk_cell aa.out 0).trans rfl, (blk_cell aa.out 1).trans rfl, (blk_cell aa.out 2).trans rfl⟩ (fun hHeld => ?_)
   clear hK K
   refine norm_ (a' := ?_) ?_ ?_
   rotate_left
   ·show Act.put _ (some 26) _ = _
    simp only [Act.put, sl1, sl2, sl3, i64_w, i32_w]
    rfl
   refine one_ (i := 8) (N := some 30) (bz 11 511) rfl rfl (one_of HT_.out (by kernel_rfl)) (by decide) (fun K hK => ?_)
   refine goes_ Tryd.func32 (by kernel_rfl) rfl #[.int .i64 (wrap64 (a1_1 + 1))] (by rfl) rfl rfl am ?_
   with_reducible refine (command_long.calls (wrap64 (a1_1 + 1)) t253 t254 t255 _ A17.out).mono ?_
   rintro e w21 ⟨rfl, hb⟩
   refine ⟨_, rfl, ?_⟩
   replace aa := Aside0.mk (nb aa.out hb)
   replace HB := Aside0.mk (below_step bw hb)
   (try clear hb)
   (try clear hb2)
   (try clear hk)
   (try clear hi)
   refine hK.out _ _ ⟨(blk_cell aa.out 0).trans rfl, (blk_cell aa.out 1).trans rfl, (blk_cell aa.out 2).trans rfl⟩ (fun hHeld => ?_)
   clear hK K
   refine norm_ (a' := ?_) ?_ ?_
   rotate_left
   ·show Act.put _ (some 30) _ = _
    simp only [Act.put, sl1, sl2, sl3, i64_w, i32_w]
    rfl
   refine one_ (i := 9) (N := some 31) (bz 11 1023) rfl rfl (one_of HT_.out (by kernel_rfl)) (by decide) (fun K hK => ?_)
   refine Kd.R_lit_step k57 _ 57 ?hg (N := 31) ?hd (xs := ([(⟨t247, t248, t249⟩ : S57), (⟨t250, t251, t252⟩ : S57), (⟨t253, t254, t255⟩ : S57)] : List (S57))) (inner := [.int .i64 t247, .int .u64 t248, .string t249, .int .i64 t250, .int .u64 t251, .string t252, .int .i64 t253, .int .u64 t254, .string t255]) (ok := fun _ => True) (okp := fun _ => True) ?hr ?hp (fun _ hk => hk) trivial (Below.refl _ _) (Nat.le_refl _) (by simp) ?_; (case hd => rfl); (case hg => rfl); (case hr => first | (go_simp; done) | (go_simp; rfl)); (case hp => exact (Reps.c3 (show Kd.M k57 _ _ _ (⟨t247, t248, t249⟩ : S57) [.int .i64 t247, .int .u64 t248, .string t249] from (k57_mkM _ _ _ (⟨t247, t248, t249⟩ : S57) )) (Reps.c3 (show Kd.M k57 _ _ _ (⟨t250, t251, t252⟩ : S57) [.int .i64 t250, .int .u64 t251, .string t252] from (k57_mkM _ _ _ (⟨t250, t251, t252⟩ : S57) )) (Reps.c3 (show Kd.M k57 _ _ _ (⟨t253, t254, t255⟩ : S57) [.int .i64 t253, .int .u64 t254, .string t255] from (k57_mkM _ _ _ (⟨t253, t254, t255⟩ : S57) )) (Reps.none _ _)))))
   intro v257 w22 ho23 hb hg_ hnew_
   clear hg_ hnew_
   (first | rw [← Ny256.out] at ho23 | (simp only [Int.reduceToNat] at ho23; rw [← Ny256.out] at ho23))
   have HO258 := Aside0.mk (Kd.R_lower ho23 (below_size bw))
   replace aa := Aside0.mk (nb aa.out hb)
   replace HB := Aside0.mk (below_step bw hb)
   clear hb ho23
   refine hK.out _ _ ⟨(blk_cell aa.out 0).trans rfl, (blk_cell aa.out 1).trans rfl, (blk_cell aa.out 2).trans rfl⟩ (fun hHeld => ?_)
   clear hK K
   refine norm_ (a' := ?_) ?_ ?_
   rotate_left
   ·show Act.put _ (some 31) _ = _
    simp only [Act.put, sl1, sl2, sl3, i64_w, i32_w]
    rfl
   refine pu_ 10 (some 6) (bz 11 2047) HT_.out ?_
   refine done_ (done_of HT_.out (by kernel_rfl)) ?_
   obtain ⟨hcz24_0, hcz24_1, hcz24_2, hfz24_0, hfz24_1, hfz24_2⟩ := bx3 aa.out
   try go_wp2
   go_loopg [6, 35] kj2 (fun kq v6 v35 w' => ∃ (x6_2 : List (S57)) (x35_2 : Int), v35 = .int .i64 x35_2 ∧ Aside0 (command_Answer.l0 kq x6_2 l1_2 (l1_2.length : Int) x35_2 = some (r1, r2)) ∧ Aside0 (kq ≤ kj2) ∧ Aside0 (Kd.R k57 57 w' w.heap.size (fun _ => True) v6 x6_2) ∧ Aside0 (w'.heap[ae]? = some (.cells #[.int .i64 a1_0, .int .i64 a1_1, (.slice A1_2 l1_2.length c1_2)] 39 (0, 0))) ∧ Aside0 (Below w.heap.size w w'))
   case atStart => exact ⟨(y256), (0), (by first | rfl | (simp; done) | (simp [*]; done)), H', ⟨Nat.le_refl _⟩, ⟨r_ HO258.out⟩, ⟨by (with_reducible repeat (first | refine blk_drewN ?_ _ | refine blk_drew ?_ | refine blk_alloc ?_ _)); exact aa.out⟩, ⟨bw⟩⟩
   case round =>
    clear H'
    try clear c1
    try clear c2
    try clear p2
    try clear c3
    try clear c5
    try clear c6
    try clear p6
    try clear c7
    try clear an
    try clear c14
    try clear c24
    try clear ao ap aq aw ax ay hcz24_0 hcz24_1 hcz24_2 a6 a7 a8
    try clear ar au av az a4 a5 hfz24_0 hfz24_1 hfz24_2 a9 ba bb
    try clear p2
    obtain ⟨x6_2, x35_2, rfl, HA, HK2, ad, aa, HB⟩ := hrel
    cases gk with
    | zero => exact absurd HA.out (by simp [command_Answer.l0])
    | succ k2 =>
     have H := HA.out
     clear HA
     simp only [command_Answer.l0] at H
     by_cases c25 : x35_2 < (l1_2.length : Int); rotate_left
     ·rw [if_neg c25] at H
      have c25b0 : decide (x35_2 < (l1_2.length : Int)) = false := decide_eq_false c25
      clear c25
      replace H := Option.bind_eq_some_iff.mp H
      obtain ⟨⟨t282, t283⟩, A480, H⟩ := H
      replace H : (if t283 = 0 then ((crc_Frame.f t282).bind fun bt284 => (some (bt284.1, bt284.2))) else (some ((⟨#[]⟩ : ByteArray), t283))) = some (r1, r2) := H
      have A48 := Aside0.mk A480
      clear A480
      by_cases c49 : t283 = 0; rotate_left
      ·rw [if_neg c49] at H
       have c49b0 : (t283 == 0) = false := beq_eq_false_iff_ne.mpr c49
       have c49b1 : (t283 != 0) = true := bne_iff_ne.mpr c49
       simp only [Option.some.injEq, Prod.mk.injEq] at H
       obtain ⟨rfl, rfl⟩ := H
       obtain ⟨Ao54, co54, eo54⟩ := Kd.R_slice ad.out
       subst eo54
       go_wp2_with (first | ((with_reducible refine gate_callee (f := 29) rfl ?_); refine goesL_ (some 60) rfl rfl Tryd.func29 (by kernel_rfl) rfl #[.slice Ao54 x6_2.length co54] rfl am ?_; (with_reducible refine (codec_Encode.calls k2 _ _ x6_2 t282 t283 _ ?side1 ?side2 tbk A48.out).mono ?_); (case side1 => repeat (first | exact (Kd.R_reads' ad.out).2.2 | (with_reducible refine Kd.C_alloc ?_ _) | (with_reducible refine Kd.C_drewN ?_ _) | (with_reducible refine Kd.C_drew ?_))); (case side2 => exact (Kd.R_reads' ad.out).2.1); rintro e w55 ⟨rfl, hb⟩; refine ⟨_, rfl, ?_⟩; replace ad := Aside0.mk (Kd.R_below (r_ ad.out) hb); replace aa := Aside0.mk (nb aa.out hb); replace HB := Aside0.mk (below_step bw hb); (try clear hb)))
       go_ret2
       exact ⟨er, bw⟩
      rw [if_pos c49] at H
      have c49b0 : (t283 == 0) = true := beq_iff_eq.mpr c49
      have c49b1 : (t283 != 0) = false := bne_eq_false_iff_eq.mpr c49
      clear c49
      replace H := Option.bind_eq_some_iff.mp H
      obtain ⟨⟨t284, t285⟩, A500, H⟩ := H
      replace H : (some (t284, t285)) = some (r1, r2) := H
      have A50 := Aside0.mk A500
      clear A500
      simp only [Option.some.injEq, Prod.mk.injEq] at H
      obtain ⟨rfl, rfl⟩ := H
      obtain ⟨Ao51, co51, eo51⟩ := Kd.R_slice ad.out
      subst eo51
      go_wp2_with (first | ((with_reducible refine gate_callee (f := 29) rfl ?_); refine goesL_ (some 60) rfl rfl Tryd.func29 (by kernel_rfl) rfl #[.slice Ao51 x6_2.length co51] rfl am ?_; (with_reducible refine (codec_Encode.calls k2 _ _ x6_2 t282 t283 _ ?side1 ?side2 tbk A48.out).mono ?_); (case side1 => repeat (first | exact (Kd.R_reads' ad.out).2.2 | (with_reducible refine Kd.C_alloc ?_ _) | (with_reducible refine Kd.C_drewN ?_ _) | (with_reducible refine Kd.C_drew ?_))); (case side2 => exact (Kd.R_reads' ad.out).2.1); rintro e w52 ⟨rfl, hb⟩; refine ⟨_, rfl, ?_⟩; replace ad := Aside0.mk (Kd.R_below (r_ ad.out) hb); replace aa := Aside0.mk (nb aa.out hb); replace HB := Aside0.mk (below_step bw hb); (try clear hb)) | ((with_reducible refine gate_callee (f := 47) rfl ?_); refine goesL_ (some 67) rfl rfl Tryd.func47 (by kernel_rfl) rfl #[.string t282] rfl am ?_; (with_reducible refine (crc_Frame.calls t282 t284 t285 _ tbk A50.out).mono ?_); rintro e w53 ⟨rfl, hb⟩; refine ⟨_, rfl, ?_⟩; replace ad := Aside0.mk (Kd.R_below (r_ ad.out) hb); replace aa := Aside0.mk (nb aa.out hb); replace HB := Aside0.mk (below_step bw hb); (try clear hb)))
      go_ret2
      exact ⟨er, bw⟩
     rw [if_pos c25] at H
     have c25b0 : decide (x35_2 < (l1_2.length : Int)) = true := decide_eq_true c25
     clear c25
     obtain ⟨c26, H⟩ := its H
     have c26b0 : decide (0 ≤ x35_2) = true := decide_eq_true c26
     clear c26
     obtain ⟨c27, H⟩ := its H
     have c27b0 : decide (x35_2 < (l1_2.length : Int)) = true := decide_eq_true c27
     clear c27
     replace H := Option.bind_eq_some_iff.mp H
     obtain ⟨⟨t261, t262, t263⟩, A280, H⟩ := H
     replace H : ((command_text.f ((rd_T48 l1_2 x35_2).f1)).bind fun bt264 => ((command_long.f ((rd_T48 l1_2 x35_2).f2)).bind fun bt267 => ((command_text.f ((rd_T48 l1_2 x35_2).f3)).bind fun bt270 => ((command_text.f ((rd_T48 l1_2 x35_2).f4)).bind fun bt273 => ((some (([(⟨t261, t262, t263⟩ : S57), (⟨bt264.1, bt264.2.1, bt264.2.2⟩ : S57), (⟨bt267.1, bt267.2.1, bt267.2.2⟩ : S57), (⟨bt270.1, bt270.2.1, bt270.2.2⟩ : S57), (⟨bt273.1, bt273.2.1, bt273.2.2⟩ : S57)] : List (S57)) : List (S57))).bind fun y276 => (if x6_2.length + y276.length < 4398046511104 then (command_Answer.l0 k2 (x6_2 ++ y276) l1_2 (l1_2.length : Int) (wrap64 (x35_2 + 1))) else (none))))))) = some (r1, r2) := H
     have A28 := Aside0.mk A280
     clear A280
     replace H := Option.bind_eq_some_iff.mp H
     obtain ⟨⟨t264, t265, t266⟩, A290, H⟩ := H
     replace H : ((command_long.f ((rd_T48 l1_2 x35_2).f2)).bind fun bt267 => ((command_text.f ((rd_T48 l1_2 x35_2).f3)).bind fun bt270 => ((command_text.f ((rd_T48 l1_2 x35_2).f4)).bind fun bt273 => ((some (([(⟨t261, t262, t263⟩ : S57), (⟨t264, t265, t266⟩ : S57), (⟨bt267.1, bt267.2.1, bt267.2.2⟩ : S57), (⟨bt270.1, bt270.2.1, bt270.2.2⟩ : S57), (⟨bt273.1, bt273.2.1, bt273.2.2⟩ : S57)] : List (S57)) : List (S57))).bind fun y276 => (if x6_2.length + y276.length < 4398046511104 then (command_Answer.l0 k2 (x6_2 ++ y276) l1_2 (l1_2.length : Int) (wrap64 (x35_2 + 1))) else (none)))))) = some (r1, r2) := H
     have A29 := Aside0.mk A290
     clear A290
     replace H := Option.bind_eq_some_iff.mp H
     obtain ⟨⟨t267, t268, t269⟩, A300, H⟩ := H
     replace H : ((command_text.f ((rd_T48 l1_2 x35_2).f3)).bind fun bt270 => ((command_text.f ((rd_T48 l1_2 x35_2).f4)).bind fun bt273 => ((some (([(⟨t261, t262, t263⟩ : S57), (⟨t264, t265, t266⟩ : S57), (⟨t267, t268, t269⟩ : S57), (⟨bt270.1, bt270.2.1, bt270.2.2⟩ : S57), (⟨bt273.1, bt273.2.1, bt273.2.2⟩ : S57)] : List (S57)) : List (S57))).bind fun y276 => (if x6_2.length + y276.length < 4398046511104 then (command_Answer.l0 k2 (x6_2 ++ y276) l1_2 (l1_2.length : Int) (wrap64 (x35_2 + 1))) else (none))))) = some (r1, r2) := H
     have A30 := Aside0.mk A300
     clear A300
     replace H := Option.bind_eq_some_iff.mp H
     obtain ⟨⟨t270, t271, t272⟩, A310, H⟩ := H
     replace H : ((command_text.f ((rd_T48 l1_2 x35_2).f4)).bind fun bt273 => ((some (([(⟨t261, t262, t263⟩ : S57), (⟨t264, t265, t266⟩ : S57), (⟨t267, t268, t269⟩ : S57), (⟨t270, t271, t272⟩ : S57), (⟨bt273.1, bt273.2.1, bt273.2.2⟩ : S57)] : List (S57)) : List (S57))).bind fun y276 => (if x6_2.length + y276.length < 4398046511104 then (command_Answer.l0 k2 (x6_2 ++ y276) l1_2 (l1_2.length : Int) (wrap64 (x35_2 + 1))) else (none)))) = some (r1, r2) := H
     have A31 := Aside0.mk A310
     clear A310
     replace H := Option.bind_eq_some_iff.mp H
     obtain ⟨⟨t273, t274, t275⟩, A320, H⟩ := H
     replace H : ((some (([(⟨t261, t262, t263⟩ : S57), (⟨t264, t265, t266⟩ : S57), (⟨t267, t268, t269⟩ : S57), (⟨t270, t271, t272⟩ : S57), (⟨t273, t274, t275⟩ : S57)] : List (S57)) : List (S57))).bind fun y276 => (if x6_2.length + y276.length < 4398046511104 then (command_Answer.l0 k2 (x6_2 ++ y276) l1_2 (l1_2.length : Int) (wrap64 (x35_2 + 1))) else (none))) = some (r1, r2) := H
     have A32 := Aside0.mk A320
     clear A320
     obtain ⟨y276, hy276⟩ : ∃ y_ : List (S57), y_ = (([(⟨t261, t262, t263⟩ : S57), (⟨t264, t265, t266⟩ : S57), (⟨t267, t268, t269⟩ : S57), (⟨t270, t271, t272⟩ : S57), (⟨t273, t274, t275⟩ : S57)] : List (S57))) := ⟨_, rfl⟩
     replace H : (if x6_2.length + y276.length < 4398046511104 then (command_Answer.l0 k2 (x6_2 ++ y276) l1_2 (l1_2.length : Int) (wrap64 (x35_2 + 1))) else (none)) = some (r1, r2) := by first | (rw [hy276]; with_reducible exact H) | (have H2_ := (Option.bind_some _ _).symm.trans H; rw [hy276]; with_reducible exact H2_) | (have H2_ := (Option.bind_some _ _).symm.trans H; with_reducible exact H2_) | with_reducible exact H | (rw [hy276]; exact H) | exact H
     have Ny276 := Aside0.mk hy276
     clear hy276
     obtain ⟨c33, H⟩ := its H
     have LMc33 := Aside0.mk c33
     clear c33
     obtain ⟨y279, hy279⟩ : ∃ y_ : List (S57), y_ = (x6_2 ++ y276) := ⟨_, rfl⟩
     replace H : (command_Answer.l0 k2 y279 l1_2 (l1_2.length : Int) (wrap64 (x35_2 + 1))) = some (r1, r2) := by first | (rw [hy279]; with_reducible exact H) | (have H2_ := (Option.bind_some _ _).symm.trans H; rw [hy279]; with_reducible exact H2_) | (have H2_ := (Option.bind_some _ _).symm.trans H; with_reducible exact H2_) | with_reducible exact H | (rw [hy279]; exact H) | exact H
     have Ny279 := Aside0.mk hy279
     clear hy279
     have H' := Aside0.mk H
     clear H
     have p259 : 0 ≤ (x35_2 : Int) := od
     have q259 : x35_2 < (l1_2.length : Int) := od
     obtain ⟨bc, e259, ah, ai, aj, ak, al⟩ := at_T48 HR1_2.out x35_2 p259 q259
     cases e259
     replace ah := (HB.out.cell (World.block_lt_of_cell? w _ ah)).trans ah
     replace ai := (HB.out.cell (World.block_lt_of_cell? w _ ai)).trans ai
     replace aj := (HB.out.cell (World.block_lt_of_cell? w _ aj)).trans aj
     replace ak := (HB.out.cell (World.block_lt_of_cell? w _ ak)).trans ak
     replace al := (HB.out.cell (World.block_lt_of_cell? w _ al)).trans al
     replace p259 := eq_true p259
     replace q259 := eq_true q259
     try go_wp2_with (first | ((with_reducible refine gate_dst (N := 8) rfl ?_); refine box_event ?hg (N := 8) ?hd (cs := za0_) (t := 48) ?hr ?_; (case hd => rfl); (case hg => rfl); (case hr => first | (go_simp; done) | (go_simp; rfl)); intro ac hg w34 hbox hb; replace ad := Aside0.mk (Kd.R_below (r_ ad.out) hb); have ab := Aside0.mk (hbox); have GW260 := Aside0.mk ((g1 hg bw : w.heap.size ≤ ac)); have GE260 := Aside0.mk ((g1 hg bw : w.heap.size ≤ ac)); replace HB := Aside0.mk (below_step bw hb); have af := Aside0.mk ((n1 hg aa.out : ae ≠ ac)); have NB260_245 := Aside0.mk ((n2 hg aa.out : ac ≠ ae)); replace aa := Aside0.mk (nb aa.out hb); clear hb hbox hg; have hnb35 := NB260_245.out; have hnc35 := af.out; obtain ⟨hcz36_0, hcz36_1, hcz36_2, hcz36_3, hcz36_4, hfz36_0, hfz36_1, hfz36_2, hfz36_3, hfz36_4⟩ := bx5 ab.out))
     have n0_ : Aside0 (Kd.R k57 57 (((((w34.setCell ⟨ac, 0, none⟩ (.int .i64 ((rd_T48 l1_2 x35_2).f0))).setCell ⟨ac, 1, none⟩ (.string ((rd_T48 l1_2 x35_2).f1))).setCell ⟨ac, 2, none⟩ (.int .i64 ((rd_T48 l1_2 x35_2).f2))).setCell ⟨ac, 3, none⟩ (.string ((rd_T48 l1_2 x35_2).f3))).setCell ⟨ac, 4, none⟩ (.string ((rd_T48 l1_2 x35_2).f4))) w.heap.size (fun _ => True) u6 x6_2) := ⟨by (with_reducible repeat (first | apply Kd.R_alloc | apply Kd.R_drewN | apply Kd.R_drew)); exact Kd.R_mono (Kd.R_far (p := ⟨ac, 4, none⟩) (Kd.R_far (p := ⟨ac, 3, none⟩) (Kd.R_far (p := ⟨ac, 2, none⟩) (Kd.R_far (p := ⟨ac, 1, none⟩) (Kd.R_far (p := ⟨ac, 0, none⟩) (Kd.R_types ad.out ab.out (by decide)) (fun _ hk => hk.2) (.int .i64 ((rd_T48 l1_2 x35_2).f0))) (fun _ hk => hk.2) (.string ((rd_T48 l1_2 x35_2).f1))) (fun _ hk => hk.2) (.int .i64 ((rd_T48 l1_2 x35_2).f2))) (fun _ hk => hk.2) (.string ((rd_T48 l1_2 x35_2).f3))) (fun _ hk => hk.2) (.string ((rd_T48 l1_2 x35_2).f4))) (fun _ hk => trivial)⟩
     have n1_ : Aside0 ((((((w34.setCell ⟨ac, 0, none⟩ (.int .i64 ((rd_T48 l1_2 x35_2).f0))).setCell ⟨ac, 1, none⟩ (.string ((rd_T48 l1_2 x35_2).f1))).setCell ⟨ac, 2, none⟩ (.int .i64 ((rd_T48 l1_2 x35_2).f2))).setCell ⟨ac, 3, none⟩ (.string ((rd_T48 l1_2 x35_2).f3))).setCell ⟨ac, 4, none⟩ (.string ((rd_T48 l1_2 x35_2).f4))).heap[ae]? = some (.cells #[.int .i64 a1_0, .int .i64 a1_1, .slice (some bc) l1_2.length c1_2] 39 (0, 0))) := ⟨by (with_reducible repeat (first | refine blk_drewN ?_ _ | refine blk_drew ?_ | refine blk_alloc ?_ _ | refine blk_far ?_ af.out _)); exact aa.out⟩
     have n2_ : Aside0 ((((((w34.setCell ⟨ac, 0, none⟩ (.int .i64 ((rd_T48 l1_2 x35_2).f0))).setCell ⟨ac, 1, none⟩ (.string ((rd_T48 l1_2 x35_2).f1))).setCell ⟨ac, 2, none⟩ (.int .i64 ((rd_T48 l1_2 x35_2).f2))).setCell ⟨ac, 3, none⟩ (.string ((rd_T48 l1_2 x35_2).f3))).setCell ⟨ac, 4, none⟩ (.string ((rd_T48 l1_2 x35_2).f4))).heap[ac]? = some (.cells #[.int .i64 ((rd_T48 l1_2 x35_2).f0), .string ((rd_T48 l1_2 x35_2).f1), .int .i64 ((rd_T48 l1_2 x35_2).f2), .string ((rd_T48 l1_2 x35_2).f3), .string ((rd_T48 l1_2 x35_2).f4)] 48 (0, 0))) := ⟨by (with_reducible repeat (first | refine blk_drewN ?_ _ | refine blk_drew ?_ | refine blk_alloc ?_ _)); refine blk_put (cs := #[.int .i64 ((rd_T48 l1_2 x35_2).f0), .string ((rd_T48 l1_2 x35_2).f1), .int .i64 ((rd_T48 l1_2 x35_2).f2), .string ((rd_T48 l1_2 x35_2).f3), .string (⟨#[]⟩ : ByteArray)]) ?_ 4 _ rfl; (with_reducible repeat (first | refine blk_drewN ?_ _ | refine blk_drew ?_ | refine blk_alloc ?_ _)); refine blk_put (cs := #[.int .i64 ((rd_T48 l1_2 x35_2).f0), .string ((rd_T48 l1_2 x35_2).f1), .int .i64 ((rd_T48 l1_2 x35_2).f2), .string (⟨#[]⟩ : ByteArray), .string (⟨#[]⟩ : ByteArray)]) ?_ 3 _ rfl; (with_reducible repeat (first | refine blk_drewN ?_ _ | refine blk_drew ?_ | refine blk_alloc ?_ _)); refine blk_put (cs := #[.int .i64 ((rd_T48 l1_2 x35_2).f0), .string ((rd_T48 l1_2 x35_2).f1), .int .i64 0, .string (⟨#[]⟩ : ByteArray), .string (⟨#[]⟩ : ByteArray)]) ?_ 2 _ rfl; (with_reducible repeat (first | refine blk_drewN ?_ _ | refine blk_drew ?_ | refine blk_alloc ?_ _)); refine blk_put (cs := #[.int .i64 ((rd_T48 l1_2 x35_2).f0), .string (⟨#[]⟩ : ByteArray), .int .i64 0, .string (⟨#[]⟩ : ByteArray), .string (⟨#[]⟩ : ByteArray)]) ?_ 1 _ rfl; (with_reducible repeat (first | refine blk_drewN ?_ _ | refine blk_drew ?_ | refine blk_alloc ?_ _)); refine blk_put (cs := za0_) ?_ 0 _ rfl; (with_reducible repeat (first | refine blk_drewN ?_ _ | refine blk_drew ?_ | refine blk_alloc ?_ _)); exact ab.out⟩
     have n3_ : Aside0 (Below w.heap.size w (((((w34.setCell ⟨ac, 0, none⟩ (.int .i64 ((rd_T48 l1_2 x35_2).f0))).setCell ⟨ac, 1, none⟩ (.string ((rd_T48 l1_2 x35_2).f1))).setCell ⟨ac, 2, none⟩ (.int .i64 ((rd_T48 l1_2 x35_2).f2))).setCell ⟨ac, 3, none⟩ (.string ((rd_T48 l1_2 x35_2).f3))).setCell ⟨ac, 4, none⟩ (.string ((rd_T48 l1_2 x35_2).f4)))) := ⟨bw⟩
     (try clear ad)
     (try clear aa)
     (try clear ab)
     (try clear HB)
     generalize (((((w34.setCell ⟨ac, 0, none⟩ (.int .i64 ((rd_T48 l1_2 x35_2).f0))).setCell ⟨ac, 1, none⟩ (.string ((rd_T48 l1_2 x35_2).f1))).setCell ⟨ac, 2, none⟩ (.int .i64 ((rd_T48 l1_2 x35_2).f2))).setCell ⟨ac, 3, none⟩ (.string ((rd_T48 l1_2 x35_2).f3))).setCell ⟨ac, 4, none⟩ (.string ((rd_T48 l1_2 x35_2).f4))) = w37 at n0_ n1_ n2_ n3_ ⊢
     have ad := n0_
     have aa := n1_
     have ab := n2_
     have HB := n3_
     clear n0_ n1_ n2_ n3_
     replace ad := Aside0.mk (Kd.R_drew ad.out)
     replace aa := Aside0.mk (blk_drew aa.out)
     replace ab := Aside0.mk (blk_drew ab.out)
     replace HB := Aside0.mk (below_drew1 HB.out)
     refine start_ (n := 19) (S := fun w' => w'.cell? ⟨ac, 0, none⟩ = some (.int .i64 ((rd_T48 l1_2 x35_2).f0)) ∧ w'.cell? ⟨ac, 1, none⟩ = some (.string ((rd_T48 l1_2 x35_2).f1)) ∧ w'.cell? ⟨ac, 2, none⟩ = some (.int .i64 ((rd_T48 l1_2 x35_2).f2)) ∧ w'.cell? ⟨ac, 3, none⟩ = some (.string ((rd_T48 l1_2 x35_2).f3)) ∧ w'.cell? ⟨ac, 4, none⟩ = some (.string ((rd_T48 l1_2 x35_2).f4))) (ds := []) (bz 19 0) (by kernel_rfl) rfl rfl (by and_intros <;> first | exact (blk_cell ab.out _).trans rfl) (fun hHeld => ?_); refine with_tabW command_Answer.tab7 command_Answer.bits7 (fun HT_ HW_ => ?_)
     generalize w37.drew = w38 at ad aa ab HB hHeld ⊢
     refine pu_ 0 (some 39) (bz 19 1) HT_.out ?_
     refine pu_ 1 (some 40) (bz 19 3) HT_.out ?_
     refine pu_ 4 (some 43) (bz 19 19) HT_.out ?_
     refine pu_ 7 (some 46) (bz 19 147) HT_.out ?_
     refine pu_ 10 (some 49) (bz 19 1171) HT_.out ?_
     refine pu_ 13 (some 52) (bz 19 9363) HT_.out ?_
     refine take_ (i := 2) (N := some 41) (v := ?_) (a' := ?_) (bz 19 9367) rfl rfl (take_ofW HT_.out HW_.out (by kernel_rfl)) (fun _ _ _ h => h) (Or.inl ⟨by rfl, ?_⟩) hHeld ?_ ?_
     rotate_left
     ·rintro w' ⟨s0, s1, s2, s3, s4⟩
      go_simp
      with_reducible rfl
     rotate_left
     ·simp only [Act.put, sl1, sl2, sl3, i64_w, i32_w]
      rfl
     refine take_ (i := 5) (N := some 44) (v := ?_) (a' := ?_) (bz 19 9399) rfl rfl (take_ofW HT_.out HW_.out (by kernel_rfl)) (fun _ _ _ h => h) (Or.inl ⟨by rfl, ?_⟩) hHeld ?_ ?_
     rotate_left
     ·rintro w' ⟨s0, s1, s2, s3, s4⟩
      go_simp
      with_reducible rfl
     rotate_left
     ·simp only [Act.put, sl1, sl2, sl3, i64_w, i32_w]
      rfl
     refine take_ (i := 8) (N := some 47) (v := ?_) (a' := ?_) (bz 19 9655) rfl rfl (take_ofW HT_.out HW_.out (by kernel_rfl)) (fun _ _ _ h => h) (Or.inl ⟨by rfl, ?_⟩) hHeld ?_ ?_
     rotate_left
     ·rintro w' ⟨s0, s1, s2, s3, s4⟩
      go_simp
      with_reducible rfl
     rotate_left
     ·simp only [Act.put, sl1, sl2, sl3, i64_w, i32_w]
      rfl
     refine take_ (i := 11) (N := some 50) (v := ?_) (a' := ?_) (bz 19 11703) rfl rfl (take_ofW HT_.out HW_.out (by kernel_rfl)) (fun _ _ _ h => h) (Or.inl ⟨by rfl, ?_⟩) hHeld ?_ ?_
     rotate_left
     ·rintro w' ⟨s0, s1, s2, s3, s4⟩
      go_simp
      with_reducible rfl
     rotate_left
     ·simp only [Act.put, sl1, sl2, sl3, i64_w, i32_w]
      rfl
     refine take_ (i := 14) (N := some 53) (v := ?_) (a' := ?_) (bz 19 28087) rfl rfl (take_ofW HT_.out HW_.out (by kernel_rfl)) (fun _ _ _ h => h) (Or.inl ⟨by rfl, ?_⟩) hHeld ?_ ?_
     rotate_left
     ·rintro w' ⟨s0, s1, s2, s3, s4⟩
      go_simp
      with_reducible rfl
     rotate_left
     ·simp only [Act.put, sl1, sl2, sl3, i64_w, i32_w]
      rfl
     refine one_ (i := 3) (N := some 42) (bz 19 28095) rfl rfl (one_of HT_.out (by kernel_rfl)) (by decide) (fun K hK => ?_)
     refine goes_ Tryd.func32 (by kernel_rfl) rfl #[.int .i64 ((rd_T48 l1_2 x35_2).f0)] (by rfl) rfl rfl am ?_
     with_reducible refine (command_long.calls ((rd_T48 l1_2 x35_2).f0) t261 t262 t263 _ A28.out).mono ?_
     rintro e w39 ⟨rfl, hb⟩
     refine ⟨_, rfl, ?_⟩
     replace ad := Aside0.mk (Kd.R_below (r_ ad.out) hb)
     replace aa := Aside0.mk (nb aa.out hb)
     replace ab := Aside0.mk (nb ab.out hb)
     replace HB := Aside0.mk (below_step bw hb)
     (try clear hb)
     (try clear hb2)
     (try clear hk)
     (try clear hi)
     refine hK.out _ _ (by and_intros <;> first | exact (blk_cell ab.out _).trans rfl) (fun hHeld => ?_)
     clear hK K
     refine norm_ (a' := ?_) ?_ ?_
     rotate_left
     ·show Act.put _ (some 42) _ = _
      simp only [Act.put, sl1, sl2, sl3, i64_w, i32_w]
      rfl
     refine one_ (i := 6) (N := some 45) (bz 19 28159) rfl rfl (one_of HT_.out (by kernel_rfl)) (by decide) (fun K hK => ?_)
     refine goes_ Tryd.func31 (by kernel_rfl) rfl #[.string ((rd_T48 l1_2 x35_2).f1)] (by rfl) rfl rfl am ?_
     with_reducible refine (command_text.calls ((rd_T48 l1_2 x35_2).f1) t264 t265 t266 _ A29.out).mono ?_
     rintro e w40 ⟨rfl, hb⟩
     refine ⟨_, rfl, ?_⟩
     replace ad := Aside0.mk (Kd.R_below (r_ ad.out) hb)
     replace aa := Aside0.mk (nb aa.out hb)
     replace ab := Aside0.mk (nb ab.out hb)
     replace HB := Aside0.mk (below_step bw hb)
     (try clear hb)
     (try clear hb2)
     (try clear hk)
     (try clear hi)
     refine hK.out _ _ (by and_intros <;> first | exact (blk_cell ab.out _).trans rfl) (fun hHeld => ?_)
     clear hK K
     refine norm_ (a' := ?_) ?_ ?_
     rotate_left
     ·show Act.put _ (some 45) _ = _
      simp only [Act.put, sl1, sl2, sl3, i64_w, i32_w]
      rfl
     refine one_ (i := 9) (N := some 48) (bz 19 28671) rfl rfl (one_of HT_.out (by kernel_rfl)) (by decide) (fun K hK => ?_)
     refine goes_ Tryd.func32 (by kernel_rfl) rfl #[.int .i64 ((rd_T48 l1_2 x35_2).f2)] (by rfl) rfl rfl am ?_
     with_reducible refine (command_long.calls ((rd_T48 l1_2 x35_2).f2) t267 t268 t269 _ A30.out).mono ?_
     rintro e w41 ⟨rfl, hb⟩
     refine ⟨_, rfl, ?_⟩
     replace ad := Aside0.mk (Kd.R_below (r_ ad.out) hb)
     replace aa := Aside0.mk (nb aa.out hb)
     replace ab := Aside0.mk (nb ab.out hb)
     replace HB := Aside0.mk (below_step bw hb)
     (try clear hb)
     (try clear hb2)
     (try clear hk)
     (try clear hi)
     refine hK.out _ _ (by and_intros <;> first | exact (blk_cell ab.out _).trans rfl) (fun hHeld => ?_)
     clear hK K
     refine norm_ (a' := ?_) ?_ ?_
     rotate_left
     ·show Act.put _ (some 48) _ = _
      simp only [Act.put, sl1, sl2, sl3, i64_w, i32_w]
      rfl
     refine one_ (i := 12) (N := some 51) (bz 19 32767) rfl rfl (one_of HT_.out (by kernel_rfl)) (by decide) (fun K hK => ?_)
     refine goes_ Tryd.func31 (by kernel_rfl) rfl #[.string ((rd_T48 l1_2 x35_2).f3)] (by rfl) rfl rfl am ?_
     with_reducible refine (command_text.calls ((rd_T48 l1_2 x35_2).f3) t270 t271 t272 _ A31.out).mono ?_
     rintro e w42 ⟨rfl, hb⟩
     refine ⟨_, rfl, ?_⟩
     replace ad := Aside0.mk (Kd.R_below (r_ ad.out) hb)
     replace aa := Aside0.mk (nb aa.out hb)
     replace ab := Aside0.mk (nb ab.out hb)
     replace HB := Aside0.mk (below_step bw hb)
     (try clear hb)
     (try clear hb2)
     (try clear hk)
     (try clear hi)
     refine hK.out _ _ (by and_intros <;> first | exact (blk_cell ab.out _).trans rfl) (fun hHeld => ?_)
     clear hK K
     refine norm_ (a' := ?_) ?_ ?_
     rotate_left
     ·show Act.put _ (some 51) _ = _
      simp only [Act.put, sl1, sl2, sl3, i64_w, i32_w]
      rfl
     refine one_ (i := 15) (N := some 54) (bz 19 65535) rfl rfl (one_of HT_.out (by kernel_rfl)) (by decide) (fun K hK => ?_)
     refine goes_ Tryd.func31 (by kernel_rfl) rfl #[.string ((rd_T48 l1_2 x35_2).f4)] (by rfl) rfl rfl am ?_
     with_reducible refine (command_text.calls ((rd_T48 l1_2 x35_2).f4) t273 t274 t275 _ A32.out).mono ?_
     rintro e w43 ⟨rfl, hb⟩
     refine ⟨_, rfl, ?_⟩
     replace ad := Aside0.mk (Kd.R_below (r_ ad.out) hb)
     replace aa := Aside0.mk (nb aa.out hb)
     replace ab := Aside0.mk (nb ab.out hb)
     replace HB := Aside0.mk (below_step bw hb)
     (try clear hb)
     (try clear hb2)
     (try clear hk)
     (try clear hi)
     refine hK.out _ _ (by and_intros <;> first | exact (blk_cell ab.out _).trans rfl) (fun hHeld => ?_)
     clear hK K
     refine norm_ (a' := ?_) ?_ ?_
     rotate_left
     ·show Act.put _ (some 54) _ = _
      simp only [Act.put, sl1, sl2, sl3, i64_w, i32_w]
      rfl
     refine one_ (i := 16) (N := some 55) (bz 19 131071) rfl rfl (one_of HT_.out (by kernel_rfl)) (by decide) (fun K hK => ?_)
     refine Kd.R_lit_step k57 _ 57 ?hg (N := 55) ?hd (xs := ([(⟨t261, t262, t263⟩ : S57), (⟨t264, t265, t266⟩ : S57), (⟨t267, t268, t269⟩ : S57), (⟨t270, t271, t272⟩ : S57), (⟨t273, t274, t275⟩ : S57)] : List (S57))) (inner := [.int .i64 t261, .int .u64 t262, .string t263, .int .i64 t264, .int .u64 t265, .string t266, .int .i64 t267, .int .u64 t268, .string t269, .int .i64 t270, .int .u64 t271, .string t272, .int .i64 t273, .int .u64 t274, .string t275]) (ok := fun _ => True) (okp := fun _ => True) ?hr ?hp (fun _ hk => hk) trivial (Below.refl _ _) (Nat.le_refl _) (by simp) ?_; (case hd => rfl); (case hg => rfl); (case hr => first | (go_simp; done) | (go_simp; rfl)); (case hp => exact (Reps.c3 (show Kd.M k57 _ _ _ (⟨t261, t262, t263⟩ : S57) [.int .i64 t261, .int .u64 t262, .string t263] from (k57_mkM _ _ _ (⟨t261, t262, t263⟩ : S57) )) (Reps.c3 (show Kd.M k57 _ _ _ (⟨t264, t265, t266⟩ : S57) [.int .i64 t264, .int .u64 t265, .string t266] from (k57_mkM _ _ _ (⟨t264, t265, t266⟩ : S57) )) (Reps.c3 (show Kd.M k57 _ _ _ (⟨t267, t268, t269⟩ : S57) [.int .i64 t267, .int .u64 t268, .string t269] from (k57_mkM _ _ _ (⟨t267, t268, t269⟩ : S57) )) (Reps.c3 (show Kd.M k57 _ _ _ (⟨t270, t271, t272⟩ : S57) [.int .i64 t270, .int .u64 t271, .string t272] from (k57_mkM _ _ _ (⟨t270, t271, t272⟩ : S57) )) (Reps.c3 (show Kd.M k57 _ _ _ (⟨t273, t274, t275⟩ : S57) [.int .i64 t273, .int .u64 t274, .string t275] from (k57_mkM _ _ _ (⟨t273, t274, t275⟩ : S57) )) (Reps.none _ _)))))))
     intro v277 w44 ho45 hb hg_ hnew_
     clear hg_ hnew_
     (first | rw [← Ny276.out] at ho45 | (simp only [Int.reduceToNat] at ho45; rw [← Ny276.out] at ho45))
     have ag := Aside0.mk (Kd.R_lower (Kd.R_new' ho45 (Kd.R_lt (r_ ad.out))) (below_size bw))
     replace ad := Aside0.mk (Kd.R_elder' (r_ ad.out) (Kd.R_base ho45) hb)
     replace aa := Aside0.mk (nb aa.out hb)
     replace ab := Aside0.mk (nb ab.out hb)
     replace HB := Aside0.mk (below_step bw hb)
     clear hb ho45
     obtain ⟨Ao47, co47, bd⟩ := Kd.R_slice ag.out
     (first | subst bd | (injection bd with f1_ f2_ f3_; have f4_ := f1_.symm; have f5_ := f3_.symm; clear f1_ f2_ f3_; subst f4_; subst f5_))
     refine hK.out _ _ (by and_intros <;> first | exact (blk_cell ab.out _).trans rfl) (fun hHeld => ?_)
     clear hK K
     refine norm_ (a' := ?_) ?_ ?_
     rotate_left
     ·show Act.put _ (some 55) _ = _
      simp only [Act.put, sl1, sl2, sl3, i64_w, i32_w]
      rfl
     refine one_ (i := 17) (N := some 56) (bz 19 262143) rfl rfl (one_of HT_.out (by kernel_rfl)) (by decide) (fun K hK => ?_)
     refine Kd.R_append_rows_step k57 (w0 := w) w.heap.size (by rfl) (.tmp 39) (.tmp 55) 60 57 (.agg #[(.int .i64 0), (.int .u64 0), (.string ⟨#[]⟩)]) 32 rfl Tryd.underlying60 info57 rfl (by decide) (by omega) u6 x6_2 y276 _ _ _ (fun k_ => some k_ ≠ (.slice Ao47 y276.length co47 : Value).ownBlock) (fun _ => False) rfl rfl ?aO ?aR (fun _ _ h => h) (fun _ h => h.elim) ?aF ?aB ?aS ?aL ?_
     (case aR => repeat (first | exact (Kd.R_reads' ag.out).2.2 | (with_reducible refine Kd.C_alloc ?_ _) | (with_reducible refine Kd.C_drewN ?_ _) | (with_reducible refine Kd.C_drew ?_)))
     (case aB => exact bw)
     (case aF => exact (fun k_ hk => Kd.fresh' (Kd.R_lt (r_ ag.out)) k_ hk))
     (case aO => exact (by (with_reducible repeat (first | apply Kd.R_alloc | apply Kd.R_drewN | apply Kd.R_drew)); exact Kd.R_mono ad.out (fun _ hk => hk.2)))
     (case aS => exact (below_size bw))
     (case aL => have := LMc33.out; omega)
     intro v280 w46 ho hb hg hat
     rw [← Ny279.out] at ho
     replace aa := Aside0.mk (blk_grown (g := ae) (o := .cells #[.int .i64 a1_0, .int .i64 a1_1, .slice (some bc) l1_2.length c1_2] 39 (0, 0)) (bk aa.out) hg (Kd.R_ne ad.out aa.out (by decide)))
     replace ab := Aside0.mk (blk_grown (g := ac) (o := .cells #[.int .i64 ((rd_T48 l1_2 x35_2).f0), .string ((rd_T48 l1_2 x35_2).f1), .int .i64 ((rd_T48 l1_2 x35_2).f2), .string ((rd_T48 l1_2 x35_2).f3), .string ((rd_T48 l1_2 x35_2).f4)] 48 (0, 0)) (bk ab.out) hg (Kd.R_ne ad.out ab.out (by decide)))
     replace ag := Aside0.mk (Kd.R_after (ok := (fun _ => True)) (r_ ag.out) hg hat)
     replace HB := Aside0.mk (hb)
     have HO281 := Aside0.mk (ho)
     clear ad
     clear ho hb hg hat
     refine hK.out _ _ (by and_intros <;> first | exact (blk_cell ab.out _).trans rfl) (fun hHeld => ?_)
     clear hK K
     refine norm_ (a' := ?_) ?_ ?_
     rotate_left
     ·show Act.put _ (some 56) _ = _
      simp only [Act.put, sl1, sl2, sl3, i64_w, i32_w]
      rfl
     refine pu_ 18 (some 6) (bz 19 524287) HT_.out ?_
     refine done_ (done_of HT_.out (by kernel_rfl)) ?_
     try go_wp2
     go_roundg k2
     case measure => have := HJ2.out; have := HK2.out; omega
     case rel => exact ⟨(y279), (wrap64 (x35_2 + 1)), (by first | rfl | (simp; done) | (simp [*]; done)), H', ⟨by have := HJ2.out; have := HK2.out; omega⟩, ⟨by (with_reducible repeat (first | apply Kd.R_alloc | apply Kd.R_drewN | apply Kd.R_drew)); exact Kd.R_mono HO281.out (fun _ hk => trivial)⟩, ⟨by (with_reducible repeat (first | refine blk_drewN ?_ _ | refine blk_drew ?_ | refine blk_alloc ?_ _)); exact aa.out⟩, ⟨bw⟩⟩

end Go.Proofs.YtpgiagdpepkooaaDoor.P
