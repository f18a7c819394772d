-- Printed by this session's program wip/xp.py (a turned copy of the kit's printer): functions, their contracts.
import Derived.Test.YtpgiagdpepkooaaDoorPx0
import Derived.Test.YtpgiagdpepkooaaDoorPx15
import Derived.Test.YtpgiagdpepkooaaDoorPx16
import Derived.Test.YtpgiagdpepkooaaDoorPx20
import Derived.Test.YtpgiagdpepkooaaDoorPx21
namespace Go.Proofs.YtpgiagdpepkooaaDoor.P
open Go.RowKit Go.Proofs.YtpgiagdpepkooaaDoorW.PrintWords Go.Proofs.YtpgiagdpepkooaaDoorW.PrintLast Go.Proofs.YtpgiagdpepkooaaDoorW.PrintMore
attribute [local go_sem] max2_int min2_int max_two min_two max_three min_three max_four min_four   -- for this text's walks alone
set_option linter.unusedVariables false
set_option linter.unusedSimpArgs false

/-! ### carillonref14_Answer: function 25 -/
def carillonref14_Answer.l0 : Nat → List (S57) → Int → Int → Int → List (S48) → Option (ByteArray × Bool)
 | 0, _, _, _, _, _ => none
 | k + 1, x7, x8, x575000, x575001, x575002 => if x8 < (x575002.length : Int) then (if 0 ≤ x8 then ((carillonref14_long.f ((rd_T48 x575002 x8).f0)).bind fun bt590 => ((carillonref14_text.f ((rd_T48 x575002 x8).f1)).bind fun bt593 => ((carillonref14_long.f ((rd_T48 x575002 x8).f2)).bind fun bt596 => ((carillonref14_text.f ((rd_T48 x575002 x8).f3)).bind fun bt599 => ((carillonref14_text.f ((rd_T48 x575002 x8).f4)).bind fun bt602 => ((some (([(⟨bt590.1, bt590.2.1, bt590.2.2⟩ : S57), (⟨bt593.1, bt593.2.1, bt593.2.2⟩ : S57), (⟨bt596.1, bt596.2.1, bt596.2.2⟩ : S57), (⟨bt599.1, bt599.2.1, bt599.2.2⟩ : S57), (⟨bt602.1, bt602.2.1, bt602.2.2⟩ : S57)] : List (S57)) : List (S57))).bind fun y605 => (if x7.length + y605.length < 4398046511104 then (carillonref14_Answer.l0 k (x7 ++ y605) (wrap64 (x8 + 1)) x575000 x575001 x575002) else (none)))))))) else (none)) else ((carillonref01_Encode.f k x7).bind fun bt611 => ((carillonref02_Frame.f k bt611.1).bind fun bt613 => (some (bt613.1, true))))
def carillonref14_Answer.f (k : Nat) (a0 : Int) (a1_0 : Int) (a1_1 : Int) (l1_2 : List (S48)) : Option (ByteArray × Bool) := (carillonref14_RightReply.f k a1_0 a1_1 l1_2).bind fun t575 => (if t575 = true then (if a0 < 0 then (some ((⟨#[]⟩ : ByteArray), false)) else (if a0 > 9007199254740991 then (some ((⟨#[]⟩ : ByteArray), false)) else ((carillonref14_long.f a0).bind fun bt576 => ((carillonref14_small.f a1_0).bind fun bt579 => ((carillonref14_long.f (wrap64 (a1_1 + 1))).bind fun bt582 => (carillonref14_Answer.l0 k (([(⟨bt576.1, bt576.2.1, bt576.2.2⟩ : S57), (⟨bt579.1, bt579.2.1, bt579.2.2⟩ : S57), (⟨bt582.1, bt582.2.1, bt582.2.2⟩ : S57)] : List (S57))) 0 a1_0 a1_1 l1_2)))))) else (some ((⟨#[]⟩ : ByteArray), false)))
def carillonref14_Answer.T4 : Bool × List (List Nat × List Nat) := (true, [([], []), ([0], [0]), ([], []), ([2], [2]), ([3, 1], [3]), ([], []), ([5], [5]), ([6], [6]), ([7, 4], [7]), ([1, 4, 8], [1, 4, 8]), ([9, 8, 0, 1, 2, 3, 4, 5, 6, 7, 8, 9], [9])])
def carillonref14_Answer.B4 : List Nat := [0, 1, 0, 4, 15, 0, 32, 96, 255, 511, 1023]
theorem carillonref14_Answer.tab4 : rtab .any (opsOf Tryd.f25 4) = carillonref14_Answer.T4 := by kernel_rfl
theorem carillonref14_Answer.bits4 : waitsOk carillonref14_Answer.T4.2 carillonref14_Answer.B4 = true := by kernel_rfl
def carillonref14_Answer.T9 : Bool × List (List Nat × List Nat) := (true, [([], []), ([], []), ([1], [1]), ([2], [2]), ([], []), ([4], [4]), ([5, 3], [5]), ([], []), ([7], [7]), ([8, 6], [8]), ([], []), ([10], [10]), ([11, 9], [11]), ([], []), ([13], [13]), ([14, 12], [14]), ([3, 6, 9, 12, 15], [3, 6, 9, 12, 15]), ([0, 16, 15], [0, 16]), ([17, 17, 0, 1, 2, 3, 4, 5, 6, 7, 8, 9, 10, 11, 12, 13, 14, 15, 16, 17], [0, 17])])
def carillonref14_Answer.B9 : List Nat := [0, 0, 2, 6, 0, 16, 62, 0, 128, 510, 0, 1024, 4094, 0, 8192, 32766, 65534, 131071, 262143]
theorem carillonref14_Answer.tab9 : rtab .any (opsOf Tryd.f25 9) = carillonref14_Answer.T9 := by kernel_rfl
theorem carillonref14_Answer.bits9 : waitsOk carillonref14_Answer.T9.2 carillonref14_Answer.B9 = true := by kernel_rfl
set_option maxHeartbeats 8000000 in
set_option maxRecDepth 100000 in
theorem carillonref14_Answer.calls (k : Nat) (a0 : Int) (a1_0 : Int) (a1_1 : Int) (A1_2 : Option Addr) (c1_2 : Nat) (l1_2 : List (S48)) (r1 : ByteArray) (r2 : Bool) (w : World) (hr1_2 : Kd.C k48 w A1_2 l1_2.length l1_2) (hc1_2 : l1_2.length ≤ c1_2) (h : carillonref14_Answer.f k a0 a1_0 a1_1 l1_2 = some (r1, r2)) :
  Calls Tryd.prog 25 #[.int .i64 a0, .agg #[.int .i64 a1_0, .int .i64 a1_1, .slice A1_2 l1_2.length c1_2]] w fun e w' => e = .returned (.tuple #[.string r1, .bool r2]) ∧ Below w.heap.size w w' := by
 have hu39 := Tryd.underlying39
 have hu48 := Tryd.underlying48
 have HR1_2 := Aside0.mk hr1_2
 have HC1_2 := Aside0.mk hc1_2
 clear hr1_2 hc1_2
 have HB := Aside0.mk (Below.refl w.heap.size w)
 have H := h
 unfold carillonref14_Answer.f at H
 clear h
 replace H := Option.bind_eq_some_iff.mp H
 obtain ⟨t575, A30, H⟩ := H
 have A3 := Aside0.mk A30
 clear A30
 by_cases c4 : t575 = true; rotate_left
 ·replace c4 := Bool.eq_false_iff.mpr c4
  subst c4
  have H1 : (some ((⟨#[]⟩ : ByteArray), false)) = some (r1, r2) := by rw [if_neg (show ¬ (false = true) by decide)] at H; exact H
  clear H
  have H := H1
  clear H1
  simp only [Option.some.injEq, Prod.mk.injEq] at H
  obtain ⟨rfl, rfl⟩ := H
  go_enter Tryd.func25, Tryd.ntmps25
  go_wp2_with (first | ((with_reducible refine gate_dst (N := 3) rfl ?_); refine box_event ?hg (N := 3) ?hd (cs := #[.int .i64 a1_0, .int .i64 a1_1, .slice A1_2 l1_2.length c1_2]) (t := 39) ?hr ?_; (case hd => rfl); (case hg => rfl); (case hr => first | (go_simp; done) | (go_simp; rfl)); intro ae hg w54 hbox hb; have aa := Aside0.mk (hbox); have an := Aside0.mk ((g1 hg bw : w.heap.size ≤ ae)); have ao := Aside0.mk ((g1 hg bw : w.heap.size ≤ ae)); replace HB := Aside0.mk (below_step bw hb); clear hb hbox hg; obtain ⟨hcz55_0, hcz55_1, hcz55_2, hfz55_0, hfz55_1, hfz55_2⟩ := bx3 aa.out) | ((with_reducible refine gate_callee (f := 52) rfl ?_); refine goesL_ (some 15) rfl rfl Tryd.func52 (by kernel_rfl) rfl #[.agg #[.int .i64 a1_0, .int .i64 a1_1, .slice A1_2 l1_2.length c1_2]] rfl am ?_; (with_reducible refine (carillonref14_RightReply.calls k a1_0 a1_1 _ _ l1_2 false _ ?side1 ?side2 A3.out).mono ?_); (case side1 => repeat (first | exact (Kd.C_below HR1_2.out HB.out) | (with_reducible refine Kd.C_alloc ?_ _) | (with_reducible refine Kd.C_drewN ?_ _) | (with_reducible refine Kd.C_drew ?_))); (case side2 => exact HC1_2.out); rintro e w56 ⟨rfl, hb⟩; refine ⟨_, rfl, ?_⟩; replace aa := Aside0.mk (nb aa.out hb); replace HB := Aside0.mk (below_step bw hb); (try clear hb)))
  go_ret2
  exact ⟨er, bw⟩
 subst c4
 have H1 := H
 rw [if_pos rfl] at H1
 clear H
 have H := H1
 clear H1
 by_cases c5 : a0 < 0
 ·rw [if_pos c5] at H
  have aq : decide (a0 < 0) = true := decide_eq_true c5
  clear c5
  simp only [Option.some.injEq, Prod.mk.injEq] at H
  obtain ⟨rfl, rfl⟩ := H
  go_enter Tryd.func25, Tryd.ntmps25
  go_wp2_with (first | ((with_reducible refine gate_dst (N := 3) rfl ?_); refine box_event ?hg (N := 3) ?hd (cs := #[.int .i64 a1_0, .int .i64 a1_1, .slice A1_2 l1_2.length c1_2]) (t := 39) ?hr ?_; (case hd => rfl); (case hg => rfl); (case hr => first | (go_simp; done) | (go_simp; rfl)); intro ae hg w6 hbox hb; have aa := Aside0.mk (hbox); have an := Aside0.mk ((g1 hg bw : w.heap.size ≤ ae)); have ao := Aside0.mk ((g1 hg bw : w.heap.size ≤ ae)); replace HB := Aside0.mk (below_step bw hb); clear hb hbox hg; obtain ⟨hcz7_0, hcz7_1, hcz7_2, hfz7_0, hfz7_1, hfz7_2⟩ := bx3 aa.out) | ((with_reducible refine gate_callee (f := 52) rfl ?_); refine goesL_ (some 15) rfl rfl Tryd.func52 (by kernel_rfl) rfl #[.agg #[.int .i64 a1_0, .int .i64 a1_1, .slice A1_2 l1_2.length c1_2]] rfl am ?_; (with_reducible refine (carillonref14_RightReply.calls k a1_0 a1_1 _ _ l1_2 true _ ?side1 ?side2 A3.out).mono ?_); (case side1 => repeat (first | exact (Kd.C_below HR1_2.out HB.out) | (with_reducible refine Kd.C_alloc ?_ _) | (with_reducible refine Kd.C_drewN ?_ _) | (with_reducible refine Kd.C_drew ?_))); (case side2 => exact HC1_2.out); rintro e w8 ⟨rfl, hb⟩; refine ⟨_, rfl, ?_⟩; replace aa := Aside0.mk (nb aa.out hb); replace HB := Aside0.mk (below_step bw hb); (try clear hb)))
  go_ret2
  exact ⟨er, bw⟩
 rw [if_neg c5] at H
 have aq : decide (a0 < 0) = false := decide_eq_false c5
 clear c5
 by_cases c9 : a0 > 9007199254740991
 ·rw [if_pos c9] at H
  have ar : decide (9007199254740991 < a0) = true := decide_eq_true c9
  clear c9
  simp only [Option.some.injEq, Prod.mk.injEq] at H
  obtain ⟨rfl, rfl⟩ := H
  go_enter Tryd.func25, Tryd.ntmps25
  go_wp2_with (first | ((with_reducible refine gate_dst (N := 3) rfl ?_); refine box_event ?hg (N := 3) ?hd (cs := #[.int .i64 a1_0, .int .i64 a1_1, .slice A1_2 l1_2.length c1_2]) (t := 39) ?hr ?_; (case hd => rfl); (case hg => rfl); (case hr => first | (go_simp; done) | (go_simp; rfl)); intro ae hg w10 hbox hb; have aa := Aside0.mk (hbox); have an := Aside0.mk ((g1 hg bw : w.heap.size ≤ ae)); have ao := Aside0.mk ((g1 hg bw : w.heap.size ≤ ae)); replace HB := Aside0.mk (below_step bw hb); clear hb hbox hg; obtain ⟨hcz11_0, hcz11_1, hcz11_2, hfz11_0, hfz11_1, hfz11_2⟩ := bx3 aa.out) | ((with_reducible refine gate_callee (f := 52) rfl ?_); refine goesL_ (some 15) rfl rfl Tryd.func52 (by kernel_rfl) rfl #[.agg #[.int .i64 a1_0, .int .i64 a1_1, .slice A1_2 l1_2.length c1_2]] rfl am ?_; (with_reducible refine (carillonref14_RightReply.calls k a1_0 a1_1 _ _ l1_2 true _ ?side1 ?side2 A3.out).mono ?_); (case side1 => repeat (first | exact (Kd.C_below HR1_2.out HB.out) | (with_reducible refine Kd.C_alloc ?_ _) | (with_reducible refine Kd.C_drewN ?_ _) | (with_reducible refine Kd.C_drew ?_))); (case side2 => exact HC1_2.out); rintro e w12 ⟨rfl, hb⟩; refine ⟨_, rfl, ?_⟩; replace aa := Aside0.mk (nb aa.out hb); replace HB := Aside0.mk (below_step bw hb); (try clear hb)))
  go_ret2
  exact ⟨er, bw⟩
 rw [if_neg c9] at H
 have ar : decide (9007199254740991 < a0) = false := decide_eq_false c9
 clear c9
 replace H := Option.bind_eq_some_iff.mp H
 obtain ⟨⟨t576, t577, t578⟩, A130, H⟩ := H
 replace H : ((carillonref14_small.f a1_0).bind fun bt579 => ((carillonref14_long.f (wrap64 (a1_1 + 1))).bind fun bt582 => (carillonref14_Answer.l0 k (([(⟨t576, t577, t578⟩ : S57), (⟨bt579.1, bt579.2.1, bt579.2.2⟩ : S57), (⟨bt582.1, bt582.2.1, bt582.2.2⟩ : S57)] : List (S57))) 0 a1_0 a1_1 l1_2))) = some (r1, r2) := H
 have A13 := Aside0.mk A130
 clear A130
 replace H := Option.bind_eq_some_iff.mp H
 obtain ⟨⟨t579, t580, t581⟩, A140, H⟩ := H
 replace H : ((carillonref14_long.f (wrap64 (a1_1 + 1))).bind fun bt582 => (carillonref14_Answer.l0 k (([(⟨t576, t577, t578⟩ : S57), (⟨t579, t580, t581⟩ : S57), (⟨bt582.1, bt582.2.1, bt582.2.2⟩ : S57)] : List (S57))) 0 a1_0 a1_1 l1_2)) = some (r1, r2) := H
 have A14 := Aside0.mk A140
 clear A140
 replace H := Option.bind_eq_some_iff.mp H
 obtain ⟨⟨t582, t583, t584⟩, A150, H⟩ := H
 replace H : (carillonref14_Answer.l0 k (([(⟨t576, t577, t578⟩ : S57), (⟨t579, t580, t581⟩ : S57), (⟨t582, t583, t584⟩ : S57)] : List (S57))) 0 a1_0 a1_1 l1_2) = some (r1, r2) := H
 have A15 := Aside0.mk A150
 clear A150
 obtain ⟨y585, hy585⟩ : ∃ y_ : List (S57), y_ = (([(⟨t576, t577, t578⟩ : S57), (⟨t579, t580, t581⟩ : S57), (⟨t582, t583, t584⟩ : S57)] : List (S57))) := ⟨_, rfl⟩
 replace H : (carillonref14_Answer.l0 k y585 0 a1_0 a1_1 l1_2) = some (r1, r2) := by first | (rw [hy585]; with_reducible exact H) | (have H2_ := (Option.bind_some _ _).symm.trans H; rw [hy585]; with_reducible exact H2_) | (have H2_ := (Option.bind_some _ _).symm.trans H; with_reducible exact H2_) | with_reducible exact H | (rw [hy585]; exact H) | exact H
 have Ny585 := Aside0.mk hy585
 clear hy585
 have H' := Aside0.mk H
 clear H
 go_enter Tryd.func25, Tryd.ntmps25
 try go_wp2_with (first | ((with_reducible refine gate_dst (N := 3) rfl ?_); refine box_event ?hg (N := 3) ?hd (cs := #[.int .i64 a1_0, .int .i64 a1_1, .slice A1_2 l1_2.length c1_2]) (t := 39) ?hr ?_; (case hd => rfl); (case hg => rfl); (case hr => first | (go_simp; done) | (go_simp; rfl)); intro ae hg w16 hbox hb; have aa := Aside0.mk (hbox); have an := Aside0.mk ((g1 hg bw : w.heap.size ≤ ae)); have ao := Aside0.mk ((g1 hg bw : w.heap.size ≤ ae)); replace HB := Aside0.mk (below_step bw hb); clear hb hbox hg; obtain ⟨hcz17_0, hcz17_1, hcz17_2, hfz17_0, hfz17_1, hfz17_2⟩ := bx3 aa.out) | ((with_reducible refine gate_callee (f := 52) rfl ?_); refine goesL_ (some 15) rfl rfl Tryd.func52 (by kernel_rfl) rfl #[.agg #[.int .i64 a1_0, .int .i64 a1_1, .slice A1_2 l1_2.length c1_2]] rfl am ?_; (with_reducible refine (carillonref14_RightReply.calls k a1_0 a1_1 _ _ l1_2 true _ ?side1 ?side2 A3.out).mono ?_); (case side1 => repeat (first | exact (Kd.C_below HR1_2.out HB.out) | (with_reducible refine Kd.C_alloc ?_ _) | (with_reducible refine Kd.C_drewN ?_ _) | (with_reducible refine Kd.C_drew ?_))); (case side2 => exact HC1_2.out); rintro e w18 ⟨rfl, hb⟩; refine ⟨_, rfl, ?_⟩; replace aa := Aside0.mk (nb aa.out hb); replace HB := Aside0.mk (below_step bw hb); (try clear hb)))
 replace aa := Aside0.mk (blk_drew aa.out)
 replace HB := Aside0.mk (below_drew1 HB.out)
 refine start_ (n := 11) (S := fun w' => w'.cell? ⟨ae, 0, none⟩ = some (.int .i64 a1_0) ∧ w'.cell? ⟨ae, 1, none⟩ = some (.int .i64 a1_1) ∧ w'.cell? ⟨ae, 2, none⟩ = some (.slice A1_2 l1_2.length c1_2)) (ds := []) (bz 11 0) (by kernel_rfl) rfl rfl ⟨(blk_cell aa.out 0).trans rfl, (blk_cell aa.out 1).trans rfl, (blk_cell aa.out 2).trans rfl⟩ (fun hHeld => ?_); refine with_tabW carillonref14_Answer.tab4 carillonref14_Answer.bits4 (fun HT_ HW_ => ?_)
 generalize w18.drew = w19 at aa HB hHeld ⊢
 refine pu_ 0 (some 26) (bz 11 1) HT_.out ?_
 refine pu_ 2 (some 28) (bz 11 5) HT_.out ?_
 refine pu_ 5 (some 31) (bz 11 37) HT_.out ?_
 refine take_ (i := 3) (N := some 29) (v := ?_) (a' := ?_) (bz 11 45) rfl rfl (take_ofW HT_.out HW_.out (by kernel_rfl)) (fun _ _ _ h => h) (Or.inl ⟨by rfl, ?_⟩) hHeld ?_ ?_
 rotate_left
 ·rintro w' ⟨s0, s1, s2⟩
  go_simp
  with_reducible rfl
 rotate_left
 ·simp only [Act.put, sl1, sl2, sl3, i64_w, i32_w]
  rfl
 refine take_ (i := 6) (N := some 32) (v := ?_) (a' := ?_) (bz 11 109) rfl rfl (take_ofW HT_.out HW_.out (by kernel_rfl)) (fun _ _ _ h => h) (Or.inl ⟨by rfl, ?_⟩) hHeld ?_ ?_
 rotate_left
 ·rintro w' ⟨s0, s1, s2⟩
  go_simp
  with_reducible rfl
 rotate_left
 ·simp only [Act.put, sl1, sl2, sl3, i64_w, i32_w]
  rfl
 refine pu_ 7 (some 33) (bz 11 237) HT_.out ?_
 refine one_ (i := 1) (N := some 27) (bz 11 239) rfl rfl (one_of HT_.out (by kernel_rfl)) (by decide) (fun K hK => ?_)
 refine goes_ Tryd.func36 (by kernel_rfl) rfl #[.int .i64 a0] (by rfl) rfl rfl am ?_
 with_reducible refine (carillonref14_long.calls a0 t576 t577 t578 _ A13.out).mono ?_
 rintro e w20 ⟨rfl, hb⟩
 refine ⟨_, rfl, ?_⟩
 replace aa := Aside0.mk (nb aa.out hb)
 replace HB := Aside0.mk (below_step bw hb)
 (try clear hb)
 (try clear hb2)
 (try clear hk)
 (try clear hi)
 refine hK.out _ _ ⟨(blk_cell aa.out 0).trans rfl, (blk_cell aa.out 1).trans rfl, (blk_cell aa.out 2).trans rfl⟩ (fun hHeld => ?_)
 clear hK K
 refine norm_ (a' := ?_) ?_ ?_
 rotate_left
 ·show Act.put _ (some 27) _ = _
  simp only [Act.put, sl1, sl2, sl3, i64_w, i32_w]
  rfl
 refine one_ (i := 4) (N := some 30) (bz 11 255) rfl rfl (one_of HT_.out (by kernel_rfl)) (by decide) (fun K hK => ?_)
 refine goes_ Tryd.func34 (by kernel_rfl) rfl #[.int .i64 a1_0] (by rfl) rfl rfl am ?_
 with_reducible refine (carillonref14_small.calls a1_0 t579 t580 t581 _ A14.out).mono ?_
 rintro e w21 ⟨rfl, hb⟩
 refine ⟨_, rfl, ?_⟩
 replace aa := Aside0.mk (nb aa.out hb)
 replace HB := Aside0.mk (below_step bw hb)
 (try clear hb)
 (try clear hb2)
 (try clear hk)
 (try clear hi)
 refine hK.out _ _ ⟨(blk_cell aa.out 0).trans rfl, (blk_cell aa.out 1).trans rfl, (blk_cell aa.out 2).trans rfl⟩ (fun hHeld => ?_)
 clear hK K
 refine norm_ (a' := ?_) ?_ ?_
 rotate_left
 ·show Act.put _ (some 30) _ = _
  simp only [Act.put, sl1, sl2, sl3, i64_w, i32_w]
  rfl
 refine one_ (i := 8) (N := some 34) (bz 11 511) rfl rfl (one_of HT_.out (by kernel_rfl)) (by decide) (fun K hK => ?_)
 refine goes_ Tryd.func36 (by kernel_rfl) rfl #[.int .i64 (wrap64 (a1_1 + 1))] (by rfl) rfl rfl am ?_
 with_reducible refine (carillonref14_long.calls (wrap64 (a1_1 + 1)) t582 t583 t584 _ A15.out).mono ?_
 rintro e w22 ⟨rfl, hb⟩
 refine ⟨_, rfl, ?_⟩
 replace aa := Aside0.mk (nb aa.out hb)
 replace HB := Aside0.mk (below_step bw hb)
 (try clear hb)
 (try clear hb2)
 (try clear hk)
 (try clear hi)
 refine hK.out _ _ ⟨(blk_cell aa.out 0).trans rfl, (blk_cell aa.out 1).trans rfl, (blk_cell aa.out 2).trans rfl⟩ (fun hHeld => ?_)
 clear hK K
 refine norm_ (a' := ?_) ?_ ?_
 rotate_left
 ·show Act.put _ (some 34) _ = _
  simp only [Act.put, sl1, sl2, sl3, i64_w, i32_w]
  rfl
 refine one_ (i := 9) (N := some 35) (bz 11 1023) rfl rfl (one_of HT_.out (by kernel_rfl)) (by decide) (fun K hK => ?_)
 refine Kd.R_lit_step k57 _ 57 ?hg (N := 35) ?hd (xs := ([(⟨t576, t577, t578⟩ : S57), (⟨t579, t580, t581⟩ : S57), (⟨t582, t583, t584⟩ : S57)] : List (S57))) (inner := [.int .i64 t576, .int .u64 t577, .string t578, .int .i64 t579, .int .u64 t580, .string t581, .int .i64 t582, .int .u64 t583, .string t584]) (ok := fun _ => True) (okp := fun _ => True) ?hr ?hp (fun _ hk => hk) trivial (Below.refl _ _) (Nat.le_refl _) (by simp) ?_; (case hd => rfl); (case hg => rfl); (case hr => first | (go_simp; done) | (go_simp; rfl)); (case hp => exact (Reps.c3 (show Kd.M k57 _ _ _ (⟨t576, t577, t578⟩ : S57) [.int .i64 t576, .int .u64 t577, .string t578] from (k57_mkM _ _ _ (⟨t576, t577, t578⟩ : S57) )) (Reps.c3 (show Kd.M k57 _ _ _ (⟨t579, t580, t581⟩ : S57) [.int .i64 t579, .int .u64 t580, .string t581] from (k57_mkM _ _ _ (⟨t579, t580, t581⟩ : S57) )) (Reps.c3 (show Kd.M k57 _ _ _ (⟨t582, t583, t584⟩ : S57) [.int .i64 t582, .int .u64 t583, .string t584] from (k57_mkM _ _ _ (⟨t582, t583, t584⟩ : S57) )) (Reps.none _ _)))))
 intro v586 w23 ho24 hb hg_ hnew_
 clear hg_ hnew_
 (first | rw [← Ny585.out] at ho24 | (simp only [Int.reduceToNat] at ho24; rw [← Ny585.out] at ho24))
 have HO587 := Aside0.mk (Kd.R_lower ho24 (below_size bw))
 replace aa := Aside0.mk (nb aa.out hb)
 replace HB := Aside0.mk (below_step bw hb)
 clear hb ho24
 refine hK.out _ _ ⟨(blk_cell aa.out 0).trans rfl, (blk_cell aa.out 1).trans rfl, (blk_cell aa.out 2).trans rfl⟩ (fun hHeld => ?_)
 clear hK K
 refine norm_ (a' := ?_) ?_ ?_
 rotate_left
 ·show Act.put _ (some 35) _ = _
  simp only [Act.put, sl1, sl2, sl3, i64_w, i32_w]
  rfl
 refine pu_ 10 (some 7) (bz 11 2047) HT_.out ?_
 refine done_ (done_of HT_.out (by kernel_rfl)) ?_
 try go_wp2
 go_loopg [7, 8] k (fun kq v7 v8 w' => ∃ (x7_1 : List (S57)) (x8_1 : Int), v8 = .int .i64 x8_1 ∧ Aside0 (carillonref14_Answer.l0 kq x7_1 x8_1 a1_0 a1_1 l1_2 = some (r1, r2)) ∧ Aside0 (kq ≤ k) ∧ Aside0 (Kd.R k57 57 w' w.heap.size (fun _ => True) v7 x7_1) ∧ Aside0 (w'.heap[ae]? = some (.cells #[.int .i64 a1_0, .int .i64 a1_1, (.slice A1_2 l1_2.length c1_2)] 39 (0, 0))) ∧ Aside0 (Below w.heap.size w w'))
 case atStart => exact ⟨(y585), (0), (by first | rfl | (simp; done) | (simp [*]; done)), H', ⟨Nat.le_refl _⟩, ⟨r_ HO587.out⟩, ⟨by (with_reducible repeat (first | refine blk_drewN ?_ _ | refine blk_drew ?_ | refine blk_alloc ?_ _)); exact aa.out⟩, ⟨bw⟩⟩
 case round =>
  clear H'
  try clear c1
  try clear c2
  try clear p2
  try clear c3
  try clear c4
  try clear c5
  try clear aq
  try clear p6
  try clear c9
  try clear ar
  try clear hcz11_0 hcz11_1 hcz11_2 hcz17_0 hcz17_1 hcz17_2 hcz7_0 hcz7_1 hcz7_2
  try clear hfz11_0 hfz11_1 hfz11_2 hfz17_0 hfz17_1 hfz17_2 hfz7_0 hfz7_1 hfz7_2
  obtain ⟨x7_1, x8_1, rfl, HA, HK1, ad, aa, HB⟩ := hrel
  cases gk with
  | zero => exact absurd HA.out (by simp [carillonref14_Answer.l0])
  | succ k1 =>
   have H := HA.out
   clear HA
   simp only [carillonref14_Answer.l0] at H
   by_cases c25 : x8_1 < (l1_2.length : Int); rotate_left
   ·rw [if_neg c25] at H
    have c25b0 : decide (x8_1 < (l1_2.length : Int)) = false := decide_eq_false c25
    clear c25
    replace H := Option.bind_eq_some_iff.mp H
    obtain ⟨⟨t611, t612⟩, A480, H⟩ := H
    replace H : ((carillonref02_Frame.f k1 t611).bind fun bt613 => (some (bt613.1, true))) = some (r1, r2) := H
    have A48 := Aside0.mk A480
    clear A480
    replace H := Option.bind_eq_some_iff.mp H
    obtain ⟨⟨t613, t614⟩, A490, H⟩ := H
    replace H : (some (t613, true)) = some (r1, r2) := H
    have A49 := Aside0.mk A490
    clear A490
    simp only [Option.some.injEq, Prod.mk.injEq] at H
    obtain ⟨rfl, rfl⟩ := H
    obtain ⟨hcz50_0, hcz50_1, hcz50_2, hfz50_0, hfz50_1, hfz50_2⟩ := bx3 aa.out
    obtain ⟨Ao51, co51, eo51⟩ := Kd.R_slice ad.out
    subst eo51
    go_wp2_with (first | ((with_reducible refine gate_callee (f := 33) rfl ?_); refine goesL_ (some 68) rfl rfl Tryd.func33 (by kernel_rfl) rfl #[.slice Ao51 x7_1.length co51] rfl am ?_; (with_reducible refine (carillonref01_Encode.calls k1 _ _ x7_1 t611 t612 _ ?side1 ?side2 A48.out).mono ?_); (case side1 => repeat (first | exact (Kd.R_reads' ad.out).2.2 | (with_reducible refine Kd.C_alloc ?_ _) | (with_reducible refine Kd.C_drewN ?_ _) | (with_reducible refine Kd.C_drew ?_))); (case side2 => exact (Kd.R_reads' ad.out).2.1); rintro e w52 ⟨rfl, hb⟩; refine ⟨_, rfl, ?_⟩; replace ad := Aside0.mk (Kd.R_below (r_ ad.out) hb); replace aa := Aside0.mk (nb aa.out hb); replace HB := Aside0.mk (below_step bw hb); (try clear hb)) | ((with_reducible refine gate_callee (f := 48) rfl ?_); refine goesL_ (some 73) rfl rfl Tryd.func48 (by kernel_rfl) rfl #[.string t611] rfl am ?_; (with_reducible refine (carillonref02_Frame.calls k1 t611 t613 t614 _ A49.out).mono ?_); rintro e w53 ⟨rfl, hb⟩; refine ⟨_, rfl, ?_⟩; replace ad := Aside0.mk (Kd.R_below (r_ ad.out) hb); replace aa := Aside0.mk (nb aa.out hb); replace HB := Aside0.mk (below_step bw hb); (try clear hb)))
    go_ret2
    exact ⟨er, bw⟩
   rw [if_pos c25] at H
   have c25b0 : decide (x8_1 < (l1_2.length : Int)) = true := decide_eq_true c25
   clear c25
   obtain ⟨c26, H⟩ := its H
   have c26b0 : decide (0 ≤ x8_1) = true := decide_eq_true c26
   clear c26
   replace H := Option.bind_eq_some_iff.mp H
   obtain ⟨⟨t590, t591, t592⟩, A270, H⟩ := H
   replace H : ((carillonref14_text.f ((rd_T48 l1_2 x8_1).f1)).bind fun bt593 => ((carillonref14_long.f ((rd_T48 l1_2 x8_1).f2)).bind fun bt596 => ((carillonref14_text.f ((rd_T48 l1_2 x8_1).f3)).bind fun bt599 => ((carillonref14_text.f ((rd_T48 l1_2 x8_1).f4)).bind fun bt602 => ((some (([(⟨t590, t591, t592⟩ : S57), (⟨bt593.1, bt593.2.1, bt593.2.2⟩ : S57), (⟨bt596.1, bt596.2.1, bt596.2.2⟩ : S57), (⟨bt599.1, bt599.2.1, bt599.2.2⟩ : S57), (⟨bt602.1, bt602.2.1, bt602.2.2⟩ : S57)] : List (S57)) : List (S57))).bind fun y605 => (if x7_1.length + y605.length < 4398046511104 then (carillonref14_Answer.l0 k1 (x7_1 ++ y605) (wrap64 (x8_1 + 1)) a1_0 a1_1 l1_2) else (none))))))) = some (r1, r2) := H
   have A27 := Aside0.mk A270
   clear A270
   replace H := Option.bind_eq_some_iff.mp H
   obtain ⟨⟨t593, t594, t595⟩, A280, H⟩ := H
   replace H : ((carillonref14_long.f ((rd_T48 l1_2 x8_1).f2)).bind fun bt596 => ((carillonref14_text.f ((rd_T48 l1_2 x8_1).f3)).bind fun bt599 => ((carillonref14_text.f ((rd_T48 l1_2 x8_1).f4)).bind fun bt602 => ((some (([(⟨t590, t591, t592⟩ : S57), (⟨t593, t594, t595⟩ : S57), (⟨bt596.1, bt596.2.1, bt596.2.2⟩ : S57), (⟨bt599.1, bt599.2.1, bt599.2.2⟩ : S57), (⟨bt602.1, bt602.2.1, bt602.2.2⟩ : S57)] : List (S57)) : List (S57))).bind fun y605 => (if x7_1.length + y605.length < 4398046511104 then (carillonref14_Answer.l0 k1 (x7_1 ++ y605) (wrap64 (x8_1 + 1)) a1_0 a1_1 l1_2) else (none)))))) = some (r1, r2) := H
   have A28 := Aside0.mk A280
   clear A280
   replace H := Option.bind_eq_some_iff.mp H
   obtain ⟨⟨t596, t597, t598⟩, A290, H⟩ := H
   replace H : ((carillonref14_text.f ((rd_T48 l1_2 x8_1).f3)).bind fun bt599 => ((carillonref14_text.f ((rd_T48 l1_2 x8_1).f4)).bind fun bt602 => ((some (([(⟨t590, t591, t592⟩ : S57), (⟨t593, t594, t595⟩ : S57), (⟨t596, t597, t598⟩ : S57), (⟨bt599.1, bt599.2.1, bt599.2.2⟩ : S57), (⟨bt602.1, bt602.2.1, bt602.2.2⟩ : S57)] : List (S57)) : List (S57))).bind fun y605 => (if x7_1.length + y605.length < 4398046511104 then (carillonref14_Answer.l0 k1 (x7_1 ++ y605) (wrap64 (x8_1 + 1)) a1_0 a1_1 l1_2) else (none))))) = some (r1, r2) := H
   have A29 := Aside0.mk A290
   clear A290
   replace H := Option.bind_eq_some_iff.mp H
   obtain ⟨⟨t599, t600, t601⟩, A300, H⟩ := H
   replace H : ((carillonref14_text.f ((rd_T48 l1_2 x8_1).f4)).bind fun bt602 => ((some (([(⟨t590, t591, t592⟩ : S57), (⟨t593, t594, t595⟩ : S57), (⟨t596, t597, t598⟩ : S57), (⟨t599, t600, t601⟩ : S57), (⟨bt602.1, bt602.2.1, bt602.2.2⟩ : S57)] : List (S57)) : List (S57))).bind fun y605 => (if x7_1.length + y605.length < 4398046511104 then (carillonref14_Answer.l0 k1 (x7_1 ++ y605) (wrap64 (x8_1 + 1)) a1_0 a1_1 l1_2) else (none)))) = some (r1, r2) := H
   have A30 := Aside0.mk A300
   clear A300
   replace H := Option.bind_eq_some_iff.mp H
   obtain ⟨⟨t602, t603, t604⟩, A310, H⟩ := H
   replace H : ((some (([(⟨t590, t591, t592⟩ : S57), (⟨t593, t594, t595⟩ : S57), (⟨t596, t597, t598⟩ : S57), (⟨t599, t600, t601⟩ : S57), (⟨t602, t603, t604⟩ : S57)] : List (S57)) : List (S57))).bind fun y605 => (if x7_1.length + y605.length < 4398046511104 then (carillonref14_Answer.l0 k1 (x7_1 ++ y605) (wrap64 (x8_1 + 1)) a1_0 a1_1 l1_2) else (none))) = some (r1, r2) := H
   have A31 := Aside0.mk A310
   clear A310
   obtain ⟨y605, hy605⟩ : ∃ y_ : List (S57), y_ = (([(⟨t590, t591, t592⟩ : S57), (⟨t593, t594, t595⟩ : S57), (⟨t596, t597, t598⟩ : S57), (⟨t599, t600, t601⟩ : S57), (⟨t602, t603, t604⟩ : S57)] : List (S57))) := ⟨_, rfl⟩
   replace H : (if x7_1.length + y605.length < 4398046511104 then (carillonref14_Answer.l0 k1 (x7_1 ++ y605) (wrap64 (x8_1 + 1)) a1_0 a1_1 l1_2) else (none)) = some (r1, r2) := by first | (rw [hy605]; with_reducible exact H) | (have H2_ := (Option.bind_some _ _).symm.trans H; rw [hy605]; with_reducible exact H2_) | (have H2_ := (Option.bind_some _ _).symm.trans H; with_reducible exact H2_) | with_reducible exact H | (rw [hy605]; exact H) | exact H
   have Ny605 := Aside0.mk hy605
   clear hy605
   obtain ⟨c32, H⟩ := its H
   have LMc32 := Aside0.mk c32
   clear c32
   obtain ⟨y608, hy608⟩ : ∃ y_ : List (S57), y_ = (x7_1 ++ y605) := ⟨_, rfl⟩
   replace H : (carillonref14_Answer.l0 k1 y608 (wrap64 (x8_1 + 1)) a1_0 a1_1 l1_2) = some (r1, r2) := by first | (rw [hy608]; with_reducible exact H) | (have H2_ := (Option.bind_some _ _).symm.trans H; rw [hy608]; with_reducible exact H2_) | (have H2_ := (Option.bind_some _ _).symm.trans H; with_reducible exact H2_) | with_reducible exact H | (rw [hy608]; exact H) | exact H
   have Ny608 := Aside0.mk hy608
   clear hy608
   have H' := Aside0.mk H
   clear H
   obtain ⟨hcz33_0, hcz33_1, hcz33_2, hfz33_0, hfz33_1, hfz33_2⟩ := bx3 aa.out
   have p588 : 0 ≤ (x8_1 : Int) := od
   have q588 : x8_1 < (l1_2.length : Int) := od
   obtain ⟨ap, e588, ah, ai, aj, ak, al⟩ := at_T48 HR1_2.out x8_1 p588 q588
   cases e588
   replace ah := (HB.out.cell (World.block_lt_of_cell? w _ ah)).trans ah
   replace ai := (HB.out.cell (World.block_lt_of_cell? w _ ai)).trans ai
   replace aj := (HB.out.cell (World.block_lt_of_cell? w _ aj)).trans aj
   replace ak := (HB.out.cell (World.block_lt_of_cell? w _ ak)).trans ak
   replace al := (HB.out.cell (World.block_lt_of_cell? w _ al)).trans al
   replace p588 := eq_true p588
   replace q588 := eq_true q588
   try go_wp2_with (first | ((with_reducible refine gate_dst (N := 9) rfl ?_); refine box_event ?hg (N := 9) ?hd (cs := za0_) (t := 48) ?hr ?_; (case hd => rfl); (case hg => rfl); (case hr => first | (go_simp; done) | (go_simp; rfl)); intro ac hg w34 hbox hb; replace ad := Aside0.mk (Kd.R_below (r_ ad.out) hb); have ab := Aside0.mk (hbox); have GW589 := Aside0.mk ((g1 hg bw : w.heap.size ≤ ac)); have GE589 := Aside0.mk ((g1 hg bw : w.heap.size ≤ ac)); replace HB := Aside0.mk (below_step bw hb); have af := Aside0.mk ((n1 hg aa.out : ae ≠ ac)); have NB589_574 := Aside0.mk ((n2 hg aa.out : ac ≠ ae)); replace aa := Aside0.mk (nb aa.out hb); clear hb hbox hg; have hnb35 := NB589_574.out; have hnc35 := af.out; obtain ⟨hcz36_0, hcz36_1, hcz36_2, hcz36_3, hcz36_4, hfz36_0, hfz36_1, hfz36_2, hfz36_3, hfz36_4⟩ := bx5 ab.out))
   have n0_ : Aside0 (Kd.R k57 57 (((((w34.setCell ⟨ac, 0, none⟩ (.int .i64 ((rd_T48 l1_2 x8_1).f0))).setCell ⟨ac, 1, none⟩ (.string ((rd_T48 l1_2 x8_1).f1))).setCell ⟨ac, 2, none⟩ (.int .i64 ((rd_T48 l1_2 x8_1).f2))).setCell ⟨ac, 3, none⟩ (.string ((rd_T48 l1_2 x8_1).f3))).setCell ⟨ac, 4, none⟩ (.string ((rd_T48 l1_2 x8_1).f4))) w.heap.size (fun _ => True) u7 x7_1) := ⟨by (with_reducible repeat (first | apply Kd.R_alloc | apply Kd.R_drewN | apply Kd.R_drew)); exact Kd.R_mono (Kd.R_far (p := ⟨ac, 4, none⟩) (Kd.R_far (p := ⟨ac, 3, none⟩) (Kd.R_far (p := ⟨ac, 2, none⟩) (Kd.R_far (p := ⟨ac, 1, none⟩) (Kd.R_far (p := ⟨ac, 0, none⟩) (Kd.R_types ad.out ab.out (by decide)) (fun _ hk => hk.2) (.int .i64 ((rd_T48 l1_2 x8_1).f0))) (fun _ hk => hk.2) (.string ((rd_T48 l1_2 x8_1).f1))) (fun _ hk => hk.2) (.int .i64 ((rd_T48 l1_2 x8_1).f2))) (fun _ hk => hk.2) (.string ((rd_T48 l1_2 x8_1).f3))) (fun _ hk => hk.2) (.string ((rd_T48 l1_2 x8_1).f4))) (fun _ hk => trivial)⟩
   have n1_ : Aside0 ((((((w34.setCell ⟨ac, 0, none⟩ (.int .i64 ((rd_T48 l1_2 x8_1).f0))).setCell ⟨ac, 1, none⟩ (.string ((rd_T48 l1_2 x8_1).f1))).setCell ⟨ac, 2, none⟩ (.int .i64 ((rd_T48 l1_2 x8_1).f2))).setCell ⟨ac, 3, none⟩ (.string ((rd_T48 l1_2 x8_1).f3))).setCell ⟨ac, 4, none⟩ (.string ((rd_T48 l1_2 x8_1).f4))).heap[ae]? = some (.cells #[.int .i64 a1_0, .int .i64 a1_1, .slice (some ap) l1_2.length c1_2] 39 (0, 0))) := ⟨by (with_reducible repeat (first | refine blk_drewN ?_ _ | refine blk_drew ?_ | refine blk_alloc ?_ _ | refine blk_far ?_ af.out _)); exact aa.out⟩
   have n2_ : Aside0 ((((((w34.setCell ⟨ac, 0, none⟩ (.int .i64 ((rd_T48 l1_2 x8_1).f0))).setCell ⟨ac, 1, none⟩ (.string ((rd_T48 l1_2 x8_1).f1))).setCell ⟨ac, 2, none⟩ (.int .i64 ((rd_T48 l1_2 x8_1).f2))).setCell ⟨ac, 3, none⟩ (.string ((rd_T48 l1_2 x8_1).f3))).setCell ⟨ac, 4, none⟩ (.string ((rd_T48 l1_2 x8_1).f4))).heap[ac]? = some (.cells #[.int .i64 ((rd_T48 l1_2 x8_1).f0), .string ((rd_T48 l1_2 x8_1).f1), .int .i64 ((rd_T48 l1_2 x8_1).f2), .string ((rd_T48 l1_2 x8_1).f3), .string ((rd_T48 l1_2 x8_1).f4)] 48 (0, 0))) := ⟨by (with_reducible repeat (first | refine blk_drewN ?_ _ | refine blk_drew ?_ | refine blk_alloc ?_ _)); refine blk_put (cs := #[.int .i64 ((rd_T48 l1_2 x8_1).f0), .string ((rd_T48 l1_2 x8_1).f1), .int .i64 ((rd_T48 l1_2 x8_1).f2), .string ((rd_T48 l1_2 x8_1).f3), .string (⟨#[]⟩ : ByteArray)]) ?_ 4 _ rfl; (with_reducible repeat (first | refine blk_drewN ?_ _ | refine blk_drew ?_ | refine blk_alloc ?_ _)); refine blk_put (cs := #[.int .i64 ((rd_T48 l1_2 x8_1).f0), .string ((rd_T48 l1_2 x8_1).f1), .int .i64 ((rd_T48 l1_2 x8_1).f2), .string (⟨#[]⟩ : ByteArray), .string (⟨#[]⟩ : ByteArray)]) ?_ 3 _ rfl; (with_reducible repeat (first | refine blk_drewN ?_ _ | refine blk_drew ?_ | refine blk_alloc ?_ _)); refine blk_put (cs := #[.int .i64 ((rd_T48 l1_2 x8_1).f0), .string ((rd_T48 l1_2 x8_1).f1), .int .i64 0, .string (⟨#[]⟩ : ByteArray), .string (⟨#[]⟩ : ByteArray)]) ?_ 2 _ rfl; (with_reducible repeat (first | refine blk_drewN ?_ _ | refine blk_drew ?_ | refine blk_alloc ?_ _)); refine blk_put (cs := #[.int .i64 ((rd_T48 l1_2 x8_1).f0), .string (⟨#[]⟩ : ByteArray), .int .i64 0, .string (⟨#[]⟩ : ByteArray), .string (⟨#[]⟩ : ByteArray)]) ?_ 1 _ rfl; (with_reducible repeat (first | refine blk_drewN ?_ _ | refine blk_drew ?_ | refine blk_alloc ?_ _)); refine blk_put (cs := za0_) ?_ 0 _ rfl; (with_reducible repeat (first | refine blk_drewN ?_ _ | refine blk_drew ?_ | refine blk_alloc ?_ _)); exact ab.out⟩
   have n3_ : Aside0 (Below w.heap.size w (((((w34.setCell ⟨ac, 0, none⟩ (.int .i64 ((rd_T48 l1_2 x8_1).f0))).setCell ⟨ac, 1, none⟩ (.string ((rd_T48 l1_2 x8_1).f1))).setCell ⟨ac, 2, none⟩ (.int .i64 ((rd_T48 l1_2 x8_1).f2))).setCell ⟨ac, 3, none⟩ (.string ((rd_T48 l1_2 x8_1).f3))).setCell ⟨ac, 4, none⟩ (.string ((rd_T48 l1_2 x8_1).f4)))) := ⟨bw⟩
   (try clear ad)
   (try clear aa)
   (try clear ab)
   (try clear HB)
   generalize (((((w34.setCell ⟨ac, 0, none⟩ (.int .i64 ((rd_T48 l1_2 x8_1).f0))).setCell ⟨ac, 1, none⟩ (.string ((rd_T48 l1_2 x8_1).f1))).setCell ⟨ac, 2, none⟩ (.int .i64 ((rd_T48 l1_2 x8_1).f2))).setCell ⟨ac, 3, none⟩ (.string ((rd_T48 l1_2 x8_1).f3))).setCell ⟨ac, 4, none⟩ (.string ((rd_T48 l1_2 x8_1).f4))) = w37 at n0_ n1_ n2_ n3_ ⊢
   have ad := n0_
   have aa := n1_
   have ab := n2_
   have HB := n3_
   clear n0_ n1_ n2_ n3_
   replace ad := Aside0.mk (Kd.R_drew ad.out)
   replace aa := Aside0.mk (blk_drew aa.out)
   replace ab := Aside0.mk (blk_drew ab.out)
   replace HB := Aside0.mk (below_drew1 HB.out)
   refine start_ (n := 19) (S := fun w' => w'.cell? ⟨ac, 0, none⟩ = some (.int .i64 ((rd_T48 l1_2 x8_1).f0)) ∧ w'.cell? ⟨ac, 1, none⟩ = some (.string ((rd_T48 l1_2 x8_1).f1)) ∧ w'.cell? ⟨ac, 2, none⟩ = some (.int .i64 ((rd_T48 l1_2 x8_1).f2)) ∧ w'.cell? ⟨ac, 3, none⟩ = some (.string ((rd_T48 l1_2 x8_1).f3)) ∧ w'.cell? ⟨ac, 4, none⟩ = some (.string ((rd_T48 l1_2 x8_1).f4))) (ds := []) (bz 19 0) (by kernel_rfl) rfl rfl (by and_intros <;> first | exact (blk_cell ab.out _).trans rfl) (fun hHeld => ?_); refine with_tabW carillonref14_Answer.tab9 carillonref14_Answer.bits9 (fun HT_ HW_ => ?_)
   generalize w37.drew = w38 at ad aa ab HB hHeld ⊢
   refine pu_ 0 (some 48) (bz 19 1) HT_.out ?_
   refine pu_ 1 (some 49) (bz 19 3) HT_.out ?_
   refine pu_ 4 (some 52) (bz 19 19) HT_.out ?_
   refine pu_ 7 (some 55) (bz 19 147) HT_.out ?_
   refine pu_ 10 (some 58) (bz 19 1171) HT_.out ?_
   refine pu_ 13 (some 61) (bz 19 9363) HT_.out ?_
   refine take_ (i := 2) (N := some 50) (v := ?_) (a' := ?_) (bz 19 9367) rfl rfl (take_ofW HT_.out HW_.out (by kernel_rfl)) (fun _ _ _ h => h) (Or.inl ⟨by rfl, ?_⟩) hHeld ?_ ?_
   rotate_left
   ·rintro w' ⟨s0, s1, s2, s3, s4⟩
    go_simp
    with_reducible rfl
   rotate_left
   ·simp only [Act.put, sl1, sl2, sl3, i64_w, i32_w]
    rfl
   refine take_ (i := 5) (N := some 53) (v := ?_) (a' := ?_) (bz 19 9399) rfl rfl (take_ofW HT_.out HW_.out (by kernel_rfl)) (fun _ _ _ h => h) (Or.inl ⟨by rfl, ?_⟩) hHeld ?_ ?_
   rotate_left
   ·rintro w' ⟨s0, s1, s2, s3, s4⟩
    go_simp
    with_reducible rfl
   rotate_left
   ·simp only [Act.put, sl1, sl2, sl3, i64_w, i32_w]
    rfl
   refine take_ (i := 8) (N := some 56) (v := ?_) (a' := ?_) (bz 19 9655) rfl rfl (take_ofW HT_.out HW_.out (by kernel_rfl)) (fun _ _ _ h => h) (Or.inl ⟨by rfl, ?_⟩) hHeld ?_ ?_
   rotate_left
   ·rintro w' ⟨s0, s1, s2, s3, s4⟩
    go_simp
    with_reducible rfl
   rotate_left
   ·simp only [Act.put, sl1, sl2, sl3, i64_w, i32_w]
    rfl
   refine take_ (i := 11) (N := some 59) (v := ?_) (a' := ?_) (bz 19 11703) rfl rfl (take_ofW HT_.out HW_.out (by kernel_rfl)) (fun _ _ _ h => h) (Or.inl ⟨by rfl, ?_⟩) hHeld ?_ ?_
   rotate_left
   ·rintro w' ⟨s0, s1, s2, s3, s4⟩
    go_simp
    with_reducible rfl
   rotate_left
   ·simp only [Act.put, sl1, sl2, sl3, i64_w, i32_w]
    rfl
   refine take_ (i := 14) (N := some 62) (v := ?_) (a' := ?_) (bz 19 28087) rfl rfl (take_ofW HT_.out HW_.out (by kernel_rfl)) (fun _ _ _ h => h) (Or.inl ⟨by rfl, ?_⟩) hHeld ?_ ?_
   rotate_left
   ·rintro w' ⟨s0, s1, s2, s3, s4⟩
    go_simp
    with_reducible rfl
   rotate_left
   ·simp only [Act.put, sl1, sl2, sl3, i64_w, i32_w]
    rfl
   refine one_ (i := 3) (N := some 51) (bz 19 28095) rfl rfl (one_of HT_.out (by kernel_rfl)) (by decide) (fun K hK => ?_)
   refine goes_ Tryd.func36 (by kernel_rfl) rfl #[.int .i64 ((rd_T48 l1_2 x8_1).f0)] (by rfl) rfl rfl am ?_
   with_reducible refine (carillonref14_long.calls ((rd_T48 l1_2 x8_1).f0) t590 t591 t592 _ A27.out).mono ?_
   rintro e w39 ⟨rfl, hb⟩
   refine ⟨_, rfl, ?_⟩
   replace ad := Aside0.mk (Kd.R_below (r_ ad.out) hb)
   replace aa := Aside0.mk (nb aa.out hb)
   replace ab := Aside0.mk (nb ab.out hb)
   replace HB := Aside0.mk (below_step bw hb)
   (try clear hb)
   (try clear hb2)
   (try clear hk)
   (try clear hi)
   refine hK.out _ _ (by and_intros <;> first | exact (blk_cell ab.out _).trans rfl) (fun hHeld => ?_)
   clear hK K
   refine norm_ (a' := ?_) ?_ ?_
   rotate_left
   ·show Act.put _ (some 51) _ = _
    simp only [Act.put, sl1, sl2, sl3, i64_w, i32_w]
    rfl
   refine one_ (i := 6) (N := some 54) (bz 19 28159) rfl rfl (one_of HT_.out (by kernel_rfl)) (by decide) (fun K hK => ?_)
   refine goes_ Tryd.func35 (by kernel_rfl) rfl #[.string ((rd_T48 l1_2 x8_1).f1)] (by rfl) rfl rfl am ?_
   with_reducible refine (carillonref14_text.calls ((rd_T48 l1_2 x8_1).f1) t593 t594 t595 _ A28.out).mono ?_
   rintro e w40 ⟨rfl, hb⟩
   refine ⟨_, rfl, ?_⟩
   replace ad := Aside0.mk (Kd.R_below (r_ ad.out) hb)
   replace aa := Aside0.mk (nb aa.out hb)
   replace ab := Aside0.mk (nb ab.out hb)
   replace HB := Aside0.mk (below_step bw hb)
   (try clear hb)
   (try clear hb2)
   (try clear hk)
   (try clear hi)
   refine hK.out _ _ (by and_intros <;> first | exact (blk_cell ab.out _).trans rfl) (fun hHeld => ?_)
   clear hK K
   refine norm_ (a' := ?_) ?_ ?_
   rotate_left
   ·show Act.put _ (some 54) _ = _
    simp only [Act.put, sl1, sl2, sl3, i64_w, i32_w]
    rfl
   refine one_ (i := 9) (N := some 57) (bz 19 28671) rfl rfl (one_of HT_.out (by kernel_rfl)) (by decide) (fun K hK => ?_)
   refine goes_ Tryd.func36 (by kernel_rfl) rfl #[.int .i64 ((rd_T48 l1_2 x8_1).f2)] (by rfl) rfl rfl am ?_
   with_reducible refine (carillonref14_long.calls ((rd_T48 l1_2 x8_1).f2) t596 t597 t598 _ A29.out).mono ?_
   rintro e w41 ⟨rfl, hb⟩
   refine ⟨_, rfl, ?_⟩
   replace ad := Aside0.mk (Kd.R_below (r_ ad.out) hb)
   replace aa := Aside0.mk (nb aa.out hb)
   replace ab := Aside0.mk (nb ab.out hb)
   replace HB := Aside0.mk (below_step bw hb)
   (try clear hb)
   (try clear hb2)
   (try clear hk)
   (try clear hi)
   refine hK.out _ _ (by and_intros <;> first | exact (blk_cell ab.out _).trans rfl) (fun hHeld => ?_)
   clear hK K
   refine norm_ (a' := ?_) ?_ ?_
   rotate_left
   ·show Act.put _ (some 57) _ = _
    simp only [Act.put, sl1, sl2, sl3, i64_w, i32_w]
    rfl
   refine one_ (i := 12) (N := some 60) (bz 19 32767) rfl rfl (one_of HT_.out (by kernel_rfl)) (by decide) (fun K hK => ?_)
   refine goes_ Tryd.func35 (by kernel_rfl) rfl #[.string ((rd_T48 l1_2 x8_1).f3)] (by rfl) rfl rfl am ?_
   with_reducible refine (carillonref14_text.calls ((rd_T48 l1_2 x8_1).f3) t599 t600 t601 _ A30.out).mono ?_
   rintro e w42 ⟨rfl, hb⟩
   refine ⟨_, rfl, ?_⟩
   replace ad := Aside0.mk (Kd.R_below (r_ ad.out) hb)
   replace aa := Aside0.mk (nb aa.out hb)
   replace ab := Aside0.mk (nb ab.out hb)
   replace HB := Aside0.mk (below_step bw hb)
   (try clear hb)
   (try clear hb2)
   (try clear hk)
   (try clear hi)
   refine hK.out _ _ (by and_intros <;> first | exact (blk_cell ab.out _).trans rfl) (fun hHeld => ?_)
   clear hK K
   refine norm_ (a' := ?_) ?_ ?_
   rotate_left
   ·show Act.put _ (some 60) _ = _
    simp only [Act.put, sl1, sl2, sl3, i64_w, i32_w]
    rfl
   refine one_ (i := 15) (N := some 63) (bz 19 65535) rfl rfl (one_of HT_.out (by kernel_rfl)) (by decide) (fun K hK => ?_)
   refine goes_ Tryd.func35 (by kernel_rfl) rfl #[.string ((rd_T48 l1_2 x8_1).f4)] (by rfl) rfl rfl am ?_
   with_reducible refine (carillonref14_text.calls ((rd_T48 l1_2 x8_1).f4) t602 t603 t604 _ A31.out).mono ?_
   rintro e w43 ⟨rfl, hb⟩
   refine ⟨_, rfl, ?_⟩
   replace ad := Aside0.mk (Kd.R_below (r_ ad.out) hb)
   replace aa := Aside0.mk (nb aa.out hb)
   replace ab := Aside0.mk (nb ab.out hb)
   replace HB := Aside0.mk (below_step bw hb)
   (try clear hb)
   (try clear hb2)
   (try clear hk)
   (try clear hi)
   refine hK.out _ _ (by and_intros <;> first | exact (blk_cell ab.out _).trans rfl) (fun hHeld => ?_)
   clear hK K
   refine norm_ (a' := ?_) ?_ ?_
   rotate_left
   ·show Act.put _ (some 63) _ = _
    simp only [Act.put, sl1, sl2, sl3, i64_w, i32_w]
    rfl
   refine one_ (i := 16) (N := some 64) (bz 19 131071) rfl rfl (one_of HT_.out (by kernel_rfl)) (by decide) (fun K hK => ?_)
   refine Kd.R_lit_step k57 _ 57 ?hg (N := 64) ?hd (xs := ([(⟨t590, t591, t592⟩ : S57), (⟨t593, t594, t595⟩ : S57), (⟨t596, t597, t598⟩ : S57), (⟨t599, t600, t601⟩ : S57), (⟨t602, t603, t604⟩ : S57)] : List (S57))) (inner := [.int .i64 t590, .int .u64 t591, .string t592, .int .i64 t593, .int .u64 t594, .string t595, .int .i64 t596, .int .u64 t597, .string t598, .int .i64 t599, .int .u64 t600, .string t601, .int .i64 t602, .int .u64 t603, .string t604]) (ok := fun _ => True) (okp := fun _ => True) ?hr ?hp (fun _ hk => hk) trivial (Below.refl _ _) (Nat.le_refl _) (by simp) ?_; (case hd => rfl); (case hg => rfl); (case hr => first | (go_simp; done) | (go_simp; rfl)); (case hp => exact (Reps.c3 (show Kd.M k57 _ _ _ (⟨t590, t591, t592⟩ : S57) [.int .i64 t590, .int .u64 t591, .string t592] from (k57_mkM _ _ _ (⟨t590, t591, t592⟩ : S57) )) (Reps.c3 (show Kd.M k57 _ _ _ (⟨t593, t594, t595⟩ : S57) [.int .i64 t593, .int .u64 t594, .string t595] from (k57_mkM _ _ _ (⟨t593, t594, t595⟩ : S57) )) (Reps.c3 (show Kd.M k57 _ _ _ (⟨t596, t597, t598⟩ : S57) [.int .i64 t596, .int .u64 t597, .string t598] from (k57_mkM _ _ _ (⟨t596, t597, t598⟩ : S57) )) (Reps.c3 (show Kd.M k57 _ _ _ (⟨t599, t600, t601⟩ : S57) [.int .i64 t599, .int .u64 t600, .string t601] from (k57_mkM _ _ _ (⟨t599, t600, t601⟩ : S57) )) (Reps.c3 (show Kd.M k57 _ _ _ (⟨t602, t603, t604⟩ : S57) [.int .i64 t602, .int .u64 t603, .string t604] from (k57_mkM _ _ _ (⟨t602, t603, t604⟩ : S57) )) (Reps.none _ _)))))))
   intro v606 w44 ho45 hb hg_ hnew_
   clear hg_ hnew_
   (first | rw [← Ny605.out] at ho45 | (simp only [Int.reduceToNat] at ho45; rw [← Ny605.out] at ho45))
   have ag := Aside0.mk (Kd.R_lower (Kd.R_new' ho45 (Kd.R_lt (r_ ad.out))) (below_size bw))
   replace ad := Aside0.mk (Kd.R_elder' (r_ ad.out) (Kd.R_base ho45) hb)
   replace aa := Aside0.mk (nb aa.out hb)
   replace ab := Aside0.mk (nb ab.out hb)
   replace HB := Aside0.mk (below_step bw hb)
   clear hb ho45
   obtain ⟨Ao47, co47, au⟩ := Kd.R_slice ag.out
   (first | subst au | (injection au with f1_ f2_ f3_; have f4_ := f1_.symm; have f5_ := f3_.symm; clear f1_ f2_ f3_; subst f4_; subst f5_))
   refine hK.out _ _ (by and_intros <;> first | exact (blk_cell ab.out _).trans rfl) (fun hHeld => ?_)
   clear hK K
   refine norm_ (a' := ?_) ?_ ?_
   rotate_left
   ·show Act.put _ (some 64) _ = _
    simp only [Act.put, sl1, sl2, sl3, i64_w, i32_w]
    rfl
   refine one_ (i := 17) (N := some 65) (bz 19 262143) rfl rfl (one_of HT_.out (by kernel_rfl)) (by decide) (fun K hK => ?_)
   refine Kd.R_append_rows_step k57 (w0 := w) w.heap.size (by rfl) (.tmp 48) (.tmp 64) 60 57 (.agg #[(.int .i64 0), (.int .u64 0), (.string ⟨#[]⟩)]) 32 rfl Tryd.underlying60 info57 rfl (by decide) (by omega) u7 x7_1 y605 _ _ _ (fun k_ => some k_ ≠ (.slice Ao47 y605.length co47 : Value).ownBlock) (fun _ => False) rfl rfl ?aO ?aR (fun _ _ h => h) (fun _ h => h.elim) ?aF ?aB ?aS ?aL ?_
   (case aR => repeat (first | exact (Kd.R_reads' ag.out).2.2 | (with_reducible refine Kd.C_alloc ?_ _) | (with_reducible refine Kd.C_drewN ?_ _) | (with_reducible refine Kd.C_drew ?_)))
   (case aB => exact bw)
   (case aF => exact (fun k_ hk => Kd.fresh' (Kd.R_lt (r_ ag.out)) k_ hk))
   (case aO => exact (by (with_reducible repeat (first | apply Kd.R_alloc | apply Kd.R_drewN | apply Kd.R_drew)); exact Kd.R_mono ad.out (fun _ hk => hk.2)))
   (case aS => exact (below_size bw))
   (case aL => have := LMc32.out; omega)
   intro v609 w46 ho hb hg hat
   rw [← Ny608.out] at ho
   replace aa := Aside0.mk (blk_grown (g := ae) (o := .cells #[.int .i64 a1_0, .int .i64 a1_1, .slice (some ap) l1_2.length c1_2] 39 (0, 0)) (bk aa.out) hg (Kd.R_ne ad.out aa.out (by decide)))
   replace ab := Aside0.mk (blk_grown (g := ac) (o := .cells #[.int .i64 ((rd_T48 l1_2 x8_1).f0), .string ((rd_T48 l1_2 x8_1).f1), .int .i64 ((rd_T48 l1_2 x8_1).f2), .string ((rd_T48 l1_2 x8_1).f3), .string ((rd_T48 l1_2 x8_1).f4)] 48 (0, 0)) (bk ab.out) hg (Kd.R_ne ad.out ab.out (by decide)))
   replace ag := Aside0.mk (Kd.R_after (ok := (fun _ => True)) (r_ ag.out) hg hat)
   replace HB := Aside0.mk (hb)
   have HO610 := Aside0.mk (ho)
   clear ad
   clear ho hb hg hat
   refine hK.out _ _ (by and_intros <;> first | exact (blk_cell ab.out _).trans rfl) (fun hHeld => ?_)
   clear hK K
   refine norm_ (a' := ?_) ?_ ?_
   rotate_left
   ·show Act.put _ (some 65) _ = _
    simp only [Act.put, sl1, sl2, sl3, i64_w, i32_w]
    rfl
   refine pu_ 18 (some 7) (bz 19 524287) HT_.out ?_
   refine done_ (done_of HT_.out (by kernel_rfl)) ?_
   try go_wp2
   go_roundg k1
   case measure => have := HK1.out; omega
   case rel => exact ⟨(y608), (wrap64 (x8_1 + 1)), (by first | rfl | (simp; done) | (simp [*]; done)), H', ⟨by have := HK1.out; omega⟩, ⟨by (with_reducible repeat (first | apply Kd.R_alloc | apply Kd.R_drewN | apply Kd.R_drew)); exact Kd.R_mono HO610.out (fun _ hk => trivial)⟩, ⟨by (with_reducible repeat (first | refine blk_drewN ?_ _ | refine blk_drew ?_ | refine blk_alloc ?_ _)); exact aa.out⟩, ⟨bw⟩⟩

end Go.Proofs.YtpgiagdpepkooaaDoor.P
