-- Printed by this session's program wip/xp.py (a turned copy of the kit's printer): functions, their contracts.
import Derived.Test.YtpgiagdpepkooaaDoorPx0
import Derived.Test.YtpgiagdpepkooaaDoorPx2
import Derived.Test.YtpgiagdpepkooaaDoorPx11
import Derived.Test.YtpgiagdpepkooaaDoorPx12
import Derived.Test.YtpgiagdpepkooaaDoorPx22
import Derived.Test.YtpgiagdpepkooaaDoorPx23
import Derived.Test.YtpgiagdpepkooaaDoorPx29
import Derived.Test.YtpgiagdpepkooaaDoorPx33
namespace Go.Proofs.YtpgiagdpepkooaaDoor.P
open Go.RowKit Go.Proofs.YtpgiagdpepkooaaDoorW.PrintWords Go.Proofs.YtpgiagdpepkooaaDoorW.PrintLast Go.Proofs.YtpgiagdpepkooaaDoorW.PrintMore
attribute [local go_sem] max2_int min2_int max_two min_two max_three min_three max_four min_four   -- for this text's walks alone
set_option linter.unusedVariables false
set_option linter.unusedSimpArgs false

attribute [local go_sem high] eqA48
/-! ### carillonlaw14_CommandAnswers: function 5 -/
mutual
def carillonlaw14_CommandAnswers.l0 : Nat → ByteArray → Bool → ByteArray → Int → ByteArray → Bool → Int → Int → Int → Int → Int → List (S48) → Option (Bool)
 | 0, _, _, _, _, _, _, _, _, _, _, _, _ => none
 | k + 1, x2, x7, x8, x9, x10, x11, x12, x14, x15, x658000, x658001, x658002 => if x15 < 2 then ((command_Answered.f k x2).bind fun bt658 => ((carillonlaw14_replies.f k bt658.2.1 bt658.2.2.1 bt658.2.2.2.1 x658000 x658001 x658002).bind fun t666 => (if t666 = true then (if bt658.1 = x12 then (carillonlaw14_CommandAnswers.j1 k x2 x7 x8 x9 x10 x11 x12 x14 x15 (bt658.2.2.2.2 != x14) x658000 x658001 x658002 bt658.2.1 bt658.2.2.1 bt658.2.2.2.1) else (carillonlaw14_CommandAnswers.j1 k x2 x7 x8 x9 x10 x11 x12 x14 x15 true x658000 x658001 x658002 bt658.2.1 bt658.2.2.1 bt658.2.2.2.1)) else (carillonlaw14_CommandAnswers.j1 k x2 x7 x8 x9 x10 x11 x12 x14 x15 true x658000 x658001 x658002 bt658.2.1 bt658.2.2.1 bt658.2.2.2.1)))) else (if x7 = true then (if x8.toList = x10.toList then (if ((x9 == 0) == x11) = true then (if x11 = true then (some true) else (some (x9 == 1))) else (some false)) else (some false)) else (some false))
def carillonlaw14_CommandAnswers.j1 : Nat → ByteArray → Bool → ByteArray → Int → ByteArray → Bool → Int → Int → Int → Bool → Int → Int → List (S48) → Int → Int → List (S48) → Option (Bool)
 | 0, _, _, _, _, _, _, _, _, _, _, _, _, _, _, _, _ => none
 | k + 1, x2, x7, x8, x9, x10, x11, x12, x14, x15, x64, x658000, x658001, x658002, x666000, x666001, x666002 => if x64 = true then (some false) else (carillonlaw14_CommandAnswers.l1 k x2 x7 x8 x9 x10 x11 x12 x14 x15 0 x658000 x658001 x658002 x666000 x666001 x666002)
def carillonlaw14_CommandAnswers.l1 : Nat → ByteArray → Bool → ByteArray → Int → ByteArray → Bool → Int → Int → Int → Int → Int → Int → List (S48) → Int → Int → List (S48) → Option (Bool)
 | 0, _, _, _, _, _, _, _, _, _, _, _, _, _, _, _, _ => none
 | k + 1, x2, x7, x8, x9, x10, x11, x12, x14, x15, x20, x658000, x658001, x658002, x666000, x666001, x666002 => if x20 < (x666002.length : Int) then (if 0 ≤ x20 then (carillonlaw14_CommandAnswers.l1 k x2 x7 x8 x9 x10 x11 x12 x14 x15 (wrap64 (x20 + 1)) x658000 x658001 x658002 x666000 x666001 (x666002.set (x20 : Int).toNat (⟨0, (⟨#[]⟩ : ByteArray), 0, (⟨#[]⟩ : ByteArray), (⟨#[]⟩ : ByteArray)⟩ : S48))) else (none)) else (carillonlaw14_CommandAnswers.l0 k x2 x7 x8 x9 x10 x11 x12 x14 (wrap64 (x15 + 1)) x658000 x658001 x658002)
end
def carillonlaw14_CommandAnswers.f (k : Nat) (a0 : Int) (a1_0 : Int) (a1_1 : Int) (l1_2 : List (S48)) (a2 : ByteArray) : Option (Bool) := (carillonlaw14_examples.f).bind fun t645 => ((command_Answer.f k a0 a1_0 a1_1 l1_2).bind fun bt646 => ((carillonref14_Answer.f k a0 a1_0 a1_1 l1_2).bind fun bt648 => ((carillonref14_Answered.f k a2).bind fun bt650 => (carillonlaw14_CommandAnswers.l0 k a2 t645 bt646.1 bt646.2 bt648.1 bt648.2 bt650.1 bt650.2.2.2.2 0 bt650.2.1 bt650.2.2.1 bt650.2.2.2.1))))
set_option maxHeartbeats 8000000 in
set_option maxRecDepth 100000 in
theorem carillonlaw14_CommandAnswers.calls (k : Nat) (a0 : Int) (a1_0 : Int) (a1_1 : Int) (A1_2 : Option Addr) (c1_2 : Nat) (l1_2 : List (S48)) (a2 : ByteArray) (r : Bool) (w : World) (hr1_2 : Kd.C k48 w A1_2 l1_2.length l1_2) (hc1_2 : l1_2.length ≤ c1_2) (hr_ : Aside0 (r = true)) (HT_ : TabOk w) (h : carillonlaw14_CommandAnswers.f k a0 a1_0 a1_1 l1_2 a2 = some r) :
  Calls Tryd.prog 5 #[.int .i64 a0, .agg #[.int .i64 a1_0, .int .i64 a1_1, .slice A1_2 l1_2.length c1_2], .string a2] w fun e w' => e = .returned (.bool r) ∧ Below w.heap.size w w' := by
 have HT := Aside0.mk HT_
 clear HT_
 have hu39 := Tryd.underlying39
 have hu48 := Tryd.underlying48
 have HR1_2 := Aside0.mk hr1_2
 have HC1_2 := Aside0.mk hc1_2
 clear hr1_2 hc1_2
 have HB := Aside0.mk (Below.refl w.heap.size w)
 have H := h
 unfold carillonlaw14_CommandAnswers.f at H
 clear h
 replace H := Option.bind_eq_some_iff.mp H
 obtain ⟨t645, A40, H⟩ := H
 have A4 := Aside0.mk A40
 clear A40
 replace H := Option.bind_eq_some_iff.mp H
 obtain ⟨⟨t646, t647⟩, A50, H⟩ := H
 replace H : ((carillonref14_Answer.f k a0 a1_0 a1_1 l1_2).bind fun bt648 => ((carillonref14_Answered.f k a2).bind fun bt650 => (carillonlaw14_CommandAnswers.l0 k a2 t645 t646 t647 bt648.1 bt648.2 bt650.1 bt650.2.2.2.2 0 bt650.2.1 bt650.2.2.1 bt650.2.2.2.1))) = some r := H
 have A5 := Aside0.mk A50
 clear A50
 replace H := Option.bind_eq_some_iff.mp H
 obtain ⟨⟨t648, t649⟩, A60, H⟩ := H
 replace H : ((carillonref14_Answered.f k a2).bind fun bt650 => (carillonlaw14_CommandAnswers.l0 k a2 t645 t646 t647 t648 t649 bt650.1 bt650.2.2.2.2 0 bt650.2.1 bt650.2.2.1 bt650.2.2.2.1)) = some r := H
 have A6 := Aside0.mk A60
 clear A60
 replace H := Option.bind_eq_some_iff.mp H
 obtain ⟨⟨t650, t651, t652, t653, t656⟩, A70, H⟩ := H
 replace H : (carillonlaw14_CommandAnswers.l0 k a2 t645 t646 t647 t648 t649 t650 t656 0 t651 t652 t653) = some r := H
 have A7 := Aside0.mk A70
 clear A70
 have H' := Aside0.mk H
 clear H
 go_enter Tryd.func5, Tryd.ntmps5
 go_wp2_with (first | ((with_reducible refine gate_dst (N := 4) rfl ?_); refine box_event ?hg (N := 4) ?hd (cs := #[.int .i64 a1_0, .int .i64 a1_1, .slice A1_2 l1_2.length c1_2]) (t := 39) ?hr ?_; (case hd => rfl); (case hg => rfl); (case hr => first | (go_simp; done) | (go_simp; rfl)); intro ai hg w8 hbox hb; have ab := Aside0.mk (hbox); have GW644 := Aside0.mk ((g1 hg bw : w.heap.size ≤ ai)); have GE644 := Aside0.mk ((g1 hg bw : w.heap.size ≤ ai)); replace HB := Aside0.mk (below_step bw hb); clear hb hbox hg) | ((with_reducible refine gate_callee (f := 11) rfl ?_); refine goesL_ (some 21) rfl rfl Tryd.func11 (by kernel_rfl) rfl #[] rfl am ?_; (with_reducible refine (carillonlaw14_examples.calls  t645 _ tbk A4.out).mono ?_); rintro e w9 ⟨rfl, hb⟩; refine ⟨_, rfl, ?_⟩; replace ab := Aside0.mk (nb ab.out hb); replace HB := Aside0.mk (below_step bw hb); (try clear hb); obtain ⟨av, aw, ax, ay, az, a5⟩ := bx3 ab.out) | ((with_reducible refine gate_callee (f := 24) rfl ?_); refine goesL_ (some 25) rfl rfl Tryd.func24 (by kernel_rfl) rfl #[.int .i64 a0, .agg #[.int .i64 a1_0, .int .i64 a1_1, .slice A1_2 l1_2.length c1_2]] rfl am ?_; (with_reducible refine (command_Answer.calls k a0 a1_0 a1_1 _ _ l1_2 t646 t647 _ ?side1 ?side2 tbk A5.out).mono ?_); (case side1 => repeat (first | exact (Kd.C_below HR1_2.out HB.out) | (with_reducible refine Kd.C_alloc ?_ _) | (with_reducible refine Kd.C_drewN ?_ _) | (with_reducible refine Kd.C_drew ?_))); (case side2 => exact HC1_2.out); rintro e w11 ⟨rfl, hb⟩; refine ⟨_, rfl, ?_⟩; replace ab := Aside0.mk (nb ab.out hb); replace HB := Aside0.mk (below_step bw hb); (try clear hb); obtain ⟨a6, a7, a8, a9, ba, bb⟩ := bx3 ab.out) | ((with_reducible refine gate_callee (f := 25) rfl ?_); refine goesL_ (some 31) rfl rfl Tryd.func25 (by kernel_rfl) rfl #[.int .i64 a0, .agg #[.int .i64 a1_0, .int .i64 a1_1, .slice A1_2 l1_2.length c1_2]] rfl am ?_; (with_reducible refine (carillonref14_Answer.calls k a0 a1_0 a1_1 _ _ l1_2 t648 t649 _ ?side1 ?side2 A6.out).mono ?_); (case side1 => repeat (first | exact (Kd.C_below HR1_2.out HB.out) | (with_reducible refine Kd.C_alloc ?_ _) | (with_reducible refine Kd.C_drewN ?_ _) | (with_reducible refine Kd.C_drew ?_))); (case side2 => exact HC1_2.out); rintro e w13 ⟨rfl, hb⟩; refine ⟨_, rfl, ?_⟩; replace ab := Aside0.mk (nb ab.out hb); replace HB := Aside0.mk (below_step bw hb); (try clear hb)) | ((with_reducible refine gate_callee (f := 26) rfl ?_); refine goesL_ (some 36) rfl rfl Tryd.func26 (by kernel_rfl) rfl #[.string a2] rfl am ?_; (with_reducible refine (carillonref14_Answered.calls k a2 t650 t651 t652 t653 t656 _ A7.out).mono ?_); rintro e w14 ⟨v654, rfl, ho0, hb⟩; refine ⟨_, rfl, ?_⟩; have bi := Aside0.mk (Kd.R_lower ho0 (below_size bw)); replace ab := Aside0.mk (nb ab.out hb); replace HB := Aside0.mk (below_step bw hb); (try clear hb); (try clear ho0)) | ((with_reducible refine gate_dst (N := 13) rfl ?_); refine box_event ?hg (N := 13) ?hd (cs := #[.int .i64 0, .int .i64 0, .slice none 0 0]) (t := 39) ?hr ?_; (case hd => rfl); (case hg => rfl); (case hr => first | (go_simp; done) | (go_simp; rfl)); intro ag hg w15 hbox hb; replace bi := Aside0.mk (Kd.R_below (r_ bi.out) hb); have ad := Aside0.mk (hbox); have GW657 := Aside0.mk ((g1 hg bw : w.heap.size ≤ ag)); have GE657 := Aside0.mk ((g1 hg bw : w.heap.size ≤ ag)); replace HB := Aside0.mk (below_step bw hb); have al := Aside0.mk ((n1 hg ab.out : ai ≠ ag)); have au := Aside0.mk ((n2 hg ab.out : ag ≠ ai)); replace ab := Aside0.mk (nb ab.out hb); clear hb hbox hg; have hnb16 := au.out; have hnc16 := al.out; obtain ⟨bc, bd, be, bf, bg, bh⟩ := bx3 ad.out; obtain ⟨b7, b8, eo18⟩ := Kd.R_slice bi.out; subst eo18))
 go_loopg [15] k (fun kq v15 w' => ∃ (x15_1 : Int) (x658002_1 : List (S48)) (u658002 : Value), v15 = .int .i64 x15_1 ∧ Aside0 (carillonlaw14_CommandAnswers.l0 kq a2 t645 t646 t647 t648 t649 t650 t656 x15_1 t651 t652 x658002_1 = some r) ∧ Aside0 (kq ≤ k) ∧ Aside0 (Kd.R k48 48 w' w.heap.size (fun _ => True) u658002 x658002_1) ∧ Aside0 (w'.heap[ai]? = some (.cells #[.int .i64 a1_0, .int .i64 a1_1, (.slice A1_2 l1_2.length c1_2)] 39 (0, 0))) ∧ Aside0 (w'.heap[ag]? = some (.cells #[.int .i64 t651, .int .i64 t652, u658002] 39 (0, 0))) ∧ Aside0 (Below w.heap.size w w'))
 case atStart => exact ⟨(0), (t653), (.slice b7 t653.length b8), (by first | rfl | (simp; done) | (simp [*]; done)), H', ⟨Nat.le_refl _⟩, ⟨by (with_reducible repeat (first | apply Kd.R_alloc | apply Kd.R_drewN | apply Kd.R_drew)); exact Kd.R_mono (Kd.R_far (p := ⟨ag, 2, none⟩) (Kd.R_far (p := ⟨ag, 1, none⟩) (Kd.R_far (p := ⟨ag, 0, none⟩) (Kd.R_types bi.out ad.out (by decide)) (fun _ hk => hk.2) (.int .i64 t651)) (fun _ hk => hk.2) (.int .i64 t652)) (fun _ hk => hk.2) (.slice b7 t653.length b8)) (fun _ hk => trivial)⟩, ⟨by (with_reducible repeat (first | refine blk_drewN ?_ _ | refine blk_drew ?_ | refine blk_alloc ?_ _ | refine blk_far ?_ al.out _)); exact ab.out⟩, ⟨by (with_reducible repeat (first | refine blk_drewN ?_ _ | refine blk_drew ?_ | refine blk_alloc ?_ _)); refine blk_put (cs := #[.int .i64 t651, .int .i64 t652, .slice none 0 0]) ?_ 2 _ rfl; (with_reducible repeat (first | refine blk_drewN ?_ _ | refine blk_drew ?_ | refine blk_alloc ?_ _)); refine blk_put (cs := #[.int .i64 t651, .int .i64 0, .slice none 0 0]) ?_ 1 _ rfl; (with_reducible repeat (first | refine blk_drewN ?_ _ | refine blk_drew ?_ | refine blk_alloc ?_ _)); refine blk_put (cs := #[.int .i64 0, .int .i64 0, .slice none 0 0]) ?_ 0 _ rfl; (with_reducible repeat (first | refine blk_drewN ?_ _ | refine blk_drew ?_ | refine blk_alloc ?_ _)); exact ad.out⟩, ⟨bw⟩⟩
 case round =>
  clear H'
  try clear c1
  try clear c2
  try clear p2
  try clear c5
  try clear c11
  try clear c16
  try clear av aw ax a6 a7 a8 bc bd be
  try clear ay az a5 a9 ba bb bf bg bh
  obtain ⟨x15_1, x658002_1, u658002, rfl, HA, HK1, aa, ab, ad, HB⟩ := hrel
  cases gk with
  | zero => exact absurd HA.out (by simp [carillonlaw14_CommandAnswers.l0])
  | succ k1 =>
   have H := HA.out
   clear HA
   simp only [carillonlaw14_CommandAnswers.l0] at H
   by_cases c19 : x15_1 < 2; rotate_left
   ·rw [if_neg c19] at H
    have b3 : decide (x15_1 < 2) = false := decide_eq_false c19
    clear c19
    by_cases c49 : t645 = true; rotate_left
    ·replace c49 := Bool.eq_false_iff.mpr c49
     subst c49
     have H1 : (some false) = some r := by rw [if_neg (show ¬ (false = true) by decide)] at H; exact H
     clear H
     have H := H1
     clear H1
     exact absurd ((Option.some.inj H).trans hr_.out) (by decide)
    subst c49
    have H1 := H
    rw [if_pos rfl] at H1
    clear H
    have H := H1
    clear H1
    by_cases c50 : t646.toList = t648.toList; rotate_left
    ·rw [if_neg c50] at H
     have c50b0 : (t646.toList == t648.toList) = false := beq_eq_false_iff_ne.mpr c50
     have c50b1 : (t646.toList != t648.toList) = true := bne_iff_ne.mpr c50
     exact absurd ((Option.some.inj H).trans hr_.out) (by decide)
    rw [if_pos c50] at H
    have c50b0 : (t646.toList == t648.toList) = true := beq_iff_eq.mpr c50
    have c50b1 : (t646.toList != t648.toList) = false := bne_eq_false_iff_eq.mpr c50
    clear c50
    by_cases c51 : ((t647 == 0) == t649) = true; rotate_left
    ·rw [if_neg c51] at H
     have c51b0 : ((t647 == 0) == t649) = false := by simpa using c51
     (try (have c51b1 : decide ((t647 == 0) = t649) = false := by simpa using c51))
     (try (have c51b2 : ((t647 == 0) == t649) = false := by simpa using c51))
     (try (have c51b3 : ¬ ((t647 == 0) = t649) := by simpa using c51))
     clear c51
     exact absurd ((Option.some.inj H).trans hr_.out) (by decide)
    rw [if_pos c51] at H
    have c51b0 : ((t647 == 0) == t649) = true := c51
    (try (have c51b1 : decide ((t647 == 0) = t649) = true := by simpa using c51))
    (try (have c51b2 : ((t647 == 0) == t649) = true := by simpa using c51))
    clear c51
    by_cases c52 : t649 = true
    ·subst c52
     have H1 : (some true) = some r := by rw [if_pos rfl] at H; exact H
     clear H
     have H := H1
     clear H1
     obtain rfl := Option.some.inj H
     go_wp2
     go_ret
     exact ⟨er, bw⟩
    replace c52 := Bool.eq_false_iff.mpr c52
    subst c52
    have H1 : (some (t647 == 1)) = some r := by rw [if_neg (show ¬ (false = true) by decide)] at H; exact H
    clear H
    have H := H1
    clear H1
    obtain rfl := Option.some.inj H
    go_wp2
    go_ret
    exact ⟨er, bw⟩
   rw [if_pos c19] at H
   have b3 : decide (x15_1 < 2) = true := decide_eq_true c19
   clear c19
   replace H := Option.bind_eq_some_iff.mp H
   obtain ⟨⟨t658, t659, t660, t661, t664⟩, A200, H⟩ := H
   replace H : ((carillonlaw14_replies.f k1 t659 t660 t661 t651 t652 x658002_1).bind fun t666 => (if t666 = true then (if t658 = t650 then (carillonlaw14_CommandAnswers.j1 k1 a2 t645 t646 t647 t648 t649 t650 t656 x15_1 (t664 != t656) t651 t652 x658002_1 t659 t660 t661) else (carillonlaw14_CommandAnswers.j1 k1 a2 t645 t646 t647 t648 t649 t650 t656 x15_1 true t651 t652 x658002_1 t659 t660 t661)) else (carillonlaw14_CommandAnswers.j1 k1 a2 t645 t646 t647 t648 t649 t650 t656 x15_1 true t651 t652 x658002_1 t659 t660 t661))) = some r := H
   have A20 := Aside0.mk A200
   clear A200
   replace H := Option.bind_eq_some_iff.mp H
   obtain ⟨t666, A210, H⟩ := H
   have A21 := Aside0.mk A210
   clear A210
   have HC22 := Aside0.mk H
   clear H
   go_upto_region 10 with (first | ((with_reducible refine gate_callee (f := 27) rfl ?_); refine goesL_ (some 46) rfl rfl Tryd.func27 (by kernel_rfl) rfl #[.string a2] rfl am ?_; (with_reducible refine (command_Answered.calls k1 a2 t658 t659 t660 t661 t664 _ tbk A20.out).mono ?_); rintro e w23 ⟨v662, rfl, ho0, hb⟩; refine ⟨_, rfl, ?_⟩; have ah := Aside0.mk (Kd.R_lower (Kd.R_new' ho0 (Kd.R_lt (r_ aa.out))) (below_size bw)); replace aa := Aside0.mk (Kd.R_elder' (r_ aa.out) (Kd.R_base ho0) hb); replace ab := Aside0.mk (nb ab.out hb); replace ad := Aside0.mk (nb ad.out hb); replace HB := Aside0.mk (below_step bw hb); (try clear hb); (try clear ho0)) | ((with_reducible refine gate_dst (N := 17) rfl ?_); refine box_event ?hg (N := 17) ?hd (cs := #[.int .i64 0, .int .i64 0, .slice none 0 0]) (t := 39) ?hr ?_; (case hd => rfl); (case hg => rfl); (case hr => first | (go_simp; done) | (go_simp; rfl)); intro ae hg w24 hbox hb; have n0_ := Aside0.mk (Kd.R_below (r_ aa.out) hb); have n1_ := Aside0.mk (Kd.R_below (r_ ah.out) hb); have n2_ := Aside0.mk (nb ab.out hb); have n3_ := Aside0.mk (nb ad.out hb); have n4_ := Aside0.mk (below_step bw hb); have n5_ := Aside0.mk (hbox); have n6_ := Aside0.mk ((g1 hg bw : w.heap.size ≤ ae)); have n7_ := Aside0.mk ((g1 hg bw : w.heap.size ≤ ae)); have n8_ := Aside0.mk ((n1 hg ab.out : ai ≠ ae)); have n9_ := Aside0.mk ((n2 hg ab.out : ae ≠ ai)); have b9 := Aside0.mk ((n1 hg ad.out : ag ≠ ae)); have ca := Aside0.mk ((n2 hg ad.out : ae ≠ ag)); clear aa; clear ah; clear ab; clear ad; clear HB; have aa := n0_; have ah := n1_; have ab := n2_; have ad := n3_; have HB := n4_; have af := n5_; have GW665 := n6_; have GE665 := n7_; have aj := n8_; have an := n9_; have ak := b9; have ao := ca; clear n0_ n1_ n2_ n3_ n4_ n5_ n6_ n7_ n8_ n9_ b9 ca; clear hb hbox hg; have hnb25 := an.out; have hnc25 := aj.out; have hnb26 := ao.out; have hnc26 := ak.out; obtain ⟨bm, bn, bo, bp, bq, br⟩ := bx3 af.out; obtain ⟨aq, ap, eo28⟩ := Kd.R_slice ah.out; subst eo28; have hnb29 := au.out; have hnc29 := al.out; obtain ⟨bs, bu, bv, bx, b0, b1⟩ := bx3 ad.out; obtain ⟨bl, bj, eo31⟩ := Kd.R_slice aa.out; subst eo31) | ((with_reducible refine gate_callee (f := 28) rfl ?_); refine goesL_ (some 52) rfl rfl Tryd.func28 (by kernel_rfl) rfl #[.agg #[.int .i64 t659, .int .i64 t660, .slice aq t661.length ap], .agg #[.int .i64 t651, .int .i64 t652, .slice bl x658002_1.length bj]] rfl am ?_; (with_reducible refine (carillonlaw14_replies.calls k1 t659 t660 _ _ t661 t651 t652 _ _ x658002_1 t666 _ ?side1 ?side2 ?side3 ?side4 A21.out).mono ?_); (case side1 => refine (Kd.R_reads' (e := 48) (base := w.heap.size) (ok := fun k_ => (True ∧ some k_ ≠ (.slice bl x658002_1.length bj : Value).ownBlock)) (n := t661.length) (c := ap) ?_).2.2; exact (by (with_reducible repeat (first | apply Kd.R_alloc | apply Kd.R_drewN | apply Kd.R_drew)); exact (Kd.R_mono (Kd.R_far (p := ⟨ae, 2, none⟩) (Kd.R_far (p := ⟨ae, 1, none⟩) (Kd.R_far (p := ⟨ae, 0, none⟩) (Kd.R_types ah.out af.out (by decide)) (fun _ hk => hk.2) (.int .i64 t659)) (fun _ hk => hk.2) (.int .i64 t660)) (fun _ hk => hk.2) (.slice aq t661.length ap)) (fun _ h_ => h_.1)))); (case side2 => exact (Kd.R_reads' ah.out).2.1); (case side3 => refine (Kd.R_reads' (e := 48) (base := w.heap.size) (ok := fun k_ => (True ∧ some k_ ≠ (.slice aq t661.length ap : Value).ownBlock)) (n := x658002_1.length) (c := bj) ?_).2.2; exact (by (with_reducible repeat (first | apply Kd.R_alloc | apply Kd.R_drewN | apply Kd.R_drew)); exact (Kd.R_mono (Kd.R_far (p := ⟨ae, 2, none⟩) (Kd.R_far (p := ⟨ae, 1, none⟩) (Kd.R_far (p := ⟨ae, 0, none⟩) (Kd.R_types aa.out af.out (by decide)) (fun _ hk => hk.2) (.int .i64 t659)) (fun _ hk => hk.2) (.int .i64 t660)) (fun _ hk => hk.2) (.slice aq t661.length ap)) (fun _ h_ => h_.1)))); (case side4 => exact (Kd.R_reads' aa.out).2.1); rintro e w32 ⟨rfl, hb⟩; refine ⟨_, rfl, ?_⟩; replace aa := Aside0.mk (Kd.R_below (by (with_reducible repeat (first | apply Kd.R_alloc | apply Kd.R_drewN | apply Kd.R_drew)); exact (Kd.R_mono (Kd.R_far (p := ⟨ae, 2, none⟩) (Kd.R_far (p := ⟨ae, 1, none⟩) (Kd.R_far (p := ⟨ae, 0, none⟩) (Kd.R_types aa.out af.out (by decide)) (fun _ hk => hk.2) (.int .i64 t659)) (fun _ hk => hk.2) (.int .i64 t660)) (fun _ hk => hk.2) (.slice aq t661.length ap)) (fun _ h_ => h_.1))) hb); replace ah := Aside0.mk (Kd.R_below (by (with_reducible repeat (first | apply Kd.R_alloc | apply Kd.R_drewN | apply Kd.R_drew)); exact (Kd.R_mono (Kd.R_far (p := ⟨ae, 2, none⟩) (Kd.R_far (p := ⟨ae, 1, none⟩) (Kd.R_far (p := ⟨ae, 0, none⟩) (Kd.R_types ah.out af.out (by decide)) (fun _ hk => hk.2) (.int .i64 t659)) (fun _ hk => hk.2) (.int .i64 t660)) (fun _ hk => hk.2) (.slice aq t661.length ap)) (fun _ h_ => h_.1))) hb); replace ab := Aside0.mk (blk_below (g := ai) (o := .cells #[.int .i64 a1_0, .int .i64 a1_1, .slice A1_2 l1_2.length c1_2] 39 (0, 0)) (by (with_reducible repeat (first | refine blk_drewN ?_ _ | refine blk_drew ?_ | refine blk_alloc ?_ _ | refine blk_far ?_ aj.out _)); exact ab.out) hb); replace ad := Aside0.mk (blk_below (g := ag) (o := .cells #[.int .i64 t651, .int .i64 t652, .slice bl x658002_1.length bj] 39 (0, 0)) (by (with_reducible repeat (first | refine blk_drewN ?_ _ | refine blk_drew ?_ | refine blk_alloc ?_ _ | refine blk_far ?_ ak.out _)); exact ad.out) hb); replace af := Aside0.mk (blk_below (g := ae) (o := .cells #[.int .i64 t659, .int .i64 t660, .slice aq t661.length ap] 39 (0, 0)) (by (with_reducible repeat (first | refine blk_drewN ?_ _ | refine blk_drew ?_ | refine blk_alloc ?_ _)); refine blk_put (cs := #[.int .i64 t659, .int .i64 t660, .slice none 0 0]) ?_ 2 _ rfl; (with_reducible repeat (first | refine blk_drewN ?_ _ | refine blk_drew ?_ | refine blk_alloc ?_ _)); refine blk_put (cs := #[.int .i64 t659, .int .i64 0, .slice none 0 0]) ?_ 1 _ rfl; (with_reducible repeat (first | refine blk_drewN ?_ _ | refine blk_drew ?_ | refine blk_alloc ?_ _)); refine blk_put (cs := #[.int .i64 0, .int .i64 0, .slice none 0 0]) ?_ 0 _ rfl; (with_reducible repeat (first | refine blk_drewN ?_ _ | refine blk_drew ?_ | refine blk_alloc ?_ _)); exact af.out) hb); replace HB := Aside0.mk (below_step bw hb); (try clear hb)))
   (try simp only [Act.put, sl1, sl2, sl3])
   go_cut [64] (fun v64 wc => ∃ (kq : Nat) (x64_21 : Bool), v64 = .bool x64_21 ∧ Aside0 (carillonlaw14_CommandAnswers.j1 kq a2 t645 t646 t647 t648 t649 t650 t656 x15_1 x64_21 t651 t652 x658002_1 t659 t660 t661 = some r) ∧ Aside0 (kq ≤ k1) ∧ Aside0 (Kd.R k48 48 wc w.heap.size (fun k_ => some k_ ≠ ((.slice aq t661.length ap) : Value).ownBlock) (.slice bl x658002_1.length bj) x658002_1) ∧ Aside0 (Kd.R k48 48 wc w.heap.size (fun k_ => some k_ ≠ ((.slice bl x658002_1.length bj) : Value).ownBlock) (.slice aq t661.length ap) t661) ∧ Aside0 (wc.heap[ai]? = some (.cells #[.int .i64 a1_0, .int .i64 a1_1, (.slice A1_2 l1_2.length c1_2)] 39 (0, 0))) ∧ Aside0 (wc.heap[ag]? = some (.cells #[.int .i64 t651, .int .i64 t652, (.slice bl x658002_1.length bj)] 39 (0, 0))) ∧ Aside0 (wc.heap[ae]? = some (.cells #[.int .i64 t659, .int .i64 t660, (.slice aq t661.length ap)] 39 (0, 0))) ∧ Aside0 (Below w.heap.size w wc))
   case first =>
    have H := HC22.out
    clear HC22
    by_cases c33 : t666 = true; rotate_left
    ·replace c33 := Bool.eq_false_iff.mpr c33
     subst c33
     have H1 : (carillonlaw14_CommandAnswers.j1 k1 a2 t645 t646 t647 t648 t649 t650 t656 x15_1 true t651 t652 x658002_1 t659 t660 t661) = some r := by rw [if_neg (show ¬ (false = true) by decide)] at H; exact H
     clear H
     have H := H1
     clear H1
     have H' := Aside0.mk H
     clear H
     go_wp2
     go_meet
     case rel => exact ⟨_, (true), (by first | rfl | (simp; done) | (simp [*]; done)), H', ⟨by have := HK1.out; first | omega | exact Nat.le_refl _⟩, ⟨by (with_reducible repeat (first | apply Kd.R_alloc | apply Kd.R_drewN | apply Kd.R_drew)); exact Kd.R_mono aa.out (fun _ hk => hk.2)⟩, ⟨by (with_reducible repeat (first | apply Kd.R_alloc | apply Kd.R_drewN | apply Kd.R_drew)); exact Kd.R_mono ah.out (fun _ hk => hk.2)⟩, ⟨by (with_reducible repeat (first | refine blk_drewN ?_ _ | refine blk_drew ?_ | refine blk_alloc ?_ _)); exact ab.out⟩, ⟨by (with_reducible repeat (first | refine blk_drewN ?_ _ | refine blk_drew ?_ | refine blk_alloc ?_ _)); exact ad.out⟩, ⟨by (with_reducible repeat (first | refine blk_drewN ?_ _ | refine blk_drew ?_ | refine blk_alloc ?_ _)); exact af.out⟩, ⟨bw⟩⟩
    subst c33
    have H1 := H
    rw [if_pos rfl] at H1
    clear H
    have H := H1
    clear H1
    by_cases c34 : t658 = t650; rotate_left
    ·rw [if_neg c34] at H
     have ar : (t658 == t650) = false := beq_eq_false_iff_ne.mpr c34
     have b4 : (t658 != t650) = true := bne_iff_ne.mpr c34
     (first | rw [ar] | (simp only [i64_w, i32_w]; rw [ar]) | skip)
     have H' := Aside0.mk H
     clear H
     go_wp2
     go_meet
     case rel => exact ⟨_, (true), (by first | rfl | (simp; done) | (simp [*]; done)), H', ⟨by have := HK1.out; first | omega | exact Nat.le_refl _⟩, ⟨by (with_reducible repeat (first | apply Kd.R_alloc | apply Kd.R_drewN | apply Kd.R_drew)); exact Kd.R_mono aa.out (fun _ hk => hk.2)⟩, ⟨by (with_reducible repeat (first | apply Kd.R_alloc | apply Kd.R_drewN | apply Kd.R_drew)); exact Kd.R_mono ah.out (fun _ hk => hk.2)⟩, ⟨by (with_reducible repeat (first | refine blk_drewN ?_ _ | refine blk_drew ?_ | refine blk_alloc ?_ _)); exact ab.out⟩, ⟨by (with_reducible repeat (first | refine blk_drewN ?_ _ | refine blk_drew ?_ | refine blk_alloc ?_ _)); exact ad.out⟩, ⟨by (with_reducible repeat (first | refine blk_drewN ?_ _ | refine blk_drew ?_ | refine blk_alloc ?_ _)); exact af.out⟩, ⟨bw⟩⟩
    rw [if_pos c34] at H
    have ar : (t658 == t650) = true := beq_iff_eq.mpr c34
    have b4 : (t658 != t650) = false := bne_eq_false_iff_eq.mpr c34
    clear c34
    (first | rw [ar] | (simp only [i64_w, i32_w]; rw [ar]) | skip)
    have H' := Aside0.mk H
    clear H
    go_wp2
    go_meet
    case rel => exact ⟨_, ((t664 != t656)), (by first | rfl | (simp; done) | (simp [*]; done)), H', ⟨by have := HK1.out; first | omega | exact Nat.le_refl _⟩, ⟨by (with_reducible repeat (first | apply Kd.R_alloc | apply Kd.R_drewN | apply Kd.R_drew)); exact Kd.R_mono aa.out (fun _ hk => hk.2)⟩, ⟨by (with_reducible repeat (first | apply Kd.R_alloc | apply Kd.R_drewN | apply Kd.R_drew)); exact Kd.R_mono ah.out (fun _ hk => hk.2)⟩, ⟨by (with_reducible repeat (first | refine blk_drewN ?_ _ | refine blk_drew ?_ | refine blk_alloc ?_ _)); exact ab.out⟩, ⟨by (with_reducible repeat (first | refine blk_drewN ?_ _ | refine blk_drew ?_ | refine blk_alloc ?_ _)); exact ad.out⟩, ⟨by (with_reducible repeat (first | refine blk_drewN ?_ _ | refine blk_drew ?_ | refine blk_alloc ?_ _)); exact af.out⟩, ⟨bw⟩⟩
   case rest =>
    clear HC22
    try clear c1
    try clear c2
    try clear p2
    try clear c3
    try clear c5
    try clear c11
    try clear c16
    try clear c19
    try clear b3
    try clear c24
    try clear c25
    try clear c26
    try clear c27
    try clear c28
    try clear c29
    try clear c33
    try clear c34
    try clear ar
    try clear b4
    try clear av aw ax a6 a7 a8 bc bd be bm bn bo bs bu bv
    try clear ay az a5 a9 ba bb bf bg bh bp bq br bx b0 b1
    try clear p2
    obtain ⟨kq, x64_21, rfl, HA, b5, aa, ac, ab, ad, af, HB⟩ := hcut
    cases kq with
    | zero => exact absurd HA.out (by simp [carillonlaw14_CommandAnswers.j1])
    | succ b6 =>
     have H := HA.out
     clear HA
     simp only [carillonlaw14_CommandAnswers.j1] at H
     by_cases c35 : x64_21 = true
     ·subst c35
      have H1 : (some false) = some r := by rw [if_pos rfl] at H; exact H
      clear H
      have H := H1
      clear H1
      exact absurd ((Option.some.inj H).trans hr_.out) (by decide)
     replace c35 := Bool.eq_false_iff.mpr c35
     subst c35
     have H1 : (carillonlaw14_CommandAnswers.l1 b6 a2 t645 t646 t647 t648 t649 t650 t656 x15_1 0 t651 t652 x658002_1 t659 t660 t661) = some r := by rw [if_neg (show ¬ (false = true) by decide)] at H; exact H
     clear H
     have H := H1
     clear H1
     have H' := Aside0.mk H
     clear H
     go_wp2
     go_loopg [20] b6 (fun kq v20 w' => ∃ (x20_3 : Int) (x658002_3 : List (S48)) (x666002_3 : List (S48)) (u658002 : Value) (u666002 : Value), v20 = .int .i64 x20_3 ∧ Aside0 (carillonlaw14_CommandAnswers.l1 kq a2 t645 t646 t647 t648 t649 t650 t656 x15_1 x20_3 t651 t652 x658002_3 t659 t660 x666002_3 = some r) ∧ Aside0 (kq ≤ b6) ∧ Aside0 (Kd.R k48 48 w' w.heap.size (fun k_ => some k_ ≠ (u666002 : Value).ownBlock) u658002 x658002_3) ∧ Aside0 (Kd.R k48 48 w' w.heap.size (fun k_ => some k_ ≠ (u658002 : Value).ownBlock) u666002 x666002_3) ∧ Aside0 (w'.heap[ai]? = some (.cells #[.int .i64 a1_0, .int .i64 a1_1, (.slice A1_2 l1_2.length c1_2)] 39 (0, 0))) ∧ Aside0 (w'.heap[ag]? = some (.cells #[.int .i64 t651, .int .i64 t652, u658002] 39 (0, 0))) ∧ Aside0 (w'.heap[ae]? = some (.cells #[.int .i64 t659, .int .i64 t660, u666002] 39 (0, 0))) ∧ Aside0 (Below w.heap.size w w'))
     case atStart => exact ⟨(0), (x658002_1), (t661), (.slice bl x658002_1.length bj), (.slice aq t661.length ap), (by first | rfl | (simp; done) | (simp [*]; done)), H', ⟨Nat.le_refl _⟩, ⟨r_ aa.out⟩, ⟨r_ ac.out⟩, ⟨by (with_reducible repeat (first | refine blk_drewN ?_ _ | refine blk_drew ?_ | refine blk_alloc ?_ _)); exact ab.out⟩, ⟨by (with_reducible repeat (first | refine blk_drewN ?_ _ | refine blk_drew ?_ | refine blk_alloc ?_ _)); exact ad.out⟩, ⟨by (with_reducible repeat (first | refine blk_drewN ?_ _ | refine blk_drew ?_ | refine blk_alloc ?_ _)); exact af.out⟩, ⟨bw⟩⟩
     case round =>
      clear H'
      try clear c1
      try clear c2
      try clear p2
      try clear c3
      try clear c5
      try clear c11
      try clear c16
      try clear c19
      try clear b3
      try clear c24
      try clear c25
      try clear c26
      try clear c27
      try clear c28
      try clear c29
      try clear c33
      try clear c34
      try clear ar
      try clear b4
      try clear c35
      try clear av aw ax a6 a7 a8 bc bd be bm bn bo bs bu bv
      try clear ay az a5 a9 ba bb bf bg bh bp bq br bx b0 b1
      try clear p2
      obtain ⟨x20_3, x658002_3, x666002_3, u658002, u666002, rfl, HA, HK3, aa, ac, ab, ad, af, HB⟩ := hrel
      cases gk with
      | zero => exact absurd HA.out (by simp [carillonlaw14_CommandAnswers.l1])
      | succ k3 =>
       have H := HA.out
       clear HA
       simp only [carillonlaw14_CommandAnswers.l1] at H
       by_cases c36 : x20_3 < (x666002_3.length : Int); rotate_left
       ·rw [if_neg c36] at H
        have c36b0 : decide (x20_3 < (x666002_3.length : Int)) = false := decide_eq_false c36
        clear c36
        have H' := Aside0.mk H
        clear H
        have hnb45 := an.out
        have hnc45 := aj.out
        have hnb46 := ao.out
        have hnc46 := ak.out
        obtain ⟨hcz47_0, hcz47_1, hcz47_2, hfz47_0, hfz47_1, hfz47_2⟩ := bx3 af.out
        obtain ⟨Ao48, co48, eo48⟩ := Kd.R_slice ac.out
        subst eo48
        go_wp2
        go_roundg k3
        case measure => have := HK1.out; have := b5.out; have := HK3.out; omega
        case rel => exact ⟨(wrap64 (x15_1 + 1)), (x658002_3), (u658002), (by first | rfl | (simp; done) | (simp [*]; done)), H', ⟨by have := HK1.out; have := b5.out; have := HK3.out; omega⟩, ⟨by (with_reducible repeat (first | apply Kd.R_alloc | apply Kd.R_drewN | apply Kd.R_drew)); exact Kd.R_mono aa.out (fun _ hk => trivial)⟩, ⟨by (with_reducible repeat (first | refine blk_drewN ?_ _ | refine blk_drew ?_ | refine blk_alloc ?_ _)); exact ab.out⟩, ⟨by (with_reducible repeat (first | refine blk_drewN ?_ _ | refine blk_drew ?_ | refine blk_alloc ?_ _)); exact ad.out⟩, ⟨bw⟩⟩
       rw [if_pos c36] at H
       have c36b0 : decide (x20_3 < (x666002_3.length : Int)) = true := decide_eq_true c36
       clear c36
       obtain ⟨c37, H⟩ := its H
       have c37b0 : decide (0 ≤ x20_3) = true := decide_eq_true c37
       clear c37
       obtain ⟨y667, hy667⟩ : ∃ y_ : List (S48), y_ = (x666002_3.set (x20_3 : Int).toNat (⟨0, (⟨#[]⟩ : ByteArray), 0, (⟨#[]⟩ : ByteArray), (⟨#[]⟩ : ByteArray)⟩ : S48)) := ⟨_, rfl⟩
       replace H : (carillonlaw14_CommandAnswers.l1 k3 a2 t645 t646 t647 t648 t649 t650 t656 x15_1 (wrap64 (x20_3 + 1)) t651 t652 x658002_3 t659 t660 y667) = some r := by first | (rw [hy667]; with_reducible exact H) | (have H2_ := (Option.bind_some _ _).symm.trans H; rw [hy667]; with_reducible exact H2_) | (have H2_ := (Option.bind_some _ _).symm.trans H; with_reducible exact H2_) | with_reducible exact H | (rw [hy667]; exact H) | exact H
       have Ny667 := Aside0.mk hy667
       clear hy667
       have H' := Aside0.mk H
       clear H
       have hnb39 := an.out
       have hnc39 := aj.out
       have hnb40 := ao.out
       have hnc40 := ak.out
       obtain ⟨hcz41_0, hcz41_1, hcz41_2, hfz41_0, hfz41_1, hfz41_2⟩ := bx3 af.out
       obtain ⟨Ao42, b2, eo42⟩ := Kd.R_slice ac.out
       subst eo42
       have p38 : 0 ≤ (x20_3 : Int) := od
       have q38 : (x20_3 : Int) < ((x666002_3.length : Int) : Int) := od
       obtain ⟨go38, co38, cb, cc, gl38, cl38, HG38⟩ := Kd.R_form ac.out (by omega)
       (first | cases cb | (injection cb with ea_ en_ ec_; (first | subst ea_ | (injection ea_ with ea_; subst ea_)); subst ec_; clear en_))
       have GB38 := Aside0.mk cc
       have GG38 := Aside0.mk HG38
       clear cc gl38 HG38
       obtain ⟨ce38, hcl38, hM38, hcc38, hfr38⟩ := Kd.R_elem ac.out z48 (x20_3 : Int) p38 q38
       obtain rfl := k48_openM hM38
       have hx38_0 : wr.cell? ⟨go38, (x20_3 : Int).toNat * 5, none⟩ = some (.int .i64 ((rd_T48 x666002_3 x20_3).f0)) := hcc38 0 _ rfl
       have hx38_1 : wr.cell? ⟨go38, (x20_3 : Int).toNat * 5 + 1, none⟩ = some (.string ((rd_T48 x666002_3 x20_3).f1)) := hcc38 1 _ rfl
       have hx38_2 : wr.cell? ⟨go38, (x20_3 : Int).toNat * 5 + 2, none⟩ = some (.int .i64 ((rd_T48 x666002_3 x20_3).f2)) := hcc38 2 _ rfl
       have hx38_3 : wr.cell? ⟨go38, (x20_3 : Int).toNat * 5 + 3, none⟩ = some (.string ((rd_T48 x666002_3 x20_3).f3)) := hcc38 3 _ rfl
       have hx38_4 : wr.cell? ⟨go38, (x20_3 : Int).toNat * 5 + 4, none⟩ = some (.string ((rd_T48 x666002_3 x20_3).f4)) := hcc38 4 _ rfl
       have hf38_0 : wr.frozen? ⟨go38, (x20_3 : Int).toNat * 5, none⟩ = false := hfr38 0
       have hf38_1 : wr.frozen? ⟨go38, (x20_3 : Int).toNat * 5 + 1, none⟩ = false := hfr38 1
       have hf38_2 : wr.frozen? ⟨go38, (x20_3 : Int).toNat * 5 + 2, none⟩ = false := hfr38 2
       have hf38_3 : wr.frozen? ⟨go38, (x20_3 : Int).toNat * 5 + 3, none⟩ = false := hfr38 3
       have hf38_4 : wr.frozen? ⟨go38, (x20_3 : Int).toNat * 5 + 4, none⟩ = false := hfr38 4
       clear hcl38 hcc38 hfr38 hM38
       replace p38 := eq_true p38
       replace q38 := eq_true q38
       have HX43 := Aside0.mk (show Kd.R k48 48 wr w.heap.size (fun k_ => some k_ ≠ (u658002 : Value).ownBlock) (.slice (some ⟨go38, 0, none⟩) x666002_3.length b2) x666002_3 from (r_ ac.out))
       obtain ⟨ce43, hcl43, hM43, hcc43, hfr43⟩ := Kd.R_elem HX43.out z48 (x20_3 : Int) (od) (by have h_ : (x20_3 : Int) < ((x666002_3.length : Int) : Int) := od; first | exact h_ | (have e_ := (Kd.R_reads' ac.out).1; omega) | simpa using h_)
       obtain rfl := k48_openM hM43
       have HP43 := Kd.R_seg HX43.out (x20_3 : Int) (od) (by have h_ : (x20_3 : Int) < ((x666002_3.length : Int) : Int) := od; first | exact h_ | (have e_ := (Kd.R_reads' ac.out).1; omega) | simpa using h_) (seg := [.int .i64 0, .string (⟨#[]⟩ : ByteArray), .int .i64 0, .string (⟨#[]⟩ : ByteArray), .string (⟨#[]⟩ : ByteArray)]) (j := 0) hcl43 hcc43 (show 5 ≤ 5 from by decide) (x' := (⟨0, (⟨#[]⟩ : ByteArray), 0, (⟨#[]⟩ : ByteArray), (⟨#[]⟩ : ByteArray)⟩ : S48)) (k48_mkM _ _ _ (⟨0, (⟨#[]⟩ : ByteArray), 0, (⟨#[]⟩ : ByteArray), (⟨#[]⟩ : ByteArray)⟩ : S48) ) (fun _ hk => hk)
       have hx43_0 := hcc43 0 _ rfl
       (try simp only [show (k48).sz = 5 from rfl, Nat.mul_one, Nat.add_zero] at hx43_0)
       have hf43_0 := hfr43 0
       (try simp only [show (k48).sz = 5 from rfl, Nat.mul_one, Nat.add_zero] at hf43_0)
       have hx43_1 := hcc43 1 _ rfl
       (try simp only [show (k48).sz = 5 from rfl, Nat.mul_one, Nat.add_zero] at hx43_1)
       have hf43_1 := hfr43 1
       (try simp only [show (k48).sz = 5 from rfl, Nat.mul_one, Nat.add_zero] at hf43_1)
       have hx43_2 := hcc43 2 _ rfl
       (try simp only [show (k48).sz = 5 from rfl, Nat.mul_one, Nat.add_zero] at hx43_2)
       have hf43_2 := hfr43 2
       (try simp only [show (k48).sz = 5 from rfl, Nat.mul_one, Nat.add_zero] at hf43_2)
       have hx43_3 := hcc43 3 _ rfl
       (try simp only [show (k48).sz = 5 from rfl, Nat.mul_one, Nat.add_zero] at hx43_3)
       have hf43_3 := hfr43 3
       (try simp only [show (k48).sz = 5 from rfl, Nat.mul_one, Nat.add_zero] at hf43_3)
       have hx43_4 := hcc43 4 _ rfl
       (try simp only [show (k48).sz = 5 from rfl, Nat.mul_one, Nat.add_zero] at hx43_4)
       have hf43_4 := hfr43 4
       (try simp only [show (k48).sz = 5 from rfl, Nat.mul_one, Nat.add_zero] at hf43_4)
       clear hcl43 hcc43 hfr43 hM43
       go_wp2_with (first | ((with_reducible refine gate_store (t := 48) (p := 76) rfl ?_); refine store_event (t := 48) (p := 76) (v := ?vo_w44) (w1 := (((((wr.setCell ⟨go38, (x20_3 : Int).toNat * 5, none⟩ (.int .i64 0)).setCell ⟨go38, (x20_3 : Int).toNat * 5 + 1, none⟩ (.string (⟨#[]⟩ : ByteArray))).setCell ⟨go38, (x20_3 : Int).toNat * 5 + 2, none⟩ (.int .i64 0)).setCell ⟨go38, (x20_3 : Int).toNat * 5 + 3, none⟩ (.string (⟨#[]⟩ : ByteArray))).setCell ⟨go38, (x20_3 : Int).toNat * 5 + 4, none⟩ (.string (⟨#[]⟩ : ByteArray)))) ?hg ?ho ?hn ?hr ?_; (case ho => rfl); (case hg => rfl); (case hn => rfl); (case hr => first | (go_simp; done) | (go_simp; rfl)); intro w44 hw; have hg : wr.grownBy w44 (some go38) := (by rw [hw]; exact HP43.2); have hp_ : Kd.R k48 48 w44 w.heap.size (fun k_ => some k_ ≠ (u658002 : Value).ownBlock) (.slice (some ⟨go38, 0, none⟩) x666002_3.length b2) y667 := (by rw [hw, Ny667.out]; exact HP43.1); clear HP43; replace aa := Aside0.mk (Kd.R_after (v := (.slice (some ⟨go38, 0, none⟩) x666002_3.length b2)) (v1 := (.slice (some ⟨go38, 0, none⟩) x666002_3.length b2)) (ok := (fun _ => True)) (by (with_reducible repeat (first | apply Kd.R_alloc | apply Kd.R_drewN | apply Kd.R_drew)); exact Kd.R_mono aa.out (fun _ hk => ⟨trivial, hk⟩)) hg (.inl rfl)); replace ab := Aside0.mk (blk_grown (g := ai) (o := .cells #[.int .i64 a1_0, .int .i64 a1_1, .slice A1_2 l1_2.length c1_2] 39 (0, 0)) (bk ab.out) hg (Kd.R_ne ac.out ab.out (by decide))); replace ad := Aside0.mk (blk_grown (g := ag) (o := .cells #[.int .i64 t651, .int .i64 t652, u658002] 39 (0, 0)) (bk ad.out) hg (Kd.R_ne ac.out ad.out (by decide))); replace af := Aside0.mk (blk_grown (g := ae) (o := .cells #[.int .i64 t659, .int .i64 t660, .slice (some ⟨go38, 0, none⟩) x666002_3.length b2] 39 (0, 0)) (bk af.out) hg (Kd.R_ne ac.out af.out (by decide))); replace ac := Aside0.mk (hp_); replace HB := Aside0.mk ((by rw [hw]; exact below_set (below_set (below_set (below_set (below_set (HB.out) GB38.out) GB38.out) GB38.out) GB38.out) GB38.out : Below w.heap.size w w44)); clear hg hw hp_))
       go_roundg k3
       case measure => have := HK1.out; have := b5.out; have := HK3.out; omega
       case rel => exact ⟨(wrap64 (x20_3 + 1)), (x658002_3), (y667), (u658002), (.slice (some ⟨go38, 0, none⟩) x666002_3.length b2), (by first | rfl | (simp; done) | (simp [*]; done)), H', ⟨by have := HK1.out; have := b5.out; have := HK3.out; omega⟩, ⟨by (with_reducible repeat (first | apply Kd.R_alloc | apply Kd.R_drewN | apply Kd.R_drew)); exact Kd.R_mono aa.out (fun _ hk => hk.2)⟩, ⟨r_ ac.out⟩, ⟨by (with_reducible repeat (first | refine blk_drewN ?_ _ | refine blk_drew ?_ | refine blk_alloc ?_ _)); exact ab.out⟩, ⟨by (with_reducible repeat (first | refine blk_drewN ?_ _ | refine blk_drew ?_ | refine blk_alloc ?_ _)); exact ad.out⟩, ⟨by (with_reducible repeat (first | refine blk_drewN ?_ _ | refine blk_drew ?_ | refine blk_alloc ?_ _)); exact af.out⟩, ⟨bw⟩⟩

end Go.Proofs.YtpgiagdpepkooaaDoor.P
