-- Printed by this session's program wip/xp.py (a turned copy of the kit's printer): functions, their contracts.
import Derived.Test.YtbcpjegakjcmgaaDoorPx0
import Derived.Test.YtbcpjegakjcmgaaDoorPx1
import Derived.Test.YtbcpjegakjcmgaaDoorPx4
import Derived.Test.YtbcpjegakjcmgaaDoorPx5
import Derived.Test.YtbcpjegakjcmgaaDoorPx6
import Derived.Test.YtbcpjegakjcmgaaDoorPx8
import Derived.Test.YtbcpjegakjcmgaaDoorPx11
import Derived.Test.YtbcpjegakjcmgaaDoorPx12
namespace Go.Proofs.YtbcpjegakjcmgaaDoor.P
open Go.RowKit Go.Proofs.YtbcpjegakjcmgaaDoorW.PrintWords Go.Proofs.YtbcpjegakjcmgaaDoorW.PrintLast Go.Proofs.YtbcpjegakjcmgaaDoorW.PrintMore
attribute [local go_sem] max2_int min2_int max_two min_two max_three min_three max_four min_four   -- for this text's walks alone
set_option linter.unusedVariables false
set_option linter.unusedSimpArgs false

attribute [local go_sem high] eqA38
/-! ### carillonref12_Decode: function 9 -/
def carillonref12_Decode.l0 : Nat → List (S50) → Int → Int → List (S38) → Option (Int × (List (S38)) × Int)
 | 0, _, _, _, _ => none
 | k + 1, x4, x7, x325000, x325001 => if x7 < (x4.length : Int) then (if 0 ≤ (wrap64 (x7 + 1)) then (if (wrap64 (x7 + 1)) < (x4.length : Int) then (if ((rd_T50 x4 (wrap64 (x7 + 1))).f1) > 9007199254740991 then (some (0, ([] : List (S38)), 10)) else (if 0 ≤ x7 then (if x325001.length < 8796093022208 then (carillonref12_Decode.l0 k x4 (wrap64 (x7 + 2)) x325000 (x325001 ++ [(⟨wrap64 ((rd_T50 x4 x7).f1), wrap64 ((rd_T50 x4 (wrap64 (x7 + 1))).f1)⟩ : S38)])) else (none)) else (none))) else (none)) else (none)) else ((carillonref12_Right.f k x325000 x325001).bind fun t331 => (if t331 = true then (some (x325000, x325001, 0)) else (some (0, ([] : List (S38)), 10))))
def carillonref12_Decode.f (k : Nat) (a0 : ByteArray) : Option (Int × (List (S38)) × Int) := (carillonref01_Decode.f k (⟨#[108, 42, 98, 108]⟩ : ByteArray) a0).bind fun bt318 => (if bt318.2 = 0 then (if 0 < (bt318.1.length : Int) then (if ((rd_T50 bt318.1 0).f1) > 9007199254740991 then (some (0, ([] : List (S38)), 10)) else (carillonref12_Decode.l0 k bt318.1 1 (wrap64 ((rd_T50 bt318.1 0).f1)) ([] : List (S38)))) else (none)) else (some (0, ([] : List (S38)), bt318.2)))
theorem carillonref12_Decode.mono_l : ∀ k, (∀ y0 y1 y2 y3, LeO (carillonref12_Decode.l0 k y0 y1 y2 y3) (carillonref12_Decode.l0 (k + 1) y0 y1 y2 y3))
 | 0 => fun _ _ _ _ r h => by simp [carillonref12_Decode.l0] at h
 | k + 1 => by
  have ih0 := carillonref12_Decode.mono_l k
  ·intro y0 y1 y2 y3
   unfold carillonref12_Decode.l0
   repeat' first
   | (with_reducible exact ih0 _ _ _ _)
   | (with_reducible exact carillonref01_Decode.mono _ _ _)
   | (with_reducible exact carillonref12_Right.mono _ _ _)
   | (with_reducible exact LeO.refl _)
   | (with_reducible exact LeO.none _)
   | (with_reducible refine LeO.ite ?_ ?_)
   | (with_reducible refine LeO.bind ?_ (fun _ => ?_))
   | exact ih0 _ _ _ _
   | exact carillonref01_Decode.mono _ _ _
   | exact carillonref12_Right.mono _ _ _
   | exact LeO.none _
   | refine LeO.ite ?_ ?_
   | refine LeO.bind ?_ (fun _ => ?_)
theorem carillonref12_Decode.mono : ∀ a0 k, LeO (carillonref12_Decode.f k a0) (carillonref12_Decode.f (k + 1) a0) := by
 intro a0 k
 have ih0 := carillonref12_Decode.mono_l k
 unfold carillonref12_Decode.f
 repeat' first
   | (with_reducible exact ih0 _ _ _ _)
   | (with_reducible exact carillonref01_Decode.mono _ _ _)
   | (with_reducible exact carillonref12_Right.mono _ _ _)
   | (with_reducible exact LeO.refl _)
   | (with_reducible exact LeO.none _)
   | (with_reducible refine LeO.ite ?_ ?_)
   | (with_reducible refine LeO.bind ?_ (fun _ => ?_))
   | exact ih0 _ _ _ _
   | exact carillonref01_Decode.mono _ _ _
   | exact carillonref12_Right.mono _ _ _
   | exact LeO.none _
   | refine LeO.ite ?_ ?_
   | refine LeO.bind ?_ (fun _ => ?_)
def carillonref12_Decode.T12 : Bool × List (List Nat × List Nat) := (true, [([], []), ([0], [0]), ([], []), ([], []), ([2, 3], [2, 3]), ([4], [4]), ([5], [5]), ([6], [6]), ([], []), ([], []), ([9], [9]), ([8, 10], [8, 10]), ([11], [11]), ([12], [12]), ([13], [13]), ([7, 14], [7, 14]), ([15], [15]), ([1, 16], [1, 16]), ([0, 1, 2, 3, 4, 5, 6, 7, 8, 9, 10, 11, 12, 13, 14, 15, 16, 17], []), ([18, 17, 17, 0, 1, 2, 3, 4, 5, 6, 7, 8, 9, 10, 11, 12, 13, 14, 15, 16, 17], [17, 18])])
def carillonref12_Decode.B12 : List Nat := [0, 1, 0, 0, 12, 28, 60, 124, 0, 0, 512, 1792, 3840, 7936, 16128, 32764, 65532, 131071, 262143, 524287]
theorem carillonref12_Decode.tab12 : rtab .any (opsOf Tryd.f9 12) = carillonref12_Decode.T12 := by kernel_rfl
theorem carillonref12_Decode.bits12 : waitsOk carillonref12_Decode.T12.2 carillonref12_Decode.B12 = true := by kernel_rfl
set_option maxHeartbeats 8000000 in
set_option maxRecDepth 100000 in
theorem carillonref12_Decode.calls (k : Nat) (a0 : ByteArray) (r1 : Int) (r2 : List (S38)) (r3 : Int) (w : World) (h : carillonref12_Decode.f k a0 = some (r1, r2, r3)) :
  Calls Tryd.prog 9 #[.string a0] w fun e w' => ∃ v1_ : Value, e = .returned (.tuple #[.agg #[.int .i64 r1, v1_], .int .i64 r3]) ∧ Kd.R k38 38 w' w.heap.size (fun _ => True) v1_ r2 ∧ Below w.heap.size w w' := by
 have hu24 := Tryd.underlying24
 have hu38 := Tryd.underlying38
 have HB := Aside0.mk (Below.refl w.heap.size w)
 have H : ((carillonref01_Decode.f k (⟨#[108, 42, 98, 108]⟩ : ByteArray) a0).bind fun bt318 => (if bt318.2 = 0 then (if 0 < (bt318.1.length : Int) then (if ((rd_T50 bt318.1 0).f1) > 9007199254740991 then (some (0, ([] : List (S38)), 10)) else (carillonref12_Decode.l0 k bt318.1 1 (wrap64 ((rd_T50 bt318.1 0).f1)) ([] : List (S38)))) else (none)) else (some (0, ([] : List (S38)), bt318.2)))) = some (r1, r2, r3) := h
 clear h
 replace H := Option.bind_eq_some_iff.mp H
 obtain ⟨⟨t318, t319⟩, A20, H⟩ := H
 replace H : (if t319 = 0 then (if 0 < (t318.length : Int) then (if ((rd_T50 t318 0).f1) > 9007199254740991 then (some (0, ([] : List (S38)), 10)) else (carillonref12_Decode.l0 k t318 1 (wrap64 ((rd_T50 t318 0).f1)) ([] : List (S38)))) else (none)) else (some (0, ([] : List (S38)), t319))) = some (r1, r2, r3) := H
 have A2 := Aside0.mk A20
 clear A20
 by_cases c3 : t319 = 0
 ·rw [if_pos c3] at H
  have c3b0 : (t319 == 0) = true := beq_iff_eq.mpr c3
  have c3b1 : (t319 != 0) = false := bne_eq_false_iff_eq.mpr c3
  clear c3
  by_cases c4 : 0 < (t318.length : Int)
  ·rw [if_pos c4] at H
   have c4b0 : decide (0 < (t318.length : Int)) = true := decide_eq_true c4
   have c4b1 : decide (0 < t318.length) = true := decide_eq_true (by omega)
   clear c4
   by_cases c5 : ((rd_T50 t318 0).f1) > 9007199254740991
   ·rw [if_pos c5] at H
    have c5b0 : decide (9007199254740991 < ((rd_T50 t318 0).f1)) = true := decide_eq_true c5
    clear c5
    simp only [Option.some.injEq, Prod.mk.injEq] at H
    obtain ⟨rfl, rfl, rfl⟩ := H
    go_enter Tryd.func9, Tryd.ntmps9
    go_wp2_with (first | ((with_reducible refine gate_dst (N := 2) rfl ?_); refine box_event ?hg (N := 2) ?hd (cs := #[.int .i64 0, .slice none 0 0]) (t := 24) ?hr ?_; (case hd => rfl); (case hg => rfl); (case hr => first | (go_simp; done) | (go_simp; rfl)); intro gb317 hg w6 hbox hb; have n0_ := Aside0.mk (below_step bw hb); have n1_ := Aside0.mk (hbox); have n2_ := Aside0.mk ((g1 hg bw : w.heap.size ≤ gb317)); have n3_ := Aside0.mk ((g1 hg bw : w.heap.size ≤ gb317)); clear HB; have HB := n0_; have BK317 := n1_; have GW317 := n2_; have GE317 := n3_; clear n0_ n1_ n2_ n3_; clear hb hbox hg) | ((with_reducible refine gate_callee (f := 24) rfl ?_); refine goesL_ (some 11) rfl rfl Tryd.func24 (by kernel_rfl) rfl #[.string (⟨#[108, 42, 98, 108]⟩ : ByteArray), .string a0] rfl am ?_; (with_reducible refine (carillonref01_Decode.calls k (⟨#[108, 42, 98, 108]⟩ : ByteArray) a0 t318 t319 _ A2.out).mono ?_); rintro e w7 ⟨v320, rfl, ho0, hb⟩; refine ⟨_, rfl, ?_⟩; have n0_ := Aside0.mk (Kd.R_lower ho0 (below_size bw)); have n1_ := Aside0.mk (nb BK317.out hb); have n2_ := Aside0.mk (below_step bw hb); clear BK317; clear HB; have HO321 := n0_; have BK317 := n1_; have HB := n2_; clear n0_ n1_ n2_; (try clear hb); (try clear hb2); (try clear hk); (try clear hi); (try clear ho0); obtain ⟨Ao8, co8, eo8⟩ := Kd.R_slice HO321.out; subst eo8; have p322 : 0 ≤ (0 : Int) := (by omega); have q322 : 0 < (t318.length : Int) := of_decide_eq_true (by first | (with_reducible assumption) | assumption); obtain ⟨ad322, e322, hx322_0, hx322_1, hx322_2⟩ := at_T50 (Kd.R_reads' HO321.out).2.2 0 p322 q322; cases e322; have qi322 : (0 < t318.length) = True := eq_true (by omega); (try rw [show ((0 : Int)).toNat = 0 from rfl] at hx322_0); (try rw [show 0 * 3 = 0 from rfl] at hx322_0); (try rw [Addr.add_zero'] at hx322_0); (try rw [show ((0 : Int)).toNat = 0 from rfl] at hx322_1); (try rw [show 0 * 3 = 0 from rfl] at hx322_1); (try rw [Addr.add_zero'] at hx322_1); (try rw [show ((0 : Int)).toNat = 0 from rfl] at hx322_2); (try rw [show 0 * 3 = 0 from rfl] at hx322_2); (try rw [Addr.add_zero'] at hx322_2); replace p322 := eq_true p322; replace q322 := eq_true q322; have hcz9_0 := bc2_0 BK317.out; have hcz9_1 := bc2_1 BK317.out; have hfz9_0 := blk_frozen BK317.out 0; have hfz9_1 := blk_frozen BK317.out 1))
    refine bodyPost_ret (results_ct rfl _ _ gb317 24 #[.int .i64 0, .slice none 0 0] (0, 0) _ rfl (by (with_reducible repeat (first | refine blk_drewN ?_ _ | refine blk_drew ?_ | refine blk_alloc ?_ _)); refine blk_put (cs := #[.int .i64 0, .slice none 0 0]) ?_ 1 _ rfl; (with_reducible repeat (first | refine blk_drewN ?_ _ | refine blk_drew ?_ | refine blk_alloc ?_ _)); refine blk_put (cs := #[.int .i64 0, .slice none 0 0]) ?_ 0 _ rfl; (with_reducible repeat (first | refine blk_drewN ?_ _ | refine blk_drew ?_ | refine blk_alloc ?_ _)); exact BK317.out) Tryd.underlying24 rfl (by kernel_rfl)) rfl ?_
    exact ⟨_, er, by first | exact Kd.R_nil _ _ _ _ _ | exact Kd.N_nil _ _ _ _ _ | exact Kd.V_nil _ _ _ _ _ | exact Kd.Q_nil _ _ _ _ _ | exact Kd.S_nil _ _ _ _ _, bw⟩
   ·rw [if_neg c5] at H
    have c5b0 : decide (9007199254740991 < ((rd_T50 t318 0).f1)) = false := decide_eq_false c5
    clear c5
    have H' := Aside0.mk H
    clear H
    go_enter Tryd.func9, Tryd.ntmps9
    go_wp2_with (first | ((with_reducible refine gate_dst (N := 2) rfl ?_); refine box_event ?hg (N := 2) ?hd (cs := #[.int .i64 0, .slice none 0 0]) (t := 24) ?hr ?_; (case hd => rfl); (case hg => rfl); (case hr => first | (go_simp; done) | (go_simp; rfl)); intro gb317 hg w10 hbox hb; have n0_ := Aside0.mk (below_step bw hb); have n1_ := Aside0.mk (hbox); have n2_ := Aside0.mk ((g1 hg bw : w.heap.size ≤ gb317)); have n3_ := Aside0.mk ((g1 hg bw : w.heap.size ≤ gb317)); clear HB; have HB := n0_; have BK317 := n1_; have GW317 := n2_; have GE317 := n3_; clear n0_ n1_ n2_ n3_; clear hb hbox hg) | ((with_reducible refine gate_callee (f := 24) rfl ?_); refine goesL_ (some 11) rfl rfl Tryd.func24 (by kernel_rfl) rfl #[.string (⟨#[108, 42, 98, 108]⟩ : ByteArray), .string a0] rfl am ?_; (with_reducible refine (carillonref01_Decode.calls k (⟨#[108, 42, 98, 108]⟩ : ByteArray) a0 t318 t319 _ A2.out).mono ?_); rintro e w11 ⟨v320, rfl, ho0, hb⟩; refine ⟨_, rfl, ?_⟩; have n0_ := Aside0.mk (Kd.R_lower ho0 (below_size bw)); have n1_ := Aside0.mk (nb BK317.out hb); have n2_ := Aside0.mk (below_step bw hb); clear BK317; clear HB; have HO321 := n0_; have BK317 := n1_; have HB := n2_; clear n0_ n1_ n2_; (try clear hb); (try clear hb2); (try clear hk); (try clear hi); (try clear ho0); obtain ⟨Ao12, co12, eo12⟩ := Kd.R_slice HO321.out; subst eo12; have p322 : 0 ≤ (0 : Int) := (by omega); have q322 : 0 < (t318.length : Int) := of_decide_eq_true (by first | (with_reducible assumption) | assumption); obtain ⟨ad322, e322, hx322_0, hx322_1, hx322_2⟩ := at_T50 (Kd.R_reads' HO321.out).2.2 0 p322 q322; cases e322; have qi322 : (0 < t318.length) = True := eq_true (by omega); (try rw [show ((0 : Int)).toNat = 0 from rfl] at hx322_0); (try rw [show 0 * 3 = 0 from rfl] at hx322_0); (try rw [Addr.add_zero'] at hx322_0); (try rw [show ((0 : Int)).toNat = 0 from rfl] at hx322_1); (try rw [show 0 * 3 = 0 from rfl] at hx322_1); (try rw [Addr.add_zero'] at hx322_1); (try rw [show ((0 : Int)).toNat = 0 from rfl] at hx322_2); (try rw [show 0 * 3 = 0 from rfl] at hx322_2); (try rw [Addr.add_zero'] at hx322_2); replace p322 := eq_true p322; replace q322 := eq_true q322; have p323 : 0 ≤ (0 : Int) := (by omega); have q323 : 0 < (t318.length : Int) := of_decide_eq_true (by first | (with_reducible assumption) | assumption); obtain ⟨ad323, e323, hx323_0, hx323_1, hx323_2⟩ := at_T50 (Kd.R_reads' HO321.out).2.2 0 p323 q323; obtain rfl : ad322 = ad323 := (by injection e323); have qi323 : (0 < t318.length) = True := eq_true (by omega); (try rw [show ((0 : Int)).toNat = 0 from rfl] at hx323_0); (try rw [show 0 * 3 = 0 from rfl] at hx323_0); (try rw [Addr.add_zero'] at hx323_0); (try rw [show ((0 : Int)).toNat = 0 from rfl] at hx323_1); (try rw [show 0 * 3 = 0 from rfl] at hx323_1); (try rw [Addr.add_zero'] at hx323_1); (try rw [show ((0 : Int)).toNat = 0 from rfl] at hx323_2); (try rw [show 0 * 3 = 0 from rfl] at hx323_2); (try rw [Addr.add_zero'] at hx323_2); replace p323 := eq_true p323; replace q323 := eq_true q323) | ((with_reducible refine gate_dst (N := 6) rfl ?_); refine box_event ?hg (N := 6) ?hd (cs := #[.int .i64 0, .slice none 0 0]) (t := 24) ?hr ?_; (case hd => rfl); (case hg => rfl); (case hr => first | (go_simp; done) | (go_simp; rfl)); intro gb324 hg w13 hbox hb; have n0_ := Aside0.mk (Kd.R_below (by (with_reducible repeat (first | apply Kd.R_alloc | apply Kd.R_drewN | apply Kd.R_drew)); exact HO321.out) hb); have n1_ := Aside0.mk (nb BK317.out hb); have n2_ := Aside0.mk (below_step bw hb); have n3_ := Aside0.mk (hbox); have n4_ := Aside0.mk ((g1 hg bw : w.heap.size ≤ gb324)); have n5_ := Aside0.mk ((g1 hg bw : w.heap.size ≤ gb324)); have n6_ := Aside0.mk ((n1 hg BK317.out : gb317 ≠ gb324)); have n7_ := Aside0.mk ((n2 hg BK317.out : gb324 ≠ gb317)); clear HO321; clear BK317; clear HB; have HO321 := n0_; have BK317 := n1_; have HB := n2_; have BK324 := n3_; have GW324 := n4_; have GE324 := n5_; have NB317_324 := n6_; have NB324_317 := n7_; clear n0_ n1_ n2_ n3_ n4_ n5_ n6_ n7_; clear hb hbox hg; have hnb14 := NB324_317.out; have hnc14 := NB317_324.out; have hcz15_0 := bc2_0 BK324.out; have hcz15_1 := bc2_1 BK324.out; have hfz15_0 := blk_frozen BK324.out 0; have hfz15_1 := blk_frozen BK324.out 1))
    go_loopg [7] k (fun kq v7 w' => ∃ (x7_1 : Int) (x318000_1 : Int) (x325001_1 : List (S38)) (u325001 : Value), v7 = .int .i64 x7_1 ∧ Aside0 (carillonref12_Decode.l0 kq t318 x7_1 (wrap64 ((rd_T50 t318 0).f1)) x325001_1 = some (r1, r2, r3)) ∧ Aside0 (kq ≤ k) ∧ Aside0 (Kd.R k50 50 w' w.heap.size (fun _ => True) (.slice (some ad322) t318.length co12) t318) ∧ Aside0 (Kd.R k38 38 w' w.heap.size (fun _ => True) u325001 x325001_1) ∧ Aside0 (w'.heap[gb317]? = some (.cells #[.int .i64 x318000_1, (.slice none 0 0)] 24 (0, 0))) ∧ Aside0 (w'.heap[gb324]? = some (.cells #[.int .i64 (wrap64 ((rd_T50 t318 0).f1)), u325001] 24 (0, 0))) ∧ Aside0 (Below w.heap.size w w'))
    case atStart => exact ⟨(1), (0), (([] : List (S38))), (.slice none 0 0), (by first | rfl | (simp; done) | (simp [*]; done)), H', ⟨Nat.le_refl _⟩, ⟨by (with_reducible repeat (first | apply Kd.R_alloc | apply Kd.R_drewN | apply Kd.R_drew)); exact Kd.R_mono (Kd.R_far (p := ⟨gb324, 1, none⟩) (Kd.R_far (p := ⟨gb324, 0, none⟩) (Kd.R_types HO321.out BK324.out (by decide)) (fun _ hk => hk.2) (.int .i64 (wrap64 ((rd_T50 t318 0).f1)))) (fun _ hk => hk.2) (.slice none 0 0)) (fun _ hk => trivial)⟩, ⟨by first | exact Kd.R_nil _ _ _ _ _ | exact Kd.N_nil _ _ _ _ _ | exact Kd.V_nil _ _ _ _ _ | exact Kd.Q_nil _ _ _ _ _ | exact Kd.S_nil _ _ _ _ _⟩, ⟨by (with_reducible repeat (first | refine blk_drewN ?_ _ | refine blk_drew ?_ | refine blk_alloc ?_ _ | refine blk_far ?_ NB317_324.out _)); exact BK317.out⟩, ⟨by (with_reducible repeat (first | refine blk_drewN ?_ _ | refine blk_drew ?_ | refine blk_alloc ?_ _)); refine blk_put (cs := #[.int .i64 (wrap64 ((rd_T50 t318 0).f1)), .slice none 0 0]) ?_ 1 _ rfl; (with_reducible repeat (first | refine blk_drewN ?_ _ | refine blk_drew ?_ | refine blk_alloc ?_ _)); refine blk_put (cs := #[.int .i64 0, .slice none 0 0]) ?_ 0 _ rfl; (with_reducible repeat (first | refine blk_drewN ?_ _ | refine blk_drew ?_ | refine blk_alloc ?_ _)); exact BK324.out⟩, ⟨bw⟩⟩
    case round =>
     clear H'
     try clear c1
     try clear c2
     try clear p2
     try clear c3
     try clear c3b0
     try clear c3b1
     try clear p3
     try clear q3
     try clear hx3
     try clear qi3
     try clear c4
     try clear c4b0
     try clear c4b1
     try clear c5
     try clear c5b0
     try clear p6
     try clear c9
     try clear c14
     try clear hcz15_0
     try clear hcz15_1
     try clear hcz9_0
     try clear hcz9_1
     try clear hfz15_0
     try clear hfz15_1
     try clear hfz9_0
     try clear hfz9_1
     try clear hx322_0
     try clear hx322_1
     try clear hx322_2
     try clear hx323_0
     try clear hx323_1
     try clear hx323_2
     try clear p322
     try clear p323
     try clear q322
     try clear q323
     obtain ⟨x7_1, x318000_1, x325001_1, u325001, rfl, HA, HK1, HO_4, HO_325001, BK317, BK324, HB⟩ := hrel
     cases gk with
     | zero => exact absurd HA.out (by simp [carillonref12_Decode.l0])
     | succ k1 =>
      have H := HA.out
      clear HA
      simp only [carillonref12_Decode.l0] at H
      by_cases c16 : x7_1 < (t318.length : Int)
      ·rw [if_pos c16] at H
       have c16b0 : decide (x7_1 < (t318.length : Int)) = true := decide_eq_true c16
       clear c16
       obtain ⟨ji17, hji17⟩ : ∃ j_ : Int, (wrap64 (x7_1 + 1)) = j_ := ⟨_, rfl⟩
       replace H : (if 0 ≤ (ji17) then (if (ji17) < (t318.length : Int) then (if ((rd_T50 t318 (ji17)).f1) > 9007199254740991 then (some (0, ([] : List (S38)), 10)) else (if 0 ≤ x7_1 then (if x325001_1.length < 8796093022208 then (carillonref12_Decode.l0 k1 t318 (wrap64 (x7_1 + 2)) (wrap64 ((rd_T50 t318 0).f1)) (x325001_1 ++ [(⟨wrap64 ((rd_T50 t318 x7_1).f1), wrap64 ((rd_T50 t318 (ji17)).f1)⟩ : S38)])) else (none)) else (none))) else (none)) else (none)) = some (r1, r2, r3) := by first | (rw [hji17] at H; exact H) | (simp only [hji17] at H ⊢; exact H)
       have hji17w : (IntKind.i64.wrap (x7_1 + 1)) = ji17 := (i64_w _).trans hji17
       by_cases c18 : 0 ≤ (ji17)
       ·rw [if_pos c18] at H
        have c18b0 : decide (0 ≤ (ji17)) = true := decide_eq_true c18
        clear c18
        by_cases c19 : (ji17) < (t318.length : Int)
        ·rw [if_pos c19] at H
         have c19b0 : decide ((ji17) < (t318.length : Int)) = true := decide_eq_true c19
         clear c19
         by_cases c20 : ((rd_T50 t318 (ji17)).f1) > 9007199254740991
         ·rw [if_pos c20] at H
          have c20b0 : decide (9007199254740991 < ((rd_T50 t318 (ji17)).f1)) = true := decide_eq_true c20
          clear c20
          simp only [Option.some.injEq, Prod.mk.injEq] at H
          obtain ⟨rfl, rfl, rfl⟩ := H
          have p325 : 0 ≤ ((ji17) : Int) := of_decide_eq_true (by first | (with_reducible assumption) | assumption)
          have q325 : (ji17) < (t318.length : Int) := of_decide_eq_true (by first | (with_reducible assumption) | assumption)
          obtain ⟨ad325, e325, hx325_0, hx325_1, hx325_2⟩ := at_T50 (Kd.R_reads' HO_4.out).2.2 (ji17) p325 q325
          obtain rfl : ad322 = ad325 := (by injection e325)
          replace p325 := eq_true p325
          replace q325 := eq_true q325
          have hnb21 := NB317_324.out
          have hnc21 := NB324_317.out
          have hcz22_0 := bc2_0 BK317.out
          have hcz22_1 := bc2_1 BK317.out
          have hfz22_0 := blk_frozen BK317.out 0
          have hfz22_1 := blk_frozen BK317.out 1
          go_wp2
          refine bodyPost_ret (results_ct rfl _ _ gb317 24 #[.int .i64 0, .slice none 0 0] (0, 0) _ rfl (by (with_reducible repeat (first | refine blk_drewN ?_ _ | refine blk_drew ?_ | refine blk_alloc ?_ _)); refine blk_put (cs := #[.int .i64 0, .slice none 0 0]) ?_ 1 _ rfl; (with_reducible repeat (first | refine blk_drewN ?_ _ | refine blk_drew ?_ | refine blk_alloc ?_ _)); refine blk_put (cs := #[.int .i64 x318000_1, .slice none 0 0]) ?_ 0 _ rfl; (with_reducible repeat (first | refine blk_drewN ?_ _ | refine blk_drew ?_ | refine blk_alloc ?_ _)); exact BK317.out) Tryd.underlying24 rfl (by kernel_rfl)) rfl ?_
          exact ⟨_, by first | rfl | (simp [errW_none, errW_some] <;> rfl) | (simp only [← hji17]; first | rfl | (simp [errW_none, errW_some] <;> rfl)) | (simp [*, errW_none, errW_some] <;> first | rfl | (generalize ByteArray.toList _ = l_; cases l_ <;> rfl)), by first | exact Kd.R_nil _ _ _ _ _ | exact Kd.N_nil _ _ _ _ _ | exact Kd.V_nil _ _ _ _ _ | exact Kd.Q_nil _ _ _ _ _ | exact Kd.S_nil _ _ _ _ _, bw⟩
         ·rw [if_neg c20] at H
          have c20b0 : decide (9007199254740991 < ((rd_T50 t318 (ji17)).f1)) = false := decide_eq_false c20
          clear c20
          by_cases c23 : 0 ≤ x7_1
          ·rw [if_pos c23] at H
           have c23b0 : decide (0 ≤ x7_1) = true := decide_eq_true c23
           clear c23
           by_cases c24 : x325001_1.length < 8796093022208
           ·rw [if_pos c24] at H
            have LMc24 := Aside0.mk c24
            clear c24
            obtain ⟨y328, hy328⟩ : ∃ y_ : List (S38), y_ = (x325001_1 ++ [(⟨wrap64 ((rd_T50 t318 x7_1).f1), wrap64 ((rd_T50 t318 (ji17)).f1)⟩ : S38)]) := ⟨_, rfl⟩
            replace H : (carillonref12_Decode.l0 k1 t318 (wrap64 (x7_1 + 2)) (wrap64 ((rd_T50 t318 0).f1)) y328) = some (r1, r2, r3) := by first | (rw [hy328]; with_reducible exact H) | (have H2_ := (Option.bind_some _ _).symm.trans H; rw [hy328]; with_reducible exact H2_) | (have H2_ := (Option.bind_some _ _).symm.trans H; with_reducible exact H2_) | with_reducible exact H | (rw [hy328]; exact H) | exact H
            have Ny328 := Aside0.mk hy328
            clear hy328
            have H' := Aside0.mk H
            clear H
            have p325 : 0 ≤ ((ji17) : Int) := of_decide_eq_true (by first | (with_reducible assumption) | assumption)
            have q325 : (ji17) < (t318.length : Int) := of_decide_eq_true (by first | (with_reducible assumption) | assumption)
            obtain ⟨ad325, e325, hx325_0, hx325_1, hx325_2⟩ := at_T50 (Kd.R_reads' HO_4.out).2.2 (ji17) p325 q325
            obtain rfl : ad322 = ad325 := (by injection e325)
            replace p325 := eq_true p325
            replace q325 := eq_true q325
            try go_wp2
            have n0_ := Aside0.mk (Kd.R_drew HO_4.out)
            have n1_ := Aside0.mk (Kd.R_drew HO_325001.out)
            have n2_ := Aside0.mk (blk_drew BK317.out)
            have n3_ := Aside0.mk (blk_drew BK324.out)
            have n4_ := Aside0.mk (below_drew1 HB.out)
            clear HO_4
            clear HO_325001
            clear BK317
            clear BK324
            clear HB
            have HO_4 := n0_
            have HO_325001 := n1_
            have BK317 := n2_
            have BK324 := n3_
            have HB := n4_
            clear n0_ n1_ n2_ n3_ n4_
            have p326 : 0 ≤ (x7_1 : Int) := of_decide_eq_true (by first | (with_reducible assumption) | assumption)
            have q326 : x7_1 < (t318.length : Int) := of_decide_eq_true (by first | (with_reducible assumption) | assumption)
            obtain ⟨ad326, e326, hx326_0, hx326_1, hx326_2⟩ := at_T50 (Kd.R_reads' HO_4.out).2.2 x7_1 p326 q326
            obtain rfl : ad322 = ad326 := (by injection e326)
            replace p326 := eq_true p326
            replace q326 := eq_true q326
            have p327 : 0 ≤ ((ji17) : Int) := of_decide_eq_true (by first | (with_reducible assumption) | assumption)
            have q327 : (ji17) < (t318.length : Int) := of_decide_eq_true (by first | (with_reducible assumption) | assumption)
            obtain ⟨ad327, e327, hx327_0, hx327_1, hx327_2⟩ := at_T50 (Kd.R_reads' HO_4.out).2.2 (ji17) p327 q327
            obtain rfl : ad322 = ad327 := (by injection e327)
            replace p327 := eq_true p327
            replace q327 := eq_true q327
            refine start_ (n := 20) (S := fun w' => w'.cell? ⟨gb324, 0, none⟩ = some (.int .i64 (wrap64 ((rd_T50 t318 0).f1))) ∧ w'.cell? ⟨gb324, 1, none⟩ = some (u325001) ∧ w'.cell? (ad322.add ((x7_1).toNat * 3)) = some (.int .i64 ((rd_T50 t318 x7_1).f0)) ∧ w'.cell? ⟨(ad322.add ((x7_1).toNat * 3)).block, (ad322.add ((x7_1).toNat * 3)).off + 1, none⟩ = some (.int .u64 ((rd_T50 t318 x7_1).f1)) ∧ w'.cell? ⟨(ad322.add ((x7_1).toNat * 3)).block, (ad322.add ((x7_1).toNat * 3)).off + 2, none⟩ = some (.string ((rd_T50 t318 x7_1).f2)) ∧ w'.cell? (ad322.add (((ji17)).toNat * 3)) = some (.int .i64 ((rd_T50 t318 (ji17)).f0)) ∧ w'.cell? ⟨(ad322.add (((ji17)).toNat * 3)).block, (ad322.add (((ji17)).toNat * 3)).off + 1, none⟩ = some (.int .u64 ((rd_T50 t318 (ji17)).f1)) ∧ w'.cell? ⟨(ad322.add (((ji17)).toNat * 3)).block, (ad322.add (((ji17)).toNat * 3)).off + 2, none⟩ = some (.string ((rd_T50 t318 (ji17)).f2))) (ds := [17, 19]) #[false, false, false, false, false, false, false, false, false, false, false, false, false, false, false, false, false, false, false, false] (by kernel_rfl) rfl rfl ⟨(blk_cell BK324.out 0).trans rfl, (blk_cell BK324.out 1).trans rfl, hx326_0, hx326_1, hx326_2, hx327_0, hx327_1, hx327_2⟩ (fun hHeld => ?_); refine with_tabW carillonref12_Decode.tab12 carillonref12_Decode.bits12 (fun HT_ HW_ => ?_)
            generalize wr.drew = w25 at HO_4 HO_325001 BK317 BK324 HB hx326_0 hx326_1 hx326_2 hx327_0 hx327_1 hx327_2 hHeld ⊢
            refine pure_ (i := 0) (N := some 44) (v := ?_) (a' := ?_) #[true, false, false, false, false, false, false, false, false, false, false, false, false, false, false, false, false, false, false, false] rfl rfl (any_of HT_.out (by kernel_rfl)) (fun _ _ _ h => h) (Or.inl ⟨by rfl, ?_⟩) ?_ ?_
            rotate_left
            ·intro w'
             go_simp
             with_reducible rfl
            rotate_left
            ·simp only [Act.put, sl1, sl2, sl3, i64_w, i32_w]
             rfl
            refine pure_ (i := 2) (N := some 46) (v := ?_) (a' := ?_) #[true, false, true, false, false, false, false, false, false, false, false, false, false, false, false, false, false, false, false, false] rfl rfl (any_of HT_.out (by kernel_rfl)) (fun _ _ _ h => h) (Or.inl ⟨by rfl, ?_⟩) ?_ ?_
            rotate_left
            ·intro w'
             go_simp
             with_reducible rfl
            rotate_left
            ·simp only [Act.put, sl1, sl2, sl3, i64_w, i32_w]
             rfl
            refine pure_ (i := 3) (N := some 47) (v := ?_) (a' := ?_) #[true, false, true, true, false, false, false, false, false, false, false, false, false, false, false, false, false, false, false, false] rfl rfl (any_of HT_.out (by kernel_rfl)) (fun _ _ _ h => h) (Or.inl ⟨by rfl, ?_⟩) ?_ ?_
            rotate_left
            ·intro w'
             go_simp
             with_reducible rfl
            rotate_left
            ·simp only [Act.put, sl1, sl2, sl3, i64_w, i32_w]
             rfl
            refine pure_ (i := 4) (N := some 48) (v := ?_) (a' := ?_) #[true, false, true, true, true, false, false, false, false, false, false, false, false, false, false, false, false, false, false, false] rfl rfl (any_of HT_.out (by kernel_rfl)) (fun _ _ _ h => h) (Or.inl ⟨by rfl, ?_⟩) ?_ ?_
            rotate_left
            ·intro w'
             go_simp
             with_reducible rfl
            rotate_left
            ·simp only [Act.put, sl1, sl2, sl3, i64_w, i32_w]
             rfl
            refine pure_ (i := 5) (N := some 49) (v := ?_) (a' := ?_) #[true, false, true, true, true, true, false, false, false, false, false, false, false, false, false, false, false, false, false, false] rfl rfl (any_of HT_.out (by kernel_rfl)) (fun _ _ _ h => h) (Or.inl ⟨by rfl, ?_⟩) ?_ ?_
            rotate_left
            ·intro w'
             go_simp
             with_reducible rfl
            rotate_left
            ·simp only [Act.put, sl1, sl2, sl3, i64_w, i32_w]
             rfl
            refine pure_ (i := 8) (N := some 52) (v := ?_) (a' := ?_) #[true, false, true, true, true, true, false, false, true, false, false, false, false, false, false, false, false, false, false, false] rfl rfl (any_of HT_.out (by kernel_rfl)) (fun _ _ _ h => h) (Or.inl ⟨by rfl, ?_⟩) ?_ ?_
            rotate_left
            ·intro w'
             go_simp
             with_reducible rfl
            rotate_left
            ·simp only [Act.put, sl1, sl2, sl3, i64_w, i32_w]
             rfl
            refine pure_ (i := 9) (N := some 53) (v := ?_) (a' := ?_) #[true, false, true, true, true, true, false, false, true, true, false, false, false, false, false, false, false, false, false, false] rfl rfl (any_of HT_.out (by kernel_rfl)) (fun _ _ _ h => h) (Or.inl ⟨by rfl, ?_⟩) ?_ ?_
            rotate_left
            ·intro w'
             go_simp
             with_reducible rfl
            rotate_left
            ·simp only [Act.put, sl1, sl2, sl3, i64_w, i32_w]
             rfl
            refine pure_ (i := 10) (N := some 54) (v := ?_) (a' := ?_) #[true, false, true, true, true, true, false, false, true, true, true, false, false, false, false, false, false, false, false, false] rfl rfl (any_of HT_.out (by kernel_rfl)) (fun _ _ _ h => h) (Or.inl ⟨by rfl, ?_⟩) ?_ ?_
            rotate_left
            ·intro w'
             go_simp
             with_reducible rfl
            rotate_left
            ·simp only [Act.put, sl1, sl2, sl3, i64_w, i32_w]
             rfl
            refine pure_ (i := 11) (N := some 55) (v := ?_) (a' := ?_) #[true, false, true, true, true, true, false, false, true, true, true, true, false, false, false, false, false, false, false, false] rfl rfl (any_of HT_.out (by kernel_rfl)) (fun _ _ _ h => h) (Or.inl ⟨by rfl, ?_⟩) ?_ ?_
            rotate_left
            ·intro w'
             go_simp
             with_reducible rfl
            rotate_left
            ·simp only [Act.put, sl1, sl2, sl3, i64_w, i32_w]
             rfl
            refine pure_ (i := 12) (N := some 56) (v := ?_) (a' := ?_) #[true, false, true, true, true, true, false, false, true, true, true, true, true, false, false, false, false, false, false, false] rfl rfl (any_of HT_.out (by kernel_rfl)) (fun _ _ _ h => h) (Or.inl ⟨by rfl, ?_⟩) ?_ ?_
            rotate_left
            ·intro w'
             go_simp
             with_reducible rfl
            rotate_left
            ·simp only [Act.put, sl1, sl2, sl3, i64_w, i32_w]
             rfl
            refine take_ (i := 1) (N := some 45) (v := ?_) (a' := ?_) #[true, true, true, true, true, true, false, false, true, true, true, true, true, false, false, false, false, false, false, false] rfl rfl (take_ofW HT_.out HW_.out (by kernel_rfl)) (fun _ _ _ h => h) (Or.inl ⟨by rfl, ?_⟩) hHeld ?_ ?_
            rotate_left
            ·rintro w' ⟨s0, s1, s2, s3, s4, s5, s6, s7⟩
             go_simp
             with_reducible rfl
            rotate_left
            ·simp only [Act.put, sl1, sl2, sl3, i64_w, i32_w]
             rfl
            refine take_ (i := 6) (N := some 50) (v := ?_) (a' := ?_) #[true, true, true, true, true, true, true, false, true, true, true, true, true, false, false, false, false, false, false, false] rfl rfl (take_ofW HT_.out HW_.out (by kernel_rfl)) (fun _ _ _ h => h) (Or.inl ⟨by rfl, ?_⟩) hHeld ?_ ?_
            rotate_left
            ·rintro w' ⟨s0, s1, s2, s3, s4, s5, s6, s7⟩
             go_simp
             with_reducible rfl
            rotate_left
            ·simp only [Act.put, sl1, sl2, sl3, i64_w, i32_w]
             rfl
            refine pure_ (i := 7) (N := some 51) (v := ?_) (a' := ?_) #[true, true, true, true, true, true, true, true, true, true, true, true, true, false, false, false, false, false, false, false] rfl rfl (any_of HT_.out (by kernel_rfl)) (fun _ _ _ h => h) (Or.inl ⟨by rfl, ?_⟩) ?_ ?_
            rotate_left
            ·intro w'
             go_simp
             with_reducible rfl
            rotate_left
            ·simp only [Act.put, sl1, sl2, sl3, i64_w, i32_w]
             rfl
            refine take_ (i := 13) (N := some 57) (v := ?_) (a' := ?_) #[true, true, true, true, true, true, true, true, true, true, true, true, true, true, false, false, false, false, false, false] rfl rfl (take_ofW HT_.out HW_.out (by kernel_rfl)) (fun _ _ _ h => h) (Or.inl ⟨by rfl, ?_⟩) hHeld ?_ ?_
            rotate_left
            ·rintro w' ⟨s0, s1, s2, s3, s4, s5, s6, s7⟩
             go_simp
             with_reducible rfl
            rotate_left
            ·simp only [Act.put, sl1, sl2, sl3, i64_w, i32_w]
             rfl
            refine pure_ (i := 14) (N := some 58) (v := ?_) (a' := ?_) #[true, true, true, true, true, true, true, true, true, true, true, true, true, true, true, false, false, false, false, false] rfl rfl (any_of HT_.out (by kernel_rfl)) (fun _ _ _ h => h) (Or.inl ⟨by rfl, ?_⟩) ?_ ?_
            rotate_left
            ·intro w'
             go_simp
             with_reducible rfl
            rotate_left
            ·simp only [Act.put, sl1, sl2, sl3, i64_w, i32_w]
             rfl
            refine pure_ (i := 15) (N := some 59) (v := ?_) (a' := ?_) #[true, true, true, true, true, true, true, true, true, true, true, true, true, true, true, true, false, false, false, false] rfl rfl (any_of HT_.out (by kernel_rfl)) (fun _ _ _ h => h) (Or.inl ⟨by rfl, ?_⟩) ?_ ?_
            rotate_left
            ·intro w'
             go_simp
             with_reducible rfl
            rotate_left
            ·simp only [Act.put, sl1, sl2, sl3, i64_w, i32_w]
             rfl
            refine one_ (i := 16) (N := some 60) #[true, true, true, true, true, true, true, true, true, true, true, true, true, true, true, true, true, false, false, false] rfl rfl (one_of HT_.out (by kernel_rfl)) (by decide) (fun K hK => ?_)
            refine value_ (w1 := ?_) (v := ?_) (by rfl) rfl ?_ ?_
            rotate_left 2
            ·go_simp
             constructor
             ·rfl
             ·rfl
            refine hK.out _ _ ⟨(blk_cell (blk_alloc BK324.out _) 0).trans rfl, (blk_cell (blk_alloc BK324.out _) 1).trans rfl, (World.cell?_alloc_lt _ _ _ (World.block_lt_of_cell? _ _ (hHeld.2.2.1))).trans (hHeld.2.2.1), (World.cell?_alloc_lt _ _ _ (World.block_lt_of_cell? _ _ (hHeld.2.2.2.1))).trans (hHeld.2.2.2.1), (World.cell?_alloc_lt _ _ _ (World.block_lt_of_cell? _ _ (hHeld.2.2.2.2.1))).trans (hHeld.2.2.2.2.1), (World.cell?_alloc_lt _ _ _ (World.block_lt_of_cell? _ _ (hHeld.2.2.2.2.2.1))).trans (hHeld.2.2.2.2.2.1), (World.cell?_alloc_lt _ _ _ (World.block_lt_of_cell? _ _ (hHeld.2.2.2.2.2.2.1))).trans (hHeld.2.2.2.2.2.2.1), (World.cell?_alloc_lt _ _ _ (World.block_lt_of_cell? _ _ (hHeld.2.2.2.2.2.2.2))).trans (hHeld.2.2.2.2.2.2.2)⟩ (fun hHeld => ?_)
            clear hK K
            refine norm_ (a' := ?_) ?_ ?_
            rotate_left
            ·show Act.put _ (some 60) _ = _
             simp only [Act.put, sl1, sl2, sl3, i64_w, i32_w]
             rfl
            refine last_ (i := 17) (N := some 61) #[true, true, true, true, true, true, true, true, true, true, true, true, true, true, true, true, true, true, false, false] rfl rfl (one_of HT_.out (by kernel_rfl)) (by decide) (fun K hK => ?_)
            refine Kd.R_append_step k38 (w0 := w) w.heap.size (by rfl) (.tmp 45) (.tmp 60) 22 38 (.agg #[(.int .i64 0), (.int .i64 0)]) 16 rfl Tryd.underlying22 info38 rfl (by decide) (by omega) u325001 x325001_1 (⟨wrap64 ((rd_T50 t318 x7_1).f1), wrap64 ((rd_T50 t318 (ji17)).f1)⟩ : S38) [.int .i64 (wrap64 ((rd_T50 t318 x7_1).f1)), .int .i64 (wrap64 ((rd_T50 t318 (ji17)).f1))] (fun _ => True) (fun _ => False) rfl rfl ?aP (fun _ hk => hk.elim) ?aF ?aO ?aB ?aS ?aL ?_
            (case aP => exact k38_mkM _ _ _ (⟨wrap64 ((rd_T50 t318 x7_1).f1), wrap64 ((rd_T50 t318 (ji17)).f1)⟩ : S38))
            (case aB => exact bw)
            (case aF => exact (fun _ _ => trivial))
            (case aO => exact (by (with_reducible repeat (first | apply Kd.R_alloc | apply Kd.R_drewN | apply Kd.R_drew)); exact HO_325001.out))
            (case aS => exact (below_size bw))
            (case aL => have := LMc24.out; omega)
            intro v329 w26 ho hb hg hat
            rw [← Ny328.out] at ho
            have n0_ := Aside0.mk (Kd.R_over' (by (with_reducible repeat (first | apply Kd.R_alloc | apply Kd.R_drewN | apply Kd.R_drew)); exact HO_4.out) (Kd.R_typed (by (with_reducible repeat (first | apply Kd.R_alloc | apply Kd.R_drewN | apply Kd.R_drew)); exact HO_325001.out)) (by decide) hg)
            have n1_ := Aside0.mk (blk_grown (g := gb317) (o := .cells #[.int .i64 x318000_1, .slice none 0 0] 24 (0, 0)) (bk BK317.out) hg (Kd.R_ne HO_325001.out BK317.out (by decide)))
            have n2_ := Aside0.mk (blk_grown (g := gb324) (o := .cells #[.int .i64 (wrap64 ((rd_T50 t318 0).f1)), u325001] 24 (0, 0)) (bk BK324.out) hg (Kd.R_ne HO_325001.out BK324.out (by decide)))
            have n3_ := Aside0.mk (hb)
            have n4_ := Aside0.mk (ho)
            clear HO_4
            clear BK317
            clear BK324
            clear HB
            clear HO_325001
            have HO_4 := n0_
            have BK317 := n1_
            have BK324 := n2_
            have HB := n3_
            have HO330 := n4_
            clear n0_ n1_ n2_ n3_ n4_
            clear ho hb hg hat
            obtain ⟨Ao27, co27, eo27⟩ := Kd.R_slice HO330.out
            (first | subst eo27 | (injection eo27 with f1_ f2_ f3_; have f4_ := f1_.symm; have f5_ := f3_.symm; clear f1_ f2_ f3_; subst f4_; subst f5_))
            refine hK.out _ _ ?_
            clear hK K
            refine norm_ (a' := ?_) ?_ ?_
            rotate_left
            ·show Act.put _ (some 61) _ = _
             simp only [Act.put, sl1, sl2, sl3, i64_w, i32_w]
             rfl
            refine pure_ (i := 18) (N := some 62) (v := ?_) (a' := ?_) #[true, true, true, true, true, true, true, true, true, true, true, true, true, true, true, true, true, true, true, false] rfl rfl (any_of HT_.out (by kernel_rfl)) (fun _ _ _ h => h) (Or.inl ⟨by rfl, ?_⟩) ?_ ?_
            rotate_left
            ·intro w'
             go_simp
             with_reducible rfl
            rotate_left
            ·simp only [Act.put, sl1, sl2, sl3, i64_w, i32_w]
             rfl
            refine last_ (i := 19) (N := none) #[true, true, true, true, true, true, true, true, true, true, true, true, true, true, true, true, true, true, true, true] rfl rfl (one_of HT_.out (by kernel_rfl)) (by decide) (fun K hK => ?_)
            have hs28 : w26.cell? ⟨gb324, 1, none⟩ = some (u325001) := (blk_cell BK324.out 1).trans rfl
            have hfs28 := blk_frozen BK324.out 1
            have hns28_0 := NB317_324.out
            have hms28_0 := NB324_317.out
            refine skip_ (w1 := ?_) (by rfl) rfl ?_ ?_
            rotate_left
            ·go_simp
             rfl
            refine hK.out _ _ ?_
            clear hK K
            refine done_ (done_of HT_.out (by kernel_rfl)) ?_
            try go_wp2
            go_roundg k1
            case measure => have := HK1.out; omega
            case rel => (try rw [hji17]); exact ⟨(wrap64 (x7_1 + 2)), (x318000_1), (y328), (.slice Ao27 y328.length co27), (by first | rfl | (simp; done) | (simp [*]; done)), H', ⟨by have := HK1.out; omega⟩, ⟨by (with_reducible repeat (first | apply Kd.R_alloc | apply Kd.R_drewN | apply Kd.R_drew)); exact Kd.R_mono (Kd.R_far (p := ⟨gb324, 1, none⟩) (Kd.R_types HO_4.out BK324.out (by decide)) (fun _ hk => hk.2) (.slice Ao27 y328.length co27)) (fun _ hk => trivial)⟩, ⟨by (with_reducible repeat (first | apply Kd.R_alloc | apply Kd.R_drewN | apply Kd.R_drew)); exact Kd.R_mono (Kd.R_far (p := ⟨gb324, 1, none⟩) (Kd.R_types HO330.out BK324.out (by decide)) (fun _ hk => hk.2) (.slice Ao27 y328.length co27)) (fun _ hk => trivial)⟩, ⟨by (with_reducible repeat (first | refine blk_drewN ?_ _ | refine blk_drew ?_ | refine blk_alloc ?_ _)); refine blk_far ?_ NB317_324.out _; (with_reducible repeat (first | refine blk_drewN ?_ _ | refine blk_drew ?_ | refine blk_alloc ?_ _)); exact BK317.out⟩, ⟨by (with_reducible repeat (first | refine blk_drewN ?_ _ | refine blk_drew ?_ | refine blk_alloc ?_ _)); refine blk_put (cs := #[.int .i64 (wrap64 ((rd_T50 t318 0).f1)), u325001]) ?_ 1 _ rfl; (with_reducible repeat (first | refine blk_drewN ?_ _ | refine blk_drew ?_ | refine blk_alloc ?_ _)); exact BK324.out⟩, ⟨bw⟩⟩
           ·rw [if_neg c24] at H
            exact absurd H (by simp)
          ·rw [if_neg c23] at H
           exact absurd H (by simp)
        ·rw [if_neg c19] at H
         exact absurd H (by simp)
       ·rw [if_neg c18] at H
        exact absurd H (by simp)
      ·rw [if_neg c16] at H
       have c16b0 : decide (x7_1 < (t318.length : Int)) = false := decide_eq_false c16
       clear c16
       replace H := Option.bind_eq_some_iff.mp H
       obtain ⟨t331, A290, H⟩ := H
       replace H : (if t331 = true then (some ((wrap64 ((rd_T50 t318 0).f1)), x325001_1, 0)) else (some (0, ([] : List (S38)), 10))) = some (r1, r2, r3) := H
       have A29 := Aside0.mk A290
       clear A290
       by_cases c30 : t331 = true
       ·subst c30
        have H1 : (some ((wrap64 ((rd_T50 t318 0).f1)), x325001_1, 0)) = some (r1, r2, r3) := by rw [if_pos rfl] at H; exact H
        clear H
        have H := H1
        clear H1
        simp only [Option.some.injEq, Prod.mk.injEq] at H
        obtain ⟨rfl, rfl, rfl⟩ := H
        have hnb31 := NB324_317.out
        have hnc31 := NB317_324.out
        have hcz32_0 := bc2_0 BK324.out
        have hcz32_1 := bc2_1 BK324.out
        have hfz32_0 := blk_frozen BK324.out 0
        have hfz32_1 := blk_frozen BK324.out 1
        obtain ⟨Ao33, co33, eo33⟩ := Kd.R_slice HO_325001.out
        subst eo33
        go_wp2_with (first | ((with_reducible refine gate_callee (f := 19) rfl ?_); refine goesL_ (some 64) rfl rfl Tryd.func19 (by kernel_rfl) rfl #[.agg #[.int .i64 (wrap64 ((rd_T50 t318 0).f1)), .slice Ao33 x325001_1.length co33]] rfl am ?_; (with_reducible refine (carillonref12_Right.calls k1 (wrap64 ((rd_T50 t318 0).f1)) _ _ x325001_1 true _ ?side1 ?side2 A29.out).mono ?_); (case side1 => repeat (first | exact (Kd.R_reads' HO_325001.out).2.2 | (with_reducible refine Kd.C_alloc ?_ _) | (with_reducible refine Kd.C_drewN ?_ _) | (with_reducible refine Kd.C_drew ?_))); (case side2 => exact (Kd.R_reads' HO_325001.out).2.1); rintro e w34 ⟨rfl, hb⟩; refine ⟨_, rfl, ?_⟩; have n0_ := Aside0.mk (Kd.R_below (by (with_reducible repeat (first | apply Kd.R_alloc | apply Kd.R_drewN | apply Kd.R_drew)); exact HO_4.out) hb); have n1_ := Aside0.mk (Kd.R_below (by (with_reducible repeat (first | apply Kd.R_alloc | apply Kd.R_drewN | apply Kd.R_drew)); exact HO_325001.out) hb); have n2_ := Aside0.mk (nb BK317.out hb); have n3_ := Aside0.mk (nb BK324.out hb); have n4_ := Aside0.mk (below_step bw hb); clear HO_4; clear HO_325001; clear BK317; clear BK324; clear HB; have HO_4 := n0_; have HO_325001 := n1_; have BK317 := n2_; have BK324 := n3_; have HB := n4_; clear n0_ n1_ n2_ n3_ n4_; (try clear hb); (try clear hb2); (try clear hk); (try clear hi); have hcz35_0 := bc2_0 BK324.out; have hcz35_1 := bc2_1 BK324.out; have hfz35_0 := blk_frozen BK324.out 0; have hfz35_1 := blk_frozen BK324.out 1; have hcz36_0 := bc2_0 BK317.out; have hcz36_1 := bc2_1 BK317.out; have hfz36_0 := blk_frozen BK317.out 0; have hfz36_1 := blk_frozen BK317.out 1))
        refine bodyPost_ret (results_ct rfl _ _ gb317 24 #[.int .i64 (wrap64 ((rd_T50 t318 0).f1)), .slice Ao33 x325001_1.length co33] (0, 0) _ rfl (by (with_reducible repeat (first | refine blk_drewN ?_ _ | refine blk_drew ?_ | refine blk_alloc ?_ _)); refine blk_put (cs := #[.int .i64 (wrap64 ((rd_T50 t318 0).f1)), .slice none 0 0]) ?_ 1 _ rfl; (with_reducible repeat (first | refine blk_drewN ?_ _ | refine blk_drew ?_ | refine blk_alloc ?_ _)); refine blk_put (cs := #[.int .i64 x318000_1, .slice none 0 0]) ?_ 0 _ rfl; (with_reducible repeat (first | refine blk_drewN ?_ _ | refine blk_drew ?_ | refine blk_alloc ?_ _)); exact BK317.out) Tryd.underlying24 rfl (by kernel_rfl)) rfl ?_
        exact ⟨_, er, by (with_reducible repeat (first | apply Kd.R_alloc | apply Kd.R_drewN | apply Kd.R_drew)); exact Kd.R_mono (Kd.R_far (p := ⟨gb317, 1, none⟩) (Kd.R_far (p := ⟨gb317, 0, none⟩) (Kd.R_types HO_325001.out BK317.out (by decide)) (fun _ hk => hk.2) (.int .i64 (wrap64 ((rd_T50 t318 0).f1)))) (fun _ hk => hk.2) (.slice Ao33 x325001_1.length co33)) (fun _ hk => trivial), bw⟩
       ·replace c30 := Bool.eq_false_iff.mpr c30
        subst c30
        have H1 : (some (0, ([] : List (S38)), 10)) = some (r1, r2, r3) := by rw [if_neg (show ¬ (false = true) by decide)] at H; exact H
        clear H
        have H := H1
        clear H1
        simp only [Option.some.injEq, Prod.mk.injEq] at H
        obtain ⟨rfl, rfl, rfl⟩ := H
        have hnb37 := NB324_317.out
        have hnc37 := NB317_324.out
        have hcz38_0 := bc2_0 BK324.out
        have hcz38_1 := bc2_1 BK324.out
        have hfz38_0 := blk_frozen BK324.out 0
        have hfz38_1 := blk_frozen BK324.out 1
        obtain ⟨Ao39, co39, eo39⟩ := Kd.R_slice HO_325001.out
        subst eo39
        go_wp2_with (first | ((with_reducible refine gate_callee (f := 19) rfl ?_); refine goesL_ (some 64) rfl rfl Tryd.func19 (by kernel_rfl) rfl #[.agg #[.int .i64 (wrap64 ((rd_T50 t318 0).f1)), .slice Ao39 x325001_1.length co39]] rfl am ?_; (with_reducible refine (carillonref12_Right.calls k1 (wrap64 ((rd_T50 t318 0).f1)) _ _ x325001_1 false _ ?side1 ?side2 A29.out).mono ?_); (case side1 => repeat (first | exact (Kd.R_reads' HO_325001.out).2.2 | (with_reducible refine Kd.C_alloc ?_ _) | (with_reducible refine Kd.C_drewN ?_ _) | (with_reducible refine Kd.C_drew ?_))); (case side2 => exact (Kd.R_reads' HO_325001.out).2.1); rintro e w40 ⟨rfl, hb⟩; refine ⟨_, rfl, ?_⟩; have n0_ := Aside0.mk (Kd.R_below (by (with_reducible repeat (first | apply Kd.R_alloc | apply Kd.R_drewN | apply Kd.R_drew)); exact HO_4.out) hb); have n1_ := Aside0.mk (Kd.R_below (by (with_reducible repeat (first | apply Kd.R_alloc | apply Kd.R_drewN | apply Kd.R_drew)); exact HO_325001.out) hb); have n2_ := Aside0.mk (nb BK317.out hb); have n3_ := Aside0.mk (nb BK324.out hb); have n4_ := Aside0.mk (below_step bw hb); clear HO_4; clear HO_325001; clear BK317; clear BK324; clear HB; have HO_4 := n0_; have HO_325001 := n1_; have BK317 := n2_; have BK324 := n3_; have HB := n4_; clear n0_ n1_ n2_ n3_ n4_; (try clear hb); (try clear hb2); (try clear hk); (try clear hi); have hcz41_0 := bc2_0 BK317.out; have hcz41_1 := bc2_1 BK317.out; have hfz41_0 := blk_frozen BK317.out 0; have hfz41_1 := blk_frozen BK317.out 1))
        refine bodyPost_ret (results_ct rfl _ _ gb317 24 #[.int .i64 0, .slice none 0 0] (0, 0) _ rfl (by (with_reducible repeat (first | refine blk_drewN ?_ _ | refine blk_drew ?_ | refine blk_alloc ?_ _)); refine blk_put (cs := #[.int .i64 0, .slice none 0 0]) ?_ 1 _ rfl; (with_reducible repeat (first | refine blk_drewN ?_ _ | refine blk_drew ?_ | refine blk_alloc ?_ _)); refine blk_put (cs := #[.int .i64 x318000_1, .slice none 0 0]) ?_ 0 _ rfl; (with_reducible repeat (first | refine blk_drewN ?_ _ | refine blk_drew ?_ | refine blk_alloc ?_ _)); exact BK317.out) Tryd.underlying24 rfl (by kernel_rfl)) rfl ?_
        exact ⟨_, er, by first | exact Kd.R_nil _ _ _ _ _ | exact Kd.N_nil _ _ _ _ _ | exact Kd.V_nil _ _ _ _ _ | exact Kd.Q_nil _ _ _ _ _ | exact Kd.S_nil _ _ _ _ _, bw⟩
  ·rw [if_neg c4] at H
   exact absurd H (by simp)
 ·rw [if_neg c3] at H
  have c3b0 : (t319 == 0) = false := beq_eq_false_iff_ne.mpr c3
  have c3b1 : (t319 != 0) = true := bne_iff_ne.mpr c3
  simp only [Option.some.injEq, Prod.mk.injEq] at H
  obtain ⟨rfl, rfl, rfl⟩ := H
  go_enter Tryd.func9, Tryd.ntmps9
  go_wp2_with (first | ((with_reducible refine gate_dst (N := 2) rfl ?_); refine box_event ?hg (N := 2) ?hd (cs := #[.int .i64 0, .slice none 0 0]) (t := 24) ?hr ?_; (case hd => rfl); (case hg => rfl); (case hr => first | (go_simp; done) | (go_simp; rfl)); intro gb317 hg w42 hbox hb; have n0_ := Aside0.mk (below_step bw hb); have n1_ := Aside0.mk (hbox); have n2_ := Aside0.mk ((g1 hg bw : w.heap.size ≤ gb317)); have n3_ := Aside0.mk ((g1 hg bw : w.heap.size ≤ gb317)); clear HB; have HB := n0_; have BK317 := n1_; have GW317 := n2_; have GE317 := n3_; clear n0_ n1_ n2_ n3_; clear hb hbox hg) | ((with_reducible refine gate_callee (f := 24) rfl ?_); refine goesL_ (some 11) rfl rfl Tryd.func24 (by kernel_rfl) rfl #[.string (⟨#[108, 42, 98, 108]⟩ : ByteArray), .string a0] rfl am ?_; (with_reducible refine (carillonref01_Decode.calls k (⟨#[108, 42, 98, 108]⟩ : ByteArray) a0 t318 t319 _ A2.out).mono ?_); rintro e w43 ⟨v320, rfl, ho0, hb⟩; refine ⟨_, rfl, ?_⟩; have n0_ := Aside0.mk (Kd.R_lower ho0 (below_size bw)); have n1_ := Aside0.mk (nb BK317.out hb); have n2_ := Aside0.mk (below_step bw hb); clear BK317; clear HB; have HO321 := n0_; have BK317 := n1_; have HB := n2_; clear n0_ n1_ n2_; (try clear hb); (try clear hb2); (try clear hk); (try clear hi); (try clear ho0); have hcz44_0 := bc2_0 BK317.out; have hcz44_1 := bc2_1 BK317.out; have hfz44_0 := blk_frozen BK317.out 0; have hfz44_1 := blk_frozen BK317.out 1))
  refine bodyPost_ret (results_ct rfl _ _ gb317 24 #[.int .i64 0, .slice none 0 0] (0, 0) _ rfl (by (with_reducible repeat (first | refine blk_drewN ?_ _ | refine blk_drew ?_ | refine blk_alloc ?_ _)); refine blk_put (cs := #[.int .i64 0, .slice none 0 0]) ?_ 1 _ rfl; (with_reducible repeat (first | refine blk_drewN ?_ _ | refine blk_drew ?_ | refine blk_alloc ?_ _)); refine blk_put (cs := #[.int .i64 0, .slice none 0 0]) ?_ 0 _ rfl; (with_reducible repeat (first | refine blk_drewN ?_ _ | refine blk_drew ?_ | refine blk_alloc ?_ _)); exact BK317.out) Tryd.underlying24 rfl (by kernel_rfl)) rfl ?_
  exact ⟨_, er, by first | exact Kd.R_nil _ _ _ _ _ | exact Kd.N_nil _ _ _ _ _ | exact Kd.V_nil _ _ _ _ _ | exact Kd.Q_nil _ _ _ _ _ | exact Kd.S_nil _ _ _ _ _, bw⟩

/-! ### carillonlaw12_views: function 10 -/
def carillonlaw12_views.l0 : Nat → Int → Int → List (S38) → Int → List (S38) → Option (Bool)
 | 0, _, _, _, _, _ => none
 | k + 1, x5, x333000, x333001, x334000, x334001 => if x5 < (x333001.length : Int) then (if 0 ≤ x5 then (if x5 < (x334001.length : Int) then (if (!(((rd_T38 x333001 x5).f0) == ((rd_T38 x334001 x5).f0)) || (!(((rd_T38 x333001 x5).f1) == ((rd_T38 x334001 x5).f1)))) = true then (some false) else (carillonlaw12_views.l0 k (wrap64 (x5 + 1)) x333000 x333001 x334000 x334001)) else (none)) else (none)) else (some true)
def carillonlaw12_views.f (k : Nat) (a0_0 : Int) (l0_1 : List (S38)) (a1_0 : Int) (l1_1 : List (S38)) : Option (Bool) := if a0_0 = a1_0 then (if (l0_1.length : Int) = (l1_1.length : Int) then (carillonlaw12_views.l0 k 0 a0_0 l0_1 a1_0 l1_1) else (some false)) else (some false)
theorem carillonlaw12_views.mono_l : ∀ k, (∀ y0 y1 y2 y3 y4, LeO (carillonlaw12_views.l0 k y0 y1 y2 y3 y4) (carillonlaw12_views.l0 (k + 1) y0 y1 y2 y3 y4))
 | 0 => fun _ _ _ _ _ r h => by simp [carillonlaw12_views.l0] at h
 | k + 1 => by
  have ih0 := carillonlaw12_views.mono_l k
  ·intro y0 y1 y2 y3 y4
   unfold carillonlaw12_views.l0
   repeat' first
   | (with_reducible exact ih0 _ _ _ _ _)
   | (with_reducible exact LeO.refl _)
   | (with_reducible exact LeO.none _)
   | (with_reducible refine LeO.ite ?_ ?_)
   | (with_reducible refine LeO.bind ?_ (fun _ => ?_))
   | exact ih0 _ _ _ _ _
   | exact LeO.none _
   | refine LeO.ite ?_ ?_
   | refine LeO.bind ?_ (fun _ => ?_)
theorem carillonlaw12_views.mono : ∀ a0 a1 a2 a3 k, LeO (carillonlaw12_views.f k a0 a1 a2 a3) (carillonlaw12_views.f (k + 1) a0 a1 a2 a3) := by
 intro a0 a1 a2 a3 k
 have ih0 := carillonlaw12_views.mono_l k
 unfold carillonlaw12_views.f
 repeat' first
   | (with_reducible exact ih0 _ _ _ _ _)
   | (with_reducible exact LeO.refl _)
   | (with_reducible exact LeO.none _)
   | (with_reducible refine LeO.ite ?_ ?_)
   | (with_reducible refine LeO.bind ?_ (fun _ => ?_))
   | exact ih0 _ _ _ _ _
   | exact LeO.none _
   | refine LeO.ite ?_ ?_
   | refine LeO.bind ?_ (fun _ => ?_)
set_option maxHeartbeats 8000000 in
set_option maxRecDepth 100000 in
theorem carillonlaw12_views.calls (k : Nat) (a0_0 : Int) (A0_1 : Option Addr) (c0_1 : Nat) (l0_1 : List (S38)) (a1_0 : Int) (A1_1 : Option Addr) (c1_1 : Nat) (l1_1 : List (S38)) (r : Bool) (w : World) (hr0_1 : Kd.C k38 w A0_1 l0_1.length l0_1) (hc0_1 : l0_1.length ≤ c0_1) (hr1_1 : Kd.C k38 w A1_1 l1_1.length l1_1) (hc1_1 : l1_1.length ≤ c1_1) (h : carillonlaw12_views.f k a0_0 l0_1 a1_0 l1_1 = some r) :
  Calls Tryd.prog 10 #[.agg #[.int .i64 a0_0, .slice A0_1 l0_1.length c0_1], .agg #[.int .i64 a1_0, .slice A1_1 l1_1.length c1_1]] w fun e w' => e = .returned (.bool r) ∧ Below w.heap.size w w' := by
 have hu24 := Tryd.underlying24
 have hu38 := Tryd.underlying38
 have HR0_1 := Aside0.mk hr0_1
 have HC0_1 := Aside0.mk hc0_1
 clear hr0_1 hc0_1
 have HR1_1 := Aside0.mk hr1_1
 have HC1_1 := Aside0.mk hc1_1
 clear hr1_1 hc1_1
 have HB := Aside0.mk (Below.refl w.heap.size w)
 have H : (if a0_0 = a1_0 then (if (l0_1.length : Int) = (l1_1.length : Int) then (carillonlaw12_views.l0 k 0 a0_0 l0_1 a1_0 l1_1) else (some false)) else (some false)) = some r := h
 clear h
 by_cases c3 : a0_0 = a1_0
 ·rw [if_pos c3] at H
  have c3b0 : (a0_0 == a1_0) = true := beq_iff_eq.mpr c3
  have c3b1 : (a0_0 != a1_0) = false := bne_eq_false_iff_eq.mpr c3
  clear c3
  by_cases c4 : (l0_1.length : Int) = (l1_1.length : Int)
  ·rw [if_pos c4] at H
   have c4b0 : ((l0_1.length : Int) == (l1_1.length : Int)) = true := beq_iff_eq.mpr c4
   have c4b1 : ((l0_1.length : Int) != (l1_1.length : Int)) = false := bne_eq_false_iff_eq.mpr c4
   have c4b2 : (l0_1.length == l1_1.length) = true := by first | simpa using c4 | (simp at c4 ⊢; omega)
   clear c4
   have H' := Aside0.mk H
   clear H
   go_enter Tryd.func10, Tryd.ntmps10
   go_wp2_with (first | ((with_reducible refine gate_dst (N := 2) rfl ?_); (try (refine gate_guard (by rfl) ?_; dsimp only)); refine box_event ?hg (N := 2) ?hd (cs := #[.int .i64 a0_0, .slice A0_1 l0_1.length c0_1]) (t := 24) ?hr ?_; (case hd => rfl); (case hg => rfl); (case hr => first | (go_simp; done) | (go_simp; rfl)); intro gb332 hg w5 hbox hb; have n0_ := Aside0.mk (below_step bw hb); have n1_ := Aside0.mk (hbox); have n2_ := Aside0.mk ((g1 hg bw : w.heap.size ≤ gb332)); have n3_ := Aside0.mk ((g1 hg bw : w.heap.size ≤ gb332)); clear HB; have HB := n0_; have BK332 := n1_; have GW332 := n2_; have GE332 := n3_; clear n0_ n1_ n2_ n3_; clear hb hbox hg) | ((with_reducible refine gate_dst (N := 3) rfl ?_); (try (refine gate_guard (by rfl) ?_; dsimp only)); refine box_event ?hg (N := 3) ?hd (cs := #[.int .i64 a1_0, .slice A1_1 l1_1.length c1_1]) (t := 24) ?hr ?_; (case hd => rfl); (case hg => rfl); (case hr => first | (go_simp; done) | (go_simp; rfl)); intro gb333 hg w6 hbox hb; have n0_ := Aside0.mk (nb BK332.out hb); have n1_ := Aside0.mk (below_step bw hb); have n2_ := Aside0.mk (hbox); have n3_ := Aside0.mk ((g1 hg bw : w.heap.size ≤ gb333)); have n4_ := Aside0.mk ((g1 hg bw : w.heap.size ≤ gb333)); have n5_ := Aside0.mk ((n1 hg BK332.out : gb332 ≠ gb333)); have n6_ := Aside0.mk ((n2 hg BK332.out : gb333 ≠ gb332)); clear BK332; clear HB; have BK332 := n0_; have HB := n1_; have BK333 := n2_; have GW333 := n3_; have GE333 := n4_; have NB332_333 := n5_; have NB333_332 := n6_; clear n0_ n1_ n2_ n3_ n4_ n5_ n6_; clear hb hbox hg; have hnb7 := NB332_333.out; have hnc7 := NB333_332.out; have hcz8_0 := bc2_0 BK332.out; have hcz8_1 := bc2_1 BK332.out; have hfz8_0 := blk_frozen BK332.out 0; have hfz8_1 := blk_frozen BK332.out 1; have hcz9_0 := bc2_0 BK333.out; have hcz9_1 := bc2_1 BK333.out; have hfz9_0 := blk_frozen BK333.out 0; have hfz9_1 := blk_frozen BK333.out 1))
   go_loopg [5] k (fun kq v5 w' => ∃ (x5_1 : Int), v5 = .int .i64 x5_1 ∧ Aside0 (carillonlaw12_views.l0 kq x5_1 a0_0 l0_1 a1_0 l1_1 = some r) ∧ Aside0 (kq ≤ k) ∧ Aside0 (w'.heap[gb332]? = some (.cells #[.int .i64 a0_0, (.slice A0_1 l0_1.length c0_1)] 24 (0, 0))) ∧ Aside0 (w'.heap[gb333]? = some (.cells #[.int .i64 a1_0, (.slice A1_1 l1_1.length c1_1)] 24 (0, 0))) ∧ Aside0 (Below w.heap.size w w'))
   case atStart => exact ⟨(0), (by first | rfl | (simp; done) | (simp [*]; done)), H', ⟨Nat.le_refl _⟩, ⟨by (with_reducible repeat (first | refine blk_drewN ?_ _ | refine blk_drew ?_ | refine blk_alloc ?_ _)); exact BK332.out⟩, ⟨by (with_reducible repeat (first | refine blk_drewN ?_ _ | refine blk_drew ?_ | refine blk_alloc ?_ _)); exact BK333.out⟩, ⟨bw⟩⟩
   case round =>
    clear H'
    try clear c1
    try clear p2
    try clear c3
    try clear c3b0
    try clear c3b1
    try clear c4
    try clear c4b0
    try clear c4b1
    try clear c4b2
    try clear c7
    try clear hcz8_0
    try clear hcz8_1
    try clear hcz9_0
    try clear hcz9_1
    try clear hfz8_0
    try clear hfz8_1
    try clear hfz9_0
    try clear hfz9_1
    obtain ⟨x5_1, rfl, HA, HK1, BK332, BK333, HB⟩ := hrel
    cases gk with
    | zero => exact absurd HA.out (by simp [carillonlaw12_views.l0])
    | succ k1 =>
     have H := HA.out
     clear HA
     simp only [carillonlaw12_views.l0] at H
     by_cases c10 : x5_1 < (l0_1.length : Int)
     ·rw [if_pos c10] at H
      have c10b0 : decide (x5_1 < (l0_1.length : Int)) = true := decide_eq_true c10
      clear c10
      by_cases c11 : 0 ≤ x5_1
      ·rw [if_pos c11] at H
       have c11b0 : decide (0 ≤ x5_1) = true := decide_eq_true c11
       clear c11
       by_cases c12 : x5_1 < (l1_1.length : Int)
       ·rw [if_pos c12] at H
        have c12b0 : decide (x5_1 < (l1_1.length : Int)) = true := decide_eq_true c12
        clear c12
        by_cases c13 : (!(((rd_T38 l0_1 x5_1).f0) == ((rd_T38 l1_1 x5_1).f0)) || (!(((rd_T38 l0_1 x5_1).f1) == ((rd_T38 l1_1 x5_1).f1)))) = true
        ·rw [if_pos c13] at H
         have c13b0 : (!(((rd_T38 l0_1 x5_1).f0) == ((rd_T38 l1_1 x5_1).f0)) || (!(((rd_T38 l0_1 x5_1).f1) == ((rd_T38 l1_1 x5_1).f1)))) = true := c13
         clear c13
         obtain rfl := Option.some.inj H
         have hnb14 := NB332_333.out
         have hnc14 := NB333_332.out
         have hcz15_0 := bc2_0 BK332.out
         have hcz15_1 := bc2_1 BK332.out
         have hfz15_0 := blk_frozen BK332.out 0
         have hfz15_1 := blk_frozen BK332.out 1
         have p334 : 0 ≤ (x5_1 : Int) := of_decide_eq_true (by first | (with_reducible assumption) | assumption)
         have q334 : x5_1 < (l0_1.length : Int) := of_decide_eq_true (by first | (with_reducible assumption) | assumption)
         obtain ⟨ad334, e334, hx334_0, hx334_1⟩ := at_T38 HR0_1.out x5_1 p334 q334
         cases e334
         replace hx334_0 := (HB.out.cell (World.block_lt_of_cell? w _ hx334_0)).trans hx334_0
         replace hx334_1 := (HB.out.cell (World.block_lt_of_cell? w _ hx334_1)).trans hx334_1
         replace p334 := eq_true p334
         replace q334 := eq_true q334
         have hcz16_0 := bc2_0 BK333.out
         have hcz16_1 := bc2_1 BK333.out
         have hfz16_0 := blk_frozen BK333.out 0
         have hfz16_1 := blk_frozen BK333.out 1
         have p335 : 0 ≤ (x5_1 : Int) := of_decide_eq_true (by first | (with_reducible assumption) | assumption)
         have q335 : x5_1 < (l1_1.length : Int) := of_decide_eq_true (by first | (with_reducible assumption) | assumption)
         obtain ⟨ad335, e335, hx335_0, hx335_1⟩ := at_T38 HR1_1.out x5_1 p335 q335
         cases e335
         replace hx335_0 := (HB.out.cell (World.block_lt_of_cell? w _ hx335_0)).trans hx335_0
         replace hx335_1 := (HB.out.cell (World.block_lt_of_cell? w _ hx335_1)).trans hx335_1
         replace p335 := eq_true p335
         replace q335 := eq_true q335
         go_wp2
         repeat (go_quiet (fail); try go_wp2)
         go_ret
         exact ⟨er, bw⟩
        ·rw [if_neg c13] at H
         have c13b0 : (!(((rd_T38 l0_1 x5_1).f0) == ((rd_T38 l1_1 x5_1).f0)) || (!(((rd_T38 l0_1 x5_1).f1) == ((rd_T38 l1_1 x5_1).f1)))) = false := by simpa using c13
         clear c13
         have H' := Aside0.mk H
         clear H
         have hnb17 := NB332_333.out
         have hnc17 := NB333_332.out
         have hcz18_0 := bc2_0 BK332.out
         have hcz18_1 := bc2_1 BK332.out
         have hfz18_0 := blk_frozen BK332.out 0
         have hfz18_1 := blk_frozen BK332.out 1
         have p334 : 0 ≤ (x5_1 : Int) := of_decide_eq_true (by first | (with_reducible assumption) | assumption)
         have q334 : x5_1 < (l0_1.length : Int) := of_decide_eq_true (by first | (with_reducible assumption) | assumption)
         obtain ⟨ad334, e334, hx334_0, hx334_1⟩ := at_T38 HR0_1.out x5_1 p334 q334
         cases e334
         replace hx334_0 := (HB.out.cell (World.block_lt_of_cell? w _ hx334_0)).trans hx334_0
         replace hx334_1 := (HB.out.cell (World.block_lt_of_cell? w _ hx334_1)).trans hx334_1
         replace p334 := eq_true p334
         replace q334 := eq_true q334
         have hcz19_0 := bc2_0 BK333.out
         have hcz19_1 := bc2_1 BK333.out
         have hfz19_0 := blk_frozen BK333.out 0
         have hfz19_1 := blk_frozen BK333.out 1
         have p335 : 0 ≤ (x5_1 : Int) := of_decide_eq_true (by first | (with_reducible assumption) | assumption)
         have q335 : x5_1 < (l1_1.length : Int) := of_decide_eq_true (by first | (with_reducible assumption) | assumption)
         obtain ⟨ad335, e335, hx335_0, hx335_1⟩ := at_T38 HR1_1.out x5_1 p335 q335
         cases e335
         replace hx335_0 := (HB.out.cell (World.block_lt_of_cell? w _ hx335_0)).trans hx335_0
         replace hx335_1 := (HB.out.cell (World.block_lt_of_cell? w _ hx335_1)).trans hx335_1
         replace p335 := eq_true p335
         replace q335 := eq_true q335
         go_wp2
         repeat (go_quiet (fail); try go_wp2)
         go_roundg k1
         case measure => have := HK1.out; omega
         case rel => exact ⟨(wrap64 (x5_1 + 1)), (by first | rfl | (simp; done) | (simp [*]; done)), H', ⟨by have := HK1.out; omega⟩, ⟨by (with_reducible repeat (first | refine blk_drewN ?_ _ | refine blk_drew ?_ | refine blk_alloc ?_ _)); exact BK332.out⟩, ⟨by (with_reducible repeat (first | refine blk_drewN ?_ _ | refine blk_drew ?_ | refine blk_alloc ?_ _)); exact BK333.out⟩, ⟨bw⟩⟩
       ·rw [if_neg c12] at H
        exact absurd H (by simp)
      ·rw [if_neg c11] at H
       exact absurd H (by simp)
     ·rw [if_neg c10] at H
      have c10b0 : decide (x5_1 < (l0_1.length : Int)) = false := decide_eq_false c10
      clear c10
      obtain rfl := Option.some.inj H
      have hnb20 := NB332_333.out
      have hnc20 := NB333_332.out
      have hcz21_0 := bc2_0 BK332.out
      have hcz21_1 := bc2_1 BK332.out
      have hfz21_0 := blk_frozen BK332.out 0
      have hfz21_1 := blk_frozen BK332.out 1
      go_wp2
      go_ret
      exact ⟨er, bw⟩
  ·rw [if_neg c4] at H
   have c4b0 : ((l0_1.length : Int) == (l1_1.length : Int)) = false := beq_eq_false_iff_ne.mpr c4
   have c4b1 : ((l0_1.length : Int) != (l1_1.length : Int)) = true := bne_iff_ne.mpr c4
   have c4b2 : (l0_1.length == l1_1.length) = false := by first | simpa using c4 | (simp at c4 ⊢; omega)
   obtain rfl := Option.some.inj H
   go_enter Tryd.func10, Tryd.ntmps10
   go_wp2_with (first | ((with_reducible refine gate_dst (N := 2) rfl ?_); (try (refine gate_guard (by rfl) ?_; dsimp only)); refine box_event ?hg (N := 2) ?hd (cs := #[.int .i64 a0_0, .slice A0_1 l0_1.length c0_1]) (t := 24) ?hr ?_; (case hd => rfl); (case hg => rfl); (case hr => first | (go_simp; done) | (go_simp; rfl)); intro gb332 hg w22 hbox hb; have n0_ := Aside0.mk (below_step bw hb); have n1_ := Aside0.mk (hbox); have n2_ := Aside0.mk ((g1 hg bw : w.heap.size ≤ gb332)); have n3_ := Aside0.mk ((g1 hg bw : w.heap.size ≤ gb332)); clear HB; have HB := n0_; have BK332 := n1_; have GW332 := n2_; have GE332 := n3_; clear n0_ n1_ n2_ n3_; clear hb hbox hg) | ((with_reducible refine gate_dst (N := 3) rfl ?_); (try (refine gate_guard (by rfl) ?_; dsimp only)); refine box_event ?hg (N := 3) ?hd (cs := #[.int .i64 a1_0, .slice A1_1 l1_1.length c1_1]) (t := 24) ?hr ?_; (case hd => rfl); (case hg => rfl); (case hr => first | (go_simp; done) | (go_simp; rfl)); intro gb333 hg w23 hbox hb; have n0_ := Aside0.mk (nb BK332.out hb); have n1_ := Aside0.mk (below_step bw hb); have n2_ := Aside0.mk (hbox); have n3_ := Aside0.mk ((g1 hg bw : w.heap.size ≤ gb333)); have n4_ := Aside0.mk ((g1 hg bw : w.heap.size ≤ gb333)); have n5_ := Aside0.mk ((n1 hg BK332.out : gb332 ≠ gb333)); have n6_ := Aside0.mk ((n2 hg BK332.out : gb333 ≠ gb332)); clear BK332; clear HB; have BK332 := n0_; have HB := n1_; have BK333 := n2_; have GW333 := n3_; have GE333 := n4_; have NB332_333 := n5_; have NB333_332 := n6_; clear n0_ n1_ n2_ n3_ n4_ n5_ n6_; clear hb hbox hg; have hnb24 := NB332_333.out; have hnc24 := NB333_332.out; have hcz25_0 := bc2_0 BK332.out; have hcz25_1 := bc2_1 BK332.out; have hfz25_0 := blk_frozen BK332.out 0; have hfz25_1 := blk_frozen BK332.out 1; have hcz26_0 := bc2_0 BK333.out; have hcz26_1 := bc2_1 BK333.out; have hfz26_0 := blk_frozen BK333.out 0; have hfz26_1 := blk_frozen BK333.out 1))
   go_ret
   exact ⟨er, bw⟩
 ·rw [if_neg c3] at H
  have c3b0 : (a0_0 == a1_0) = false := beq_eq_false_iff_ne.mpr c3
  have c3b1 : (a0_0 != a1_0) = true := bne_iff_ne.mpr c3
  obtain rfl := Option.some.inj H
  go_enter Tryd.func10, Tryd.ntmps10
  go_wp2_with (first | ((with_reducible refine gate_dst (N := 2) rfl ?_); (try (refine gate_guard (by rfl) ?_; dsimp only)); refine box_event ?hg (N := 2) ?hd (cs := #[.int .i64 a0_0, .slice A0_1 l0_1.length c0_1]) (t := 24) ?hr ?_; (case hd => rfl); (case hg => rfl); (case hr => first | (go_simp; done) | (go_simp; rfl)); intro gb332 hg w27 hbox hb; have n0_ := Aside0.mk (below_step bw hb); have n1_ := Aside0.mk (hbox); have n2_ := Aside0.mk ((g1 hg bw : w.heap.size ≤ gb332)); have n3_ := Aside0.mk ((g1 hg bw : w.heap.size ≤ gb332)); clear HB; have HB := n0_; have BK332 := n1_; have GW332 := n2_; have GE332 := n3_; clear n0_ n1_ n2_ n3_; clear hb hbox hg) | ((with_reducible refine gate_dst (N := 3) rfl ?_); (try (refine gate_guard (by rfl) ?_; dsimp only)); refine box_event ?hg (N := 3) ?hd (cs := #[.int .i64 a1_0, .slice A1_1 l1_1.length c1_1]) (t := 24) ?hr ?_; (case hd => rfl); (case hg => rfl); (case hr => first | (go_simp; done) | (go_simp; rfl)); intro gb333 hg w28 hbox hb; have n0_ := Aside0.mk (nb BK332.out hb); have n1_ := Aside0.mk (below_step bw hb); have n2_ := Aside0.mk (hbox); have n3_ := Aside0.mk ((g1 hg bw : w.heap.size ≤ gb333)); have n4_ := Aside0.mk ((g1 hg bw : w.heap.size ≤ gb333)); have n5_ := Aside0.mk ((n1 hg BK332.out : gb332 ≠ gb333)); have n6_ := Aside0.mk ((n2 hg BK332.out : gb333 ≠ gb332)); clear BK332; clear HB; have BK332 := n0_; have HB := n1_; have BK333 := n2_; have GW333 := n3_; have GE333 := n4_; have NB332_333 := n5_; have NB333_332 := n6_; clear n0_ n1_ n2_ n3_ n4_ n5_ n6_; clear hb hbox hg; have hnb29 := NB332_333.out; have hnc29 := NB333_332.out; have hcz30_0 := bc2_0 BK332.out; have hcz30_1 := bc2_1 BK332.out; have hfz30_0 := blk_frozen BK332.out 0; have hfz30_1 := blk_frozen BK332.out 1; have hcz31_0 := bc2_0 BK333.out; have hcz31_1 := bc2_1 BK333.out; have hfz31_0 := blk_frozen BK333.out 0; have hfz31_1 := blk_frozen BK333.out 1))
  go_ret
  exact ⟨er, bw⟩

/-! ### carillonlaw12_ViewBytes: function 3 -/
def carillonlaw12_ViewBytes.f (k : Nat) (a0_0 : Int) (l0_1 : List (S38)) (a1 : ByteArray) : Option (Bool) := (carillonlaw12_examples.f).bind fun t337 => ((view_Encode.f k a0_0 l0_1).bind fun bt338 => ((carillonref12_Encode.f k a0_0 l0_1).bind fun bt340 => ((view_Decode.f k a1).bind fun bt342 => ((carillonref12_Decode.f k a1).bind fun bt348 => ((carillonlaw12_views.f k bt342.1 bt342.2.1 bt348.1 bt348.2.1).bind fun t354 => (if t337 = true then (if bt338.1.toList = bt340.1.toList then (if ((bt338.2 == 0) == bt340.2) = true then (if bt340.2 = true then (if t354 = true then (some (bt342.2.2 == bt348.2.2)) else (some false)) else (if bt338.2 = 1 then (if t354 = true then (some (bt342.2.2 == bt348.2.2)) else (some false)) else (some false))) else (some false)) else (some false)) else (some false)))))))
theorem carillonlaw12_ViewBytes.mono : ∀ a0 a1 a2 k, LeO (carillonlaw12_ViewBytes.f k a0 a1 a2) (carillonlaw12_ViewBytes.f (k + 1) a0 a1 a2) := by
 intro a0 a1 a2 k
 unfold carillonlaw12_ViewBytes.f
 repeat' first
   | (with_reducible exact carillonlaw12_views.mono _ _ _ _ _)
   | (with_reducible exact carillonref12_Decode.mono _ _)
   | (with_reducible exact carillonref12_Encode.mono _ _ _)
   | (with_reducible exact view_Decode.mono _ _)
   | (with_reducible exact view_Encode.mono _ _ _)
   | (with_reducible exact LeO.refl _)
   | (with_reducible exact LeO.none _)
   | (with_reducible refine LeO.ite ?_ ?_)
   | (with_reducible refine LeO.bind ?_ (fun _ => ?_))
   | exact carillonlaw12_views.mono _ _ _ _ _
   | exact carillonref12_Decode.mono _ _
   | exact carillonref12_Encode.mono _ _ _
   | exact view_Decode.mono _ _
   | exact view_Encode.mono _ _ _
   | exact LeO.none _
   | refine LeO.ite ?_ ?_
   | refine LeO.bind ?_ (fun _ => ?_)
set_option maxHeartbeats 8000000 in
set_option maxRecDepth 100000 in
theorem carillonlaw12_ViewBytes.calls (k : Nat) (a0_0 : Int) (A0_1 : Option Addr) (c0_1 : Nat) (l0_1 : List (S38)) (a1 : ByteArray) (r : Bool) (w : World) (hr0_1 : Kd.C k38 w A0_1 l0_1.length l0_1) (hc0_1 : l0_1.length ≤ c0_1) (hr_ : Aside0 (r = true)) (HT_ : TabOk w) (h : carillonlaw12_ViewBytes.f k a0_0 l0_1 a1 = some r) :
  Calls Tryd.prog 3 #[.agg #[.int .i64 a0_0, .slice A0_1 l0_1.length c0_1], .string a1] w fun e w' => e = .returned (.bool r) ∧ Below w.heap.size w w' := by
 have HT := Aside0.mk HT_
 clear HT_
 have hu24 := Tryd.underlying24
 have HR0_1 := Aside0.mk hr0_1
 have HC0_1 := Aside0.mk hc0_1
 clear hr0_1 hc0_1
 have HB := Aside0.mk (Below.refl w.heap.size w)
 have H : ((carillonlaw12_examples.f).bind fun t337 => ((view_Encode.f k a0_0 l0_1).bind fun bt338 => ((carillonref12_Encode.f k a0_0 l0_1).bind fun bt340 => ((view_Decode.f k a1).bind fun bt342 => ((carillonref12_Decode.f k a1).bind fun bt348 => ((carillonlaw12_views.f k bt342.1 bt342.2.1 bt348.1 bt348.2.1).bind fun t354 => (if t337 = true then (if bt338.1.toList = bt340.1.toList then (if ((bt338.2 == 0) == bt340.2) = true then (if bt340.2 = true then (if t354 = true then (some (bt342.2.2 == bt348.2.2)) else (some false)) else (if bt338.2 = 1 then (if t354 = true then (some (bt342.2.2 == bt348.2.2)) else (some false)) else (some false))) else (some false)) else (some false)) else (some false)))))))) = some r := h
 clear h
 replace H := Option.bind_eq_some_iff.mp H
 obtain ⟨t337, A30, H⟩ := H
 replace H : ((view_Encode.f k a0_0 l0_1).bind fun bt338 => ((carillonref12_Encode.f k a0_0 l0_1).bind fun bt340 => ((view_Decode.f k a1).bind fun bt342 => ((carillonref12_Decode.f k a1).bind fun bt348 => ((carillonlaw12_views.f k bt342.1 bt342.2.1 bt348.1 bt348.2.1).bind fun t354 => (if t337 = true then (if bt338.1.toList = bt340.1.toList then (if ((bt338.2 == 0) == bt340.2) = true then (if bt340.2 = true then (if t354 = true then (some (bt342.2.2 == bt348.2.2)) else (some false)) else (if bt338.2 = 1 then (if t354 = true then (some (bt342.2.2 == bt348.2.2)) else (some false)) else (some false))) else (some false)) else (some false)) else (some false))))))) = some r := H
 have A3 := Aside0.mk A30
 clear A30
 replace H := Option.bind_eq_some_iff.mp H
 obtain ⟨⟨t338, t339⟩, A40, H⟩ := H
 replace H : ((carillonref12_Encode.f k a0_0 l0_1).bind fun bt340 => ((view_Decode.f k a1).bind fun bt342 => ((carillonref12_Decode.f k a1).bind fun bt348 => ((carillonlaw12_views.f k bt342.1 bt342.2.1 bt348.1 bt348.2.1).bind fun t354 => (if t337 = true then (if t338.toList = bt340.1.toList then (if ((t339 == 0) == bt340.2) = true then (if bt340.2 = true then (if t354 = true then (some (bt342.2.2 == bt348.2.2)) else (some false)) else (if t339 = 1 then (if t354 = true then (some (bt342.2.2 == bt348.2.2)) else (some false)) else (some false))) else (some false)) else (some false)) else (some false)))))) = some r := H
 have A4 := Aside0.mk A40
 clear A40
 replace H := Option.bind_eq_some_iff.mp H
 obtain ⟨⟨t340, t341⟩, A50, H⟩ := H
 replace H : ((view_Decode.f k a1).bind fun bt342 => ((carillonref12_Decode.f k a1).bind fun bt348 => ((carillonlaw12_views.f k bt342.1 bt342.2.1 bt348.1 bt348.2.1).bind fun t354 => (if t337 = true then (if t338.toList = t340.toList then (if ((t339 == 0) == t341) = true then (if t341 = true then (if t354 = true then (some (bt342.2.2 == bt348.2.2)) else (some false)) else (if t339 = 1 then (if t354 = true then (some (bt342.2.2 == bt348.2.2)) else (some false)) else (some false))) else (some false)) else (some false)) else (some false))))) = some r := H
 have A5 := Aside0.mk A50
 clear A50
 replace H := Option.bind_eq_some_iff.mp H
 obtain ⟨⟨t342, t343, t346⟩, A60, H⟩ := H
 replace H : ((carillonref12_Decode.f k a1).bind fun bt348 => ((carillonlaw12_views.f k t342 t343 bt348.1 bt348.2.1).bind fun t354 => (if t337 = true then (if t338.toList = t340.toList then (if ((t339 == 0) == t341) = true then (if t341 = true then (if t354 = true then (some (t346 == bt348.2.2)) else (some false)) else (if t339 = 1 then (if t354 = true then (some (t346 == bt348.2.2)) else (some false)) else (some false))) else (some false)) else (some false)) else (some false)))) = some r := H
 have A6 := Aside0.mk A60
 clear A60
 replace H := Option.bind_eq_some_iff.mp H
 obtain ⟨⟨t348, t349, t352⟩, A70, H⟩ := H
 replace H : ((carillonlaw12_views.f k t342 t343 t348 t349).bind fun t354 => (if t337 = true then (if t338.toList = t340.toList then (if ((t339 == 0) == t341) = true then (if t341 = true then (if t354 = true then (some (t346 == t352)) else (some false)) else (if t339 = 1 then (if t354 = true then (some (t346 == t352)) else (some false)) else (some false))) else (some false)) else (some false)) else (some false))) = some r := H
 have A7 := Aside0.mk A70
 clear A70
 replace H := Option.bind_eq_some_iff.mp H
 obtain ⟨t354, A80, H⟩ := H
 replace H : (if t337 = true then (if t338.toList = t340.toList then (if ((t339 == 0) == t341) = true then (if t341 = true then (if t354 = true then (some (t346 == t352)) else (some false)) else (if t339 = 1 then (if t354 = true then (some (t346 == t352)) else (some false)) else (some false))) else (some false)) else (some false)) else (some false)) = some r := H
 have A8 := Aside0.mk A80
 clear A80
 by_cases c9 : t337 = true
 ·subst c9
  have H1 : (if t338.toList = t340.toList then (if ((t339 == 0) == t341) = true then (if t341 = true then (if t354 = true then (some (t346 == t352)) else (some false)) else (if t339 = 1 then (if t354 = true then (some (t346 == t352)) else (some false)) else (some false))) else (some false)) else (some false)) = some r := by rw [if_pos rfl] at H; exact H
  clear H
  have H := H1
  clear H1
  by_cases c10 : t338.toList = t340.toList
  ·rw [if_pos c10] at H
   have c10b0 : (t338.toList == t340.toList) = true := beq_iff_eq.mpr c10
   have c10b1 : (t338.toList != t340.toList) = false := bne_eq_false_iff_eq.mpr c10
   clear c10
   by_cases c11 : ((t339 == 0) == t341) = true
   ·rw [if_pos c11] at H
    have c11b0 : ((t339 == 0) == t341) = true := c11
    (try (have c11b1 : decide ((t339 == 0) = t341) = true := by simpa using c11))
    (try (have c11b2 : ((t339 == 0) == t341) = true := by simpa using c11))
    clear c11
    by_cases c12 : t341 = true
    ·subst c12
     have H1 : (if t354 = true then (some (t346 == t352)) else (some false)) = some r := by rw [if_pos rfl] at H; exact H
     clear H
     have H := H1
     clear H1
     by_cases c13 : t354 = true
     ·subst c13
      have H1 : (some (t346 == t352)) = some r := by rw [if_pos rfl] at H; exact H
      clear H
      have H := H1
      clear H1
      obtain rfl := Option.some.inj H
      go_enter Tryd.func3, Tryd.ntmps3
      go_wp2_with (first | ((with_reducible refine gate_dst (N := 2) rfl ?_); refine box_event ?hg (N := 2) ?hd (cs := #[.int .i64 a0_0, .slice A0_1 l0_1.length c0_1]) (t := 24) ?hr ?_; (case hd => rfl); (case hg => rfl); (case hr => first | (go_simp; done) | (go_simp; rfl)); intro gb336 hg w14 hbox hb; have n0_ := Aside0.mk (below_step bw hb); have n1_ := Aside0.mk (hbox); have n2_ := Aside0.mk ((g1 hg bw : w.heap.size ≤ gb336)); have n3_ := Aside0.mk ((g1 hg bw : w.heap.size ≤ gb336)); clear HB; have HB := n0_; have BK336 := n1_; have GW336 := n2_; have GE336 := n3_; clear n0_ n1_ n2_ n3_; clear hb hbox hg) | ((with_reducible refine gate_callee (f := 5) rfl ?_); refine goesL_ (some 15) rfl rfl Tryd.func5 (by kernel_rfl) rfl #[] rfl am ?_; (with_reducible refine (carillonlaw12_examples.calls  true _ A3.out).mono ?_); rintro e w15 ⟨rfl, hb⟩; refine ⟨_, rfl, ?_⟩; have n0_ := Aside0.mk (nb BK336.out hb); have n1_ := Aside0.mk (below_step bw hb); clear BK336; clear HB; have BK336 := n0_; have HB := n1_; clear n0_ n1_; (try clear hb); (try clear hb2); (try clear hk); (try clear hi); have hcz16_0 := bc2_0 BK336.out; have hcz16_1 := bc2_1 BK336.out; have hfz16_0 := blk_frozen BK336.out 0; have hfz16_1 := blk_frozen BK336.out 1) | ((with_reducible refine gate_callee (f := 6) rfl ?_); refine goesL_ (some 18) rfl rfl Tryd.func6 (by kernel_rfl) rfl #[.agg #[.int .i64 a0_0, .slice A0_1 l0_1.length c0_1]] rfl am ?_; (with_reducible refine (view_Encode.calls k a0_0 _ _ l0_1 t338 t339 _ ?side1 ?side2 tbk A4.out).mono ?_); (case side1 => repeat (first | exact (Kd.C_below HR0_1.out HB.out) | (with_reducible refine Kd.C_alloc ?_ _) | (with_reducible refine Kd.C_drewN ?_ _) | (with_reducible refine Kd.C_drew ?_))); (case side2 => exact HC0_1.out); rintro e w17 ⟨rfl, hb⟩; refine ⟨_, rfl, ?_⟩; have n0_ := Aside0.mk (nb BK336.out hb); have n1_ := Aside0.mk (below_step bw hb); clear BK336; clear HB; have BK336 := n0_; have HB := n1_; clear n0_ n1_; (try clear hb); (try clear hb2); (try clear hk); (try clear hi); have hcz18_0 := bc2_0 BK336.out; have hcz18_1 := bc2_1 BK336.out; have hfz18_0 := blk_frozen BK336.out 0; have hfz18_1 := blk_frozen BK336.out 1) | ((with_reducible refine gate_callee (f := 7) rfl ?_); refine goesL_ (some 23) rfl rfl Tryd.func7 (by kernel_rfl) rfl #[.agg #[.int .i64 a0_0, .slice A0_1 l0_1.length c0_1]] rfl am ?_; (with_reducible refine (carillonref12_Encode.calls k a0_0 _ _ l0_1 t340 true _ ?side1 ?side2 A5.out).mono ?_); (case side1 => repeat (first | exact (Kd.C_below HR0_1.out HB.out) | (with_reducible refine Kd.C_alloc ?_ _) | (with_reducible refine Kd.C_drewN ?_ _) | (with_reducible refine Kd.C_drew ?_))); (case side2 => exact HC0_1.out); rintro e w19 ⟨rfl, hb⟩; refine ⟨_, rfl, ?_⟩; have n0_ := Aside0.mk (nb BK336.out hb); have n1_ := Aside0.mk (below_step bw hb); clear BK336; clear HB; have BK336 := n0_; have HB := n1_; clear n0_ n1_; (try clear hb); (try clear hb2); (try clear hk); (try clear hi)) | ((with_reducible refine gate_callee (f := 8) rfl ?_); refine goesL_ (some 28) rfl rfl Tryd.func8 (by kernel_rfl) rfl #[.string a1] rfl am ?_; (with_reducible refine (view_Decode.calls k a1 t342 t343 t346 _ tbk A6.out).mono ?_); rintro e w20 ⟨v344, rfl, ho0, hb⟩; refine ⟨_, rfl, ?_⟩; have n0_ := Aside0.mk (Kd.R_lower ho0 (below_size bw)); have n1_ := Aside0.mk (nb BK336.out hb); have n2_ := Aside0.mk (below_step bw hb); clear BK336; clear HB; have HO345 := n0_; have BK336 := n1_; have HB := n2_; clear n0_ n1_ n2_; (try clear hb); (try clear hb2); (try clear hk); (try clear hi); (try clear ho0)) | ((with_reducible refine gate_dst (N := 10) rfl ?_); refine box_event ?hg (N := 10) ?hd (cs := #[.int .i64 0, .slice none 0 0]) (t := 24) ?hr ?_; (case hd => rfl); (case hg => rfl); (case hr => first | (go_simp; done) | (go_simp; rfl)); intro gb347 hg w21 hbox hb; have n0_ := Aside0.mk (Kd.R_below (by (with_reducible repeat (first | apply Kd.R_alloc | apply Kd.R_drewN | apply Kd.R_drew)); exact HO345.out) hb); have n1_ := Aside0.mk (nb BK336.out hb); have n2_ := Aside0.mk (below_step bw hb); have n3_ := Aside0.mk (hbox); have n4_ := Aside0.mk ((g1 hg bw : w.heap.size ≤ gb347)); have n5_ := Aside0.mk ((g1 hg bw : w.heap.size ≤ gb347)); have n6_ := Aside0.mk ((n1 hg BK336.out : gb336 ≠ gb347)); have n7_ := Aside0.mk ((n2 hg BK336.out : gb347 ≠ gb336)); clear HO345; clear BK336; clear HB; have HO345 := n0_; have BK336 := n1_; have HB := n2_; have BK347 := n3_; have GW347 := n4_; have GE347 := n5_; have NB336_347 := n6_; have NB347_336 := n7_; clear n0_ n1_ n2_ n3_ n4_ n5_ n6_ n7_; clear hb hbox hg; have hnb22 := NB347_336.out; have hnc22 := NB336_347.out; have hcz23_0 := bc2_0 BK347.out; have hcz23_1 := bc2_1 BK347.out; have hfz23_0 := blk_frozen BK347.out 0; have hfz23_1 := blk_frozen BK347.out 1; obtain ⟨Ao24, co24, eo24⟩ := Kd.R_slice HO345.out; subst eo24) | ((with_reducible refine gate_callee (f := 9) rfl ?_); refine goesL_ (some 33) rfl rfl Tryd.func9 (by kernel_rfl) rfl #[.string a1] rfl am ?_; (with_reducible refine (carillonref12_Decode.calls k a1 t348 t349 t352 _ A7.out).mono ?_); rintro e w25 ⟨v350, rfl, ho0, hb⟩; refine ⟨_, rfl, ?_⟩; have n0_ := Aside0.mk (Kd.R_elder' (by (with_reducible repeat (first | apply Kd.R_alloc | apply Kd.R_drewN | apply Kd.R_drew)); exact (Kd.R_mono (Kd.R_far (p := ⟨gb347, 1, none⟩) (Kd.R_far (p := ⟨gb347, 0, none⟩) (Kd.R_types HO345.out BK347.out (by decide)) (fun _ hk => hk.2) (.int .i64 t342)) (fun _ hk => hk.2) (.slice Ao24 t343.length co24)) (fun _ h_ => h_.1))) (Kd.R_base ho0) hb); have n1_ := Aside0.mk (Kd.R_lower (Kd.R_new' ho0 (Kd.R_lt (by (with_reducible repeat (first | apply Kd.R_alloc | apply Kd.R_drewN | apply Kd.R_drew)); exact (Kd.R_mono (Kd.R_far (p := ⟨gb347, 1, none⟩) (Kd.R_far (p := ⟨gb347, 0, none⟩) (Kd.R_types HO345.out BK347.out (by decide)) (fun _ hk => hk.2) (.int .i64 t342)) (fun _ hk => hk.2) (.slice Ao24 t343.length co24)) (fun _ h_ => h_.1))))) (below_size bw)); have n2_ := Aside0.mk (blk_below (g := gb336) (o := .cells #[.int .i64 a0_0, .slice A0_1 l0_1.length c0_1] 24 (0, 0)) (by (with_reducible repeat (first | refine blk_drewN ?_ _ | refine blk_drew ?_ | refine blk_alloc ?_ _ | refine blk_far ?_ NB336_347.out _)); exact BK336.out) hb); have n3_ := Aside0.mk (blk_below (g := gb347) (o := .cells #[.int .i64 t342, .slice Ao24 t343.length co24] 24 (0, 0)) (by (with_reducible repeat (first | refine blk_drewN ?_ _ | refine blk_drew ?_ | refine blk_alloc ?_ _)); refine blk_put (cs := #[.int .i64 t342, .slice none 0 0]) ?_ 1 _ rfl; (with_reducible repeat (first | refine blk_drewN ?_ _ | refine blk_drew ?_ | refine blk_alloc ?_ _)); refine blk_put (cs := #[.int .i64 0, .slice none 0 0]) ?_ 0 _ rfl; (with_reducible repeat (first | refine blk_drewN ?_ _ | refine blk_drew ?_ | refine blk_alloc ?_ _)); exact BK347.out) hb); have n4_ := Aside0.mk (below_step bw hb); clear HO345; clear BK336; clear BK347; clear HB; have HO345 := n0_; have HO351 := n1_; have BK336 := n2_; have BK347 := n3_; have HB := n4_; clear n0_ n1_ n2_ n3_ n4_; (try clear hb); (try clear hb2); (try clear hk); (try clear hi); (try clear ho0)) | ((with_reducible refine gate_dst (N := 12) rfl ?_); refine box_event ?hg (N := 12) ?hd (cs := #[.int .i64 0, .slice none 0 0]) (t := 24) ?hr ?_; (case hd => rfl); (case hg => rfl); (case hr => first | (go_simp; done) | (go_simp; rfl)); intro gb353 hg w26 hbox hb; have n0_ := Aside0.mk (Kd.R_below (by (with_reducible repeat (first | apply Kd.R_alloc | apply Kd.R_drewN | apply Kd.R_drew)); exact HO345.out) hb); have n1_ := Aside0.mk (Kd.R_below (by (with_reducible repeat (first | apply Kd.R_alloc | apply Kd.R_drewN | apply Kd.R_drew)); exact HO351.out) hb); have n2_ := Aside0.mk (nb BK336.out hb); have n3_ := Aside0.mk (nb BK347.out hb); have n4_ := Aside0.mk (below_step bw hb); have n5_ := Aside0.mk (hbox); have n6_ := Aside0.mk ((g1 hg bw : w.heap.size ≤ gb353)); have n7_ := Aside0.mk ((g1 hg bw : w.heap.size ≤ gb353)); have n8_ := Aside0.mk ((n1 hg BK336.out : gb336 ≠ gb353)); have n9_ := Aside0.mk ((n2 hg BK336.out : gb353 ≠ gb336)); have n10_ := Aside0.mk ((n1 hg BK347.out : gb347 ≠ gb353)); have n11_ := Aside0.mk ((n2 hg BK347.out : gb353 ≠ gb347)); clear HO345; clear HO351; clear BK336; clear BK347; clear HB; have HO345 := n0_; have HO351 := n1_; have BK336 := n2_; have BK347 := n3_; have HB := n4_; have BK353 := n5_; have GW353 := n6_; have GE353 := n7_; have NB336_353 := n8_; have NB353_336 := n9_; have NB347_353 := n10_; have NB353_347 := n11_; clear n0_ n1_ n2_ n3_ n4_ n5_ n6_ n7_ n8_ n9_ n10_ n11_; clear hb hbox hg; have hnb27 := NB353_336.out; have hnc27 := NB336_353.out; have hnb28 := NB353_347.out; have hnc28 := NB347_353.out; have hcz29_0 := bc2_0 BK353.out; have hcz29_1 := bc2_1 BK353.out; have hfz29_0 := blk_frozen BK353.out 0; have hfz29_1 := blk_frozen BK353.out 1; obtain ⟨Ao30, co30, eo30⟩ := Kd.R_slice HO351.out; subst eo30; have hcz31_0 := bc2_0 BK347.out; have hcz31_1 := bc2_1 BK347.out; have hfz31_0 := blk_frozen BK347.out 0; have hfz31_1 := blk_frozen BK347.out 1) | ((with_reducible refine gate_callee (f := 10) rfl ?_); refine goesL_ (some 38) rfl rfl Tryd.func10 (by kernel_rfl) rfl #[.agg #[.int .i64 t342, .slice Ao24 t343.length co24], .agg #[.int .i64 t348, .slice Ao30 t349.length co30]] rfl am ?_; (with_reducible refine (carillonlaw12_views.calls k t342 _ _ t343 t348 _ _ t349 true _ ?side1 ?side2 ?side3 ?side4 A8.out).mono ?_); (case side1 => refine (Kd.R_reads' (e := 38) (base := w.heap.size) (ok := fun k_ => (True ∧ some k_ ≠ (.slice Ao30 t349.length co30 : Value).ownBlock)) (n := t343.length) (c := co24) ?_).2.2; exact (by (with_reducible repeat (first | apply Kd.R_alloc | apply Kd.R_drewN | apply Kd.R_drew)); exact (Kd.R_mono (Kd.R_far (p := ⟨gb353, 1, none⟩) (Kd.R_far (p := ⟨gb353, 0, none⟩) (Kd.R_types HO345.out BK353.out (by decide)) (fun _ hk => hk.2) (.int .i64 t348)) (fun _ hk => hk.2) (.slice Ao30 t349.length co30)) (fun _ h_ => h_.1)))); (case side2 => exact (Kd.R_reads' HO345.out).2.1); (case side3 => refine (Kd.R_reads' (e := 38) (base := w.heap.size) (ok := fun k_ => (True ∧ some k_ ≠ (.slice Ao24 t343.length co24 : Value).ownBlock)) (n := t349.length) (c := co30) ?_).2.2; exact (by (with_reducible repeat (first | apply Kd.R_alloc | apply Kd.R_drewN | apply Kd.R_drew)); exact (Kd.R_mono (Kd.R_far (p := ⟨gb353, 1, none⟩) (Kd.R_far (p := ⟨gb353, 0, none⟩) (Kd.R_types HO351.out BK353.out (by decide)) (fun _ hk => hk.2) (.int .i64 t348)) (fun _ hk => hk.2) (.slice Ao30 t349.length co30)) (fun _ h_ => h_.1)))); (case side4 => exact (Kd.R_reads' HO351.out).2.1); rintro e w32 ⟨rfl, hb⟩; refine ⟨_, rfl, ?_⟩; have n0_ := Aside0.mk (Kd.R_below (by (with_reducible repeat (first | apply Kd.R_alloc | apply Kd.R_drewN | apply Kd.R_drew)); exact (Kd.R_mono (Kd.R_far (p := ⟨gb353, 1, none⟩) (Kd.R_far (p := ⟨gb353, 0, none⟩) (Kd.R_types HO345.out BK353.out (by decide)) (fun _ hk => hk.2) (.int .i64 t348)) (fun _ hk => hk.2) (.slice Ao30 t349.length co30)) (fun _ h_ => h_.1))) hb); have n1_ := Aside0.mk (Kd.R_below (by (with_reducible repeat (first | apply Kd.R_alloc | apply Kd.R_drewN | apply Kd.R_drew)); exact (Kd.R_mono (Kd.R_far (p := ⟨gb353, 1, none⟩) (Kd.R_far (p := ⟨gb353, 0, none⟩) (Kd.R_types HO351.out BK353.out (by decide)) (fun _ hk => hk.2) (.int .i64 t348)) (fun _ hk => hk.2) (.slice Ao30 t349.length co30)) (fun _ h_ => h_.1))) hb); have n2_ := Aside0.mk (blk_below (g := gb336) (o := .cells #[.int .i64 a0_0, .slice A0_1 l0_1.length c0_1] 24 (0, 0)) (by (with_reducible repeat (first | refine blk_drewN ?_ _ | refine blk_drew ?_ | refine blk_alloc ?_ _ | refine blk_far ?_ NB336_353.out _)); exact BK336.out) hb); have n3_ := Aside0.mk (blk_below (g := gb347) (o := .cells #[.int .i64 t342, .slice Ao24 t343.length co24] 24 (0, 0)) (by (with_reducible repeat (first | refine blk_drewN ?_ _ | refine blk_drew ?_ | refine blk_alloc ?_ _ | refine blk_far ?_ NB347_353.out _)); exact BK347.out) hb); have n4_ := Aside0.mk (blk_below (g := gb353) (o := .cells #[.int .i64 t348, .slice Ao30 t349.length co30] 24 (0, 0)) (by (with_reducible repeat (first | refine blk_drewN ?_ _ | refine blk_drew ?_ | refine blk_alloc ?_ _)); refine blk_put (cs := #[.int .i64 t348, .slice none 0 0]) ?_ 1 _ rfl; (with_reducible repeat (first | refine blk_drewN ?_ _ | refine blk_drew ?_ | refine blk_alloc ?_ _)); refine blk_put (cs := #[.int .i64 0, .slice none 0 0]) ?_ 0 _ rfl; (with_reducible repeat (first | refine blk_drewN ?_ _ | refine blk_drew ?_ | refine blk_alloc ?_ _)); exact BK353.out) hb); have n5_ := Aside0.mk (below_step bw hb); clear HO345; clear HO351; clear BK336; clear BK347; clear BK353; clear HB; have HO345 := n0_; have HO351 := n1_; have BK336 := n2_; have BK347 := n3_; have BK353 := n4_; have HB := n5_; clear n0_ n1_ n2_ n3_ n4_ n5_; (try clear hb); (try clear hb2); (try clear hk); (try clear hi)))
      go_ret
      exact ⟨er, bw⟩
     ·replace c13 := Bool.eq_false_iff.mpr c13
      subst c13
      have H1 : (some false) = some r := by rw [if_neg (show ¬ (false = true) by decide)] at H; exact H
      clear H
      have H := H1
      clear H1
      exact absurd ((Option.some.inj H).trans hr_.out) (by decide)
    ·replace c12 := Bool.eq_false_iff.mpr c12
     subst c12
     have H1 : (if t339 = 1 then (if t354 = true then (some (t346 == t352)) else (some false)) else (some false)) = some r := by rw [if_neg (show ¬ (false = true) by decide)] at H; exact H
     clear H
     have H := H1
     clear H1
     by_cases c33 : t339 = 1
     ·rw [if_pos c33] at H
      have c33b0 : (t339 == 1) = true := beq_iff_eq.mpr c33
      have c33b1 : (t339 != 1) = false := bne_eq_false_iff_eq.mpr c33
      clear c33
      by_cases c34 : t354 = true
      ·subst c34
       have H1 : (some (t346 == t352)) = some r := by rw [if_pos rfl] at H; exact H
       clear H
       have H := H1
       clear H1
       obtain rfl := Option.some.inj H
       go_enter Tryd.func3, Tryd.ntmps3
       go_wp2_with (first | ((with_reducible refine gate_dst (N := 2) rfl ?_); refine box_event ?hg (N := 2) ?hd (cs := #[.int .i64 a0_0, .slice A0_1 l0_1.length c0_1]) (t := 24) ?hr ?_; (case hd => rfl); (case hg => rfl); (case hr => first | (go_simp; done) | (go_simp; rfl)); intro gb336 hg w35 hbox hb; have n0_ := Aside0.mk (below_step bw hb); have n1_ := Aside0.mk (hbox); have n2_ := Aside0.mk ((g1 hg bw : w.heap.size ≤ gb336)); have n3_ := Aside0.mk ((g1 hg bw : w.heap.size ≤ gb336)); clear HB; have HB := n0_; have BK336 := n1_; have GW336 := n2_; have GE336 := n3_; clear n0_ n1_ n2_ n3_; clear hb hbox hg) | ((with_reducible refine gate_callee (f := 5) rfl ?_); refine goesL_ (some 15) rfl rfl Tryd.func5 (by kernel_rfl) rfl #[] rfl am ?_; (with_reducible refine (carillonlaw12_examples.calls  true _ A3.out).mono ?_); rintro e w36 ⟨rfl, hb⟩; refine ⟨_, rfl, ?_⟩; have n0_ := Aside0.mk (nb BK336.out hb); have n1_ := Aside0.mk (below_step bw hb); clear BK336; clear HB; have BK336 := n0_; have HB := n1_; clear n0_ n1_; (try clear hb); (try clear hb2); (try clear hk); (try clear hi); have hcz37_0 := bc2_0 BK336.out; have hcz37_1 := bc2_1 BK336.out; have hfz37_0 := blk_frozen BK336.out 0; have hfz37_1 := blk_frozen BK336.out 1) | ((with_reducible refine gate_callee (f := 6) rfl ?_); refine goesL_ (some 18) rfl rfl Tryd.func6 (by kernel_rfl) rfl #[.agg #[.int .i64 a0_0, .slice A0_1 l0_1.length c0_1]] rfl am ?_; (with_reducible refine (view_Encode.calls k a0_0 _ _ l0_1 t338 t339 _ ?side1 ?side2 tbk A4.out).mono ?_); (case side1 => repeat (first | exact (Kd.C_below HR0_1.out HB.out) | (with_reducible refine Kd.C_alloc ?_ _) | (with_reducible refine Kd.C_drewN ?_ _) | (with_reducible refine Kd.C_drew ?_))); (case side2 => exact HC0_1.out); rintro e w38 ⟨rfl, hb⟩; refine ⟨_, rfl, ?_⟩; have n0_ := Aside0.mk (nb BK336.out hb); have n1_ := Aside0.mk (below_step bw hb); clear BK336; clear HB; have BK336 := n0_; have HB := n1_; clear n0_ n1_; (try clear hb); (try clear hb2); (try clear hk); (try clear hi); have hcz39_0 := bc2_0 BK336.out; have hcz39_1 := bc2_1 BK336.out; have hfz39_0 := blk_frozen BK336.out 0; have hfz39_1 := blk_frozen BK336.out 1) | ((with_reducible refine gate_callee (f := 7) rfl ?_); refine goesL_ (some 23) rfl rfl Tryd.func7 (by kernel_rfl) rfl #[.agg #[.int .i64 a0_0, .slice A0_1 l0_1.length c0_1]] rfl am ?_; (with_reducible refine (carillonref12_Encode.calls k a0_0 _ _ l0_1 t340 false _ ?side1 ?side2 A5.out).mono ?_); (case side1 => repeat (first | exact (Kd.C_below HR0_1.out HB.out) | (with_reducible refine Kd.C_alloc ?_ _) | (with_reducible refine Kd.C_drewN ?_ _) | (with_reducible refine Kd.C_drew ?_))); (case side2 => exact HC0_1.out); rintro e w40 ⟨rfl, hb⟩; refine ⟨_, rfl, ?_⟩; have n0_ := Aside0.mk (nb BK336.out hb); have n1_ := Aside0.mk (below_step bw hb); clear BK336; clear HB; have BK336 := n0_; have HB := n1_; clear n0_ n1_; (try clear hb); (try clear hb2); (try clear hk); (try clear hi)) | ((with_reducible refine gate_callee (f := 8) rfl ?_); refine goesL_ (some 28) rfl rfl Tryd.func8 (by kernel_rfl) rfl #[.string a1] rfl am ?_; (with_reducible refine (view_Decode.calls k a1 t342 t343 t346 _ tbk A6.out).mono ?_); rintro e w41 ⟨v344, rfl, ho0, hb⟩; refine ⟨_, rfl, ?_⟩; have n0_ := Aside0.mk (Kd.R_lower ho0 (below_size bw)); have n1_ := Aside0.mk (nb BK336.out hb); have n2_ := Aside0.mk (below_step bw hb); clear BK336; clear HB; have HO345 := n0_; have BK336 := n1_; have HB := n2_; clear n0_ n1_ n2_; (try clear hb); (try clear hb2); (try clear hk); (try clear hi); (try clear ho0)) | ((with_reducible refine gate_dst (N := 10) rfl ?_); refine box_event ?hg (N := 10) ?hd (cs := #[.int .i64 0, .slice none 0 0]) (t := 24) ?hr ?_; (case hd => rfl); (case hg => rfl); (case hr => first | (go_simp; done) | (go_simp; rfl)); intro gb347 hg w42 hbox hb; have n0_ := Aside0.mk (Kd.R_below (by (with_reducible repeat (first | apply Kd.R_alloc | apply Kd.R_drewN | apply Kd.R_drew)); exact HO345.out) hb); have n1_ := Aside0.mk (nb BK336.out hb); have n2_ := Aside0.mk (below_step bw hb); have n3_ := Aside0.mk (hbox); have n4_ := Aside0.mk ((g1 hg bw : w.heap.size ≤ gb347)); have n5_ := Aside0.mk ((g1 hg bw : w.heap.size ≤ gb347)); have n6_ := Aside0.mk ((n1 hg BK336.out : gb336 ≠ gb347)); have n7_ := Aside0.mk ((n2 hg BK336.out : gb347 ≠ gb336)); clear HO345; clear BK336; clear HB; have HO345 := n0_; have BK336 := n1_; have HB := n2_; have BK347 := n3_; have GW347 := n4_; have GE347 := n5_; have NB336_347 := n6_; have NB347_336 := n7_; clear n0_ n1_ n2_ n3_ n4_ n5_ n6_ n7_; clear hb hbox hg; have hnb43 := NB347_336.out; have hnc43 := NB336_347.out; have hcz44_0 := bc2_0 BK347.out; have hcz44_1 := bc2_1 BK347.out; have hfz44_0 := blk_frozen BK347.out 0; have hfz44_1 := blk_frozen BK347.out 1; obtain ⟨Ao45, co45, eo45⟩ := Kd.R_slice HO345.out; subst eo45) | ((with_reducible refine gate_callee (f := 9) rfl ?_); refine goesL_ (some 33) rfl rfl Tryd.func9 (by kernel_rfl) rfl #[.string a1] rfl am ?_; (with_reducible refine (carillonref12_Decode.calls k a1 t348 t349 t352 _ A7.out).mono ?_); rintro e w46 ⟨v350, rfl, ho0, hb⟩; refine ⟨_, rfl, ?_⟩; have n0_ := Aside0.mk (Kd.R_elder' (by (with_reducible repeat (first | apply Kd.R_alloc | apply Kd.R_drewN | apply Kd.R_drew)); exact (Kd.R_mono (Kd.R_far (p := ⟨gb347, 1, none⟩) (Kd.R_far (p := ⟨gb347, 0, none⟩) (Kd.R_types HO345.out BK347.out (by decide)) (fun _ hk => hk.2) (.int .i64 t342)) (fun _ hk => hk.2) (.slice Ao45 t343.length co45)) (fun _ h_ => h_.1))) (Kd.R_base ho0) hb); have n1_ := Aside0.mk (Kd.R_lower (Kd.R_new' ho0 (Kd.R_lt (by (with_reducible repeat (first | apply Kd.R_alloc | apply Kd.R_drewN | apply Kd.R_drew)); exact (Kd.R_mono (Kd.R_far (p := ⟨gb347, 1, none⟩) (Kd.R_far (p := ⟨gb347, 0, none⟩) (Kd.R_types HO345.out BK347.out (by decide)) (fun _ hk => hk.2) (.int .i64 t342)) (fun _ hk => hk.2) (.slice Ao45 t343.length co45)) (fun _ h_ => h_.1))))) (below_size bw)); have n2_ := Aside0.mk (blk_below (g := gb336) (o := .cells #[.int .i64 a0_0, .slice A0_1 l0_1.length c0_1] 24 (0, 0)) (by (with_reducible repeat (first | refine blk_drewN ?_ _ | refine blk_drew ?_ | refine blk_alloc ?_ _ | refine blk_far ?_ NB336_347.out _)); exact BK336.out) hb); have n3_ := Aside0.mk (blk_below (g := gb347) (o := .cells #[.int .i64 t342, .slice Ao45 t343.length co45] 24 (0, 0)) (by (with_reducible repeat (first | refine blk_drewN ?_ _ | refine blk_drew ?_ | refine blk_alloc ?_ _)); refine blk_put (cs := #[.int .i64 t342, .slice none 0 0]) ?_ 1 _ rfl; (with_reducible repeat (first | refine blk_drewN ?_ _ | refine blk_drew ?_ | refine blk_alloc ?_ _)); refine blk_put (cs := #[.int .i64 0, .slice none 0 0]) ?_ 0 _ rfl; (with_reducible repeat (first | refine blk_drewN ?_ _ | refine blk_drew ?_ | refine blk_alloc ?_ _)); exact BK347.out) hb); have n4_ := Aside0.mk (below_step bw hb); clear HO345; clear BK336; clear BK347; clear HB; have HO345 := n0_; have HO351 := n1_; have BK336 := n2_; have BK347 := n3_; have HB := n4_; clear n0_ n1_ n2_ n3_ n4_; (try clear hb); (try clear hb2); (try clear hk); (try clear hi); (try clear ho0)) | ((with_reducible refine gate_dst (N := 12) rfl ?_); refine box_event ?hg (N := 12) ?hd (cs := #[.int .i64 0, .slice none 0 0]) (t := 24) ?hr ?_; (case hd => rfl); (case hg => rfl); (case hr => first | (go_simp; done) | (go_simp; rfl)); intro gb353 hg w47 hbox hb; have n0_ := Aside0.mk (Kd.R_below (by (with_reducible repeat (first | apply Kd.R_alloc | apply Kd.R_drewN | apply Kd.R_drew)); exact HO345.out) hb); have n1_ := Aside0.mk (Kd.R_below (by (with_reducible repeat (first | apply Kd.R_alloc | apply Kd.R_drewN | apply Kd.R_drew)); exact HO351.out) hb); have n2_ := Aside0.mk (nb BK336.out hb); have n3_ := Aside0.mk (nb BK347.out hb); have n4_ := Aside0.mk (below_step bw hb); have n5_ := Aside0.mk (hbox); have n6_ := Aside0.mk ((g1 hg bw : w.heap.size ≤ gb353)); have n7_ := Aside0.mk ((g1 hg bw : w.heap.size ≤ gb353)); have n8_ := Aside0.mk ((n1 hg BK336.out : gb336 ≠ gb353)); have n9_ := Aside0.mk ((n2 hg BK336.out : gb353 ≠ gb336)); have n10_ := Aside0.mk ((n1 hg BK347.out : gb347 ≠ gb353)); have n11_ := Aside0.mk ((n2 hg BK347.out : gb353 ≠ gb347)); clear HO345; clear HO351; clear BK336; clear BK347; clear HB; have HO345 := n0_; have HO351 := n1_; have BK336 := n2_; have BK347 := n3_; have HB := n4_; have BK353 := n5_; have GW353 := n6_; have GE353 := n7_; have NB336_353 := n8_; have NB353_336 := n9_; have NB347_353 := n10_; have NB353_347 := n11_; clear n0_ n1_ n2_ n3_ n4_ n5_ n6_ n7_ n8_ n9_ n10_ n11_; clear hb hbox hg; have hnb48 := NB353_336.out; have hnc48 := NB336_353.out; have hnb49 := NB353_347.out; have hnc49 := NB347_353.out; have hcz50_0 := bc2_0 BK353.out; have hcz50_1 := bc2_1 BK353.out; have hfz50_0 := blk_frozen BK353.out 0; have hfz50_1 := blk_frozen BK353.out 1; obtain ⟨Ao51, co51, eo51⟩ := Kd.R_slice HO351.out; subst eo51; have hcz52_0 := bc2_0 BK347.out; have hcz52_1 := bc2_1 BK347.out; have hfz52_0 := blk_frozen BK347.out 0; have hfz52_1 := blk_frozen BK347.out 1) | ((with_reducible refine gate_callee (f := 10) rfl ?_); refine goesL_ (some 38) rfl rfl Tryd.func10 (by kernel_rfl) rfl #[.agg #[.int .i64 t342, .slice Ao45 t343.length co45], .agg #[.int .i64 t348, .slice Ao51 t349.length co51]] rfl am ?_; (with_reducible refine (carillonlaw12_views.calls k t342 _ _ t343 t348 _ _ t349 true _ ?side1 ?side2 ?side3 ?side4 A8.out).mono ?_); (case side1 => refine (Kd.R_reads' (e := 38) (base := w.heap.size) (ok := fun k_ => (True ∧ some k_ ≠ (.slice Ao51 t349.length co51 : Value).ownBlock)) (n := t343.length) (c := co45) ?_).2.2; exact (by (with_reducible repeat (first | apply Kd.R_alloc | apply Kd.R_drewN | apply Kd.R_drew)); exact (Kd.R_mono (Kd.R_far (p := ⟨gb353, 1, none⟩) (Kd.R_far (p := ⟨gb353, 0, none⟩) (Kd.R_types HO345.out BK353.out (by decide)) (fun _ hk => hk.2) (.int .i64 t348)) (fun _ hk => hk.2) (.slice Ao51 t349.length co51)) (fun _ h_ => h_.1)))); (case side2 => exact (Kd.R_reads' HO345.out).2.1); (case side3 => refine (Kd.R_reads' (e := 38) (base := w.heap.size) (ok := fun k_ => (True ∧ some k_ ≠ (.slice Ao45 t343.length co45 : Value).ownBlock)) (n := t349.length) (c := co51) ?_).2.2; exact (by (with_reducible repeat (first | apply Kd.R_alloc | apply Kd.R_drewN | apply Kd.R_drew)); exact (Kd.R_mono (Kd.R_far (p := ⟨gb353, 1, none⟩) (Kd.R_far (p := ⟨gb353, 0, none⟩) (Kd.R_types HO351.out BK353.out (by decide)) (fun _ hk => hk.2) (.int .i64 t348)) (fun _ hk => hk.2) (.slice Ao51 t349.length co51)) (fun _ h_ => h_.1)))); (case side4 => exact (Kd.R_reads' HO351.out).2.1); rintro e w53 ⟨rfl, hb⟩; refine ⟨_, rfl, ?_⟩; have n0_ := Aside0.mk (Kd.R_below (by (with_reducible repeat (first | apply Kd.R_alloc | apply Kd.R_drewN | apply Kd.R_drew)); exact (Kd.R_mono (Kd.R_far (p := ⟨gb353, 1, none⟩) (Kd.R_far (p := ⟨gb353, 0, none⟩) (Kd.R_types HO345.out BK353.out (by decide)) (fun _ hk => hk.2) (.int .i64 t348)) (fun _ hk => hk.2) (.slice Ao51 t349.length co51)) (fun _ h_ => h_.1))) hb); have n1_ := Aside0.mk (Kd.R_below (by (with_reducible repeat (first | apply Kd.R_alloc | apply Kd.R_drewN | apply Kd.R_drew)); exact (Kd.R_mono (Kd.R_far (p := ⟨gb353, 1, none⟩) (Kd.R_far (p := ⟨gb353, 0, none⟩) (Kd.R_types HO351.out BK353.out (by decide)) (fun _ hk => hk.2) (.int .i64 t348)) (fun _ hk => hk.2) (.slice Ao51 t349.length co51)) (fun _ h_ => h_.1))) hb); have n2_ := Aside0.mk (blk_below (g := gb336) (o := .cells #[.int .i64 a0_0, .slice A0_1 l0_1.length c0_1] 24 (0, 0)) (by (with_reducible repeat (first | refine blk_drewN ?_ _ | refine blk_drew ?_ | refine blk_alloc ?_ _ | refine blk_far ?_ NB336_353.out _)); exact BK336.out) hb); have n3_ := Aside0.mk (blk_below (g := gb347) (o := .cells #[.int .i64 t342, .slice Ao45 t343.length co45] 24 (0, 0)) (by (with_reducible repeat (first | refine blk_drewN ?_ _ | refine blk_drew ?_ | refine blk_alloc ?_ _ | refine blk_far ?_ NB347_353.out _)); exact BK347.out) hb); have n4_ := Aside0.mk (blk_below (g := gb353) (o := .cells #[.int .i64 t348, .slice Ao51 t349.length co51] 24 (0, 0)) (by (with_reducible repeat (first | refine blk_drewN ?_ _ | refine blk_drew ?_ | refine blk_alloc ?_ _)); refine blk_put (cs := #[.int .i64 t348, .slice none 0 0]) ?_ 1 _ rfl; (with_reducible repeat (first | refine blk_drewN ?_ _ | refine blk_drew ?_ | refine blk_alloc ?_ _)); refine blk_put (cs := #[.int .i64 0, .slice none 0 0]) ?_ 0 _ rfl; (with_reducible repeat (first | refine blk_drewN ?_ _ | refine blk_drew ?_ | refine blk_alloc ?_ _)); exact BK353.out) hb); have n5_ := Aside0.mk (below_step bw hb); clear HO345; clear HO351; clear BK336; clear BK347; clear BK353; clear HB; have HO345 := n0_; have HO351 := n1_; have BK336 := n2_; have BK347 := n3_; have BK353 := n4_; have HB := n5_; clear n0_ n1_ n2_ n3_ n4_ n5_; (try clear hb); (try clear hb2); (try clear hk); (try clear hi)))
       go_ret
       exact ⟨er, bw⟩
      ·replace c34 := Bool.eq_false_iff.mpr c34
       subst c34
       have H1 : (some false) = some r := by rw [if_neg (show ¬ (false = true) by decide)] at H; exact H
       clear H
       have H := H1
       clear H1
       exact absurd ((Option.some.inj H).trans hr_.out) (by decide)
     ·rw [if_neg c33] at H
      have c33b0 : (t339 == 1) = false := beq_eq_false_iff_ne.mpr c33
      have c33b1 : (t339 != 1) = true := bne_iff_ne.mpr c33
      exact absurd ((Option.some.inj H).trans hr_.out) (by decide)
   ·rw [if_neg c11] at H
    have c11b0 : ((t339 == 0) == t341) = false := by simpa using c11
    (try (have c11b1 : decide ((t339 == 0) = t341) = false := by simpa using c11))
    (try (have c11b2 : ((t339 == 0) == t341) = false := by simpa using c11))
    (try (have c11b3 : ¬ ((t339 == 0) = t341) := by simpa using c11))
    clear c11
    exact absurd ((Option.some.inj H).trans hr_.out) (by decide)
  ·rw [if_neg c10] at H
   have c10b0 : (t338.toList == t340.toList) = false := beq_eq_false_iff_ne.mpr c10
   have c10b1 : (t338.toList != t340.toList) = true := bne_iff_ne.mpr c10
   exact absurd ((Option.some.inj H).trans hr_.out) (by decide)
 ·replace c9 := Bool.eq_false_iff.mpr c9
  subst c9
  have H1 : (some false) = some r := by rw [if_neg (show ¬ (false = true) by decide)] at H; exact H
  clear H
  have H := H1
  clear H1
  exact absurd ((Option.some.inj H).trans hr_.out) (by decide)

end Go.Proofs.YtbcpjegakjcmgaaDoor.P
