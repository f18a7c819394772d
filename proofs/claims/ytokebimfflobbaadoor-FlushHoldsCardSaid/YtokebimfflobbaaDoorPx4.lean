-- Printed by this session's program wip/xp.py (a turned copy of the kit's printer): functions, their contracts.
import Derived.Test.YtokebimfflobbaaDoorPx0
import Derived.Test.YtokebimfflobbaaDoorPx3
namespace Go.Proofs.YtokebimfflobbaaDoor.P
open Go.RowKit Go.Proofs.YtokebimfflobbaaDoorW.PrintWords Go.Proofs.YtokebimfflobbaaDoorW.PrintLast Go.Proofs.YtokebimfflobbaaDoorW.PrintMore
attribute [local go_sem] max2_int min2_int max_two min_two max_three min_three max_four min_four   -- for this text's walks alone
set_option linter.unusedVariables false
set_option linter.unusedSimpArgs false

/-! ### view_Encode: function 20 -/
def view_Encode.l0 : Nat → List (S58) → List (S47) → Int → Int → Option (ByteArray × Int)
 | 0, _, _, _, _ => none
 | k + 1, x4, x16, x17, x18 => if x18 < x17 then (if 0 ≤ x18 then (if x18 < (x16.length : Int) then ((some (([(⟨1, IntKind.u64.wrap ((rd_T47 x16 x18).f0), (⟨#[]⟩ : ByteArray)⟩ : S58), (⟨3, IntKind.u64.wrap ((rd_T47 x16 x18).f1), (⟨#[]⟩ : ByteArray)⟩ : S58)] : List (S58)) : List (S58))).bind fun y146 => (if x4.length + y146.length < 4398046511104 then (view_Encode.l0 k (x4 ++ y146) x16 x17 (wrap64 (x18 + 1))) else (none))) else (none)) else (none)) else ((codec_Encode.f k x4).bind fun bt152 => (some (bt152.1, bt152.2)))
def view_Encode.f (k : Nat) (a0_0 : Int) (l0_1 : List (S47)) : Option (ByteArray × Int) := (view_Right.f k a0_0 l0_1).bind fun t140 => (if t140 = true then (view_Encode.l0 k (([(⟨3, IntKind.u64.wrap (a0_0), (⟨#[]⟩ : ByteArray)⟩ : S58)] : List (S58))) l0_1 (l0_1.length : Int) 0) else (some ((⟨#[]⟩ : ByteArray), 1)))
theorem view_Encode.mono_l : ∀ k, (∀ y0 y1 y2 y3, LeO (view_Encode.l0 k y0 y1 y2 y3) (view_Encode.l0 (k + 1) y0 y1 y2 y3))
 | 0 => fun _ _ _ _ r h => by simp [view_Encode.l0] at h
 | k + 1 => by
  have ih0 := view_Encode.mono_l k
  ·intro y0 y1 y2 y3
   unfold view_Encode.l0
   repeat' first
   | (with_reducible exact ih0 _ _ _ _)
   | (with_reducible exact codec_Encode.mono _ _)
   | (with_reducible exact view_Right.mono _ _ _)
   | (with_reducible exact LeO.refl _)
   | (with_reducible exact LeO.none _)
   | (with_reducible refine LeO.ite ?_ ?_)
   | (with_reducible refine LeO.bind ?_ (fun _ => ?_))
   | exact ih0 _ _ _ _
   | exact codec_Encode.mono _ _
   | exact view_Right.mono _ _ _
   | exact LeO.none _
   | refine LeO.ite ?_ ?_
   | refine LeO.bind ?_ (fun _ => ?_)
theorem view_Encode.mono : ∀ a0 a1 k, LeO (view_Encode.f k a0 a1) (view_Encode.f (k + 1) a0 a1) := by
 intro a0 a1 k
 have ih0 := view_Encode.mono_l k
 unfold view_Encode.f
 repeat' first
   | (with_reducible exact ih0 _ _ _ _)
   | (with_reducible exact codec_Encode.mono _ _)
   | (with_reducible exact view_Right.mono _ _ _)
   | (with_reducible exact LeO.refl _)
   | (with_reducible exact LeO.none _)
   | (with_reducible refine LeO.ite ?_ ?_)
   | (with_reducible refine LeO.bind ?_ (fun _ => ?_))
   | exact ih0 _ _ _ _
   | exact codec_Encode.mono _ _
   | exact view_Right.mono _ _ _
   | exact LeO.none _
   | refine LeO.ite ?_ ?_
   | refine LeO.bind ?_ (fun _ => ?_)
set_option maxHeartbeats 8000000 in
set_option maxRecDepth 100000 in
theorem view_Encode.calls (k : Nat) (a0_0 : Int) (A0_1 : Option Addr) (c0_1 : Nat) (l0_1 : List (S47)) (r1 : ByteArray) (r2 : Int) (w : World) (hr0_1 : Kd.C k47 w A0_1 l0_1.length l0_1) (hc0_1 : l0_1.length ≤ c0_1) (HT_ : TabOk w) (h : view_Encode.f k a0_0 l0_1 = some (r1, r2)) :
  Calls Tryd.prog 20 #[.agg #[.int .i64 a0_0, .slice A0_1 l0_1.length c0_1]] w fun e w' => e = .returned (.tuple #[.string r1, .int .i64 r2]) ∧ Below w.heap.size w w' := by
 have HT := Aside0.mk HT_
 clear HT_
 have hu35 := Tryd.underlying35
 have hu58 := Tryd.underlying58
 have hu47 := Tryd.underlying47
 have HR0_1 := Aside0.mk hr0_1
 have HC0_1 := Aside0.mk hc0_1
 clear hr0_1 hc0_1
 have HB := Aside0.mk (Below.refl w.heap.size w)
 have H : ((view_Right.f k a0_0 l0_1).bind fun t140 => (if t140 = true then (view_Encode.l0 k (([(⟨3, IntKind.u64.wrap (a0_0), (⟨#[]⟩ : ByteArray)⟩ : S58)] : List (S58))) l0_1 (l0_1.length : Int) 0) else (some ((⟨#[]⟩ : ByteArray), 1)))) = some (r1, r2) := h
 clear h
 replace H := Option.bind_eq_some_iff.mp H
 obtain ⟨t140, A20, H⟩ := H
 replace H : (if t140 = true then (view_Encode.l0 k (([(⟨3, IntKind.u64.wrap (a0_0), (⟨#[]⟩ : ByteArray)⟩ : S58)] : List (S58))) l0_1 (l0_1.length : Int) 0) else (some ((⟨#[]⟩ : ByteArray), 1))) = some (r1, r2) := H
 have A2 := Aside0.mk A20
 clear A20
 by_cases c3 : t140 = true; rotate_left
 ·replace c3 := Bool.eq_false_iff.mpr c3
  subst c3
  have H1 : (some ((⟨#[]⟩ : ByteArray), 1)) = some (r1, r2) := by rw [if_neg (show ¬ (false = true) by decide)] at H; exact H
  clear H
  have H := H1
  clear H1
  simp only [Option.some.injEq, Prod.mk.injEq] at H
  obtain ⟨rfl, rfl⟩ := H
  go_enter Tryd.func20, Tryd.ntmps20
  go_wp2_with (first | ((with_reducible refine gate_dst (N := 1) rfl ?_); refine box_event ?hg (N := 1) ?hd (cs := #[.int .i64 a0_0, .slice A0_1 l0_1.length c0_1]) (t := 35) ?hr ?_; (case hd => rfl); (case hg => rfl); (case hr => first | (go_simp; done) | (go_simp; rfl)); intro ac hg w25 hbox hb; have n0_ := Aside0.mk (below_step bw hb); have n1_ := Aside0.mk (hbox); have n2_ := Aside0.mk ((g1 hg bw : w.heap.size ≤ ac)); have n3_ := Aside0.mk ((g1 hg bw : w.heap.size ≤ ac)); clear HB; have HB := n0_; have aa := n1_; have GW139 := n2_; have GE139 := n3_; clear n0_ n1_ n2_ n3_; clear hb hbox hg; obtain ⟨hcz26_0, hcz26_1, hfz26_0, hfz26_1⟩ := bx2 aa.out) | ((with_reducible refine gate_callee (f := 25) rfl ?_); refine goesL_ (some 8) rfl rfl Tryd.func25 (by kernel_rfl) rfl #[.agg #[.int .i64 a0_0, .slice A0_1 l0_1.length c0_1]] rfl am ?_; (with_reducible refine (view_Right.calls k a0_0 _ _ l0_1 false _ ?side1 ?side2 A2.out).mono ?_); (case side1 => repeat (first | exact (Kd.C_below HR0_1.out HB.out) | (with_reducible refine Kd.C_alloc ?_ _) | (with_reducible refine Kd.C_drewN ?_ _) | (with_reducible refine Kd.C_drew ?_))); (case side2 => exact HC0_1.out); rintro e w27 ⟨rfl, hb⟩; refine ⟨_, rfl, ?_⟩; have n0_ := Aside0.mk (nb aa.out hb); have n1_ := Aside0.mk (below_step bw hb); clear aa; clear HB; have aa := n0_; have HB := n1_; clear n0_ n1_; (try clear hb)))
  go_ret2
  exact ⟨er, bw⟩
 subst c3
 have H1 : (view_Encode.l0 k (([(⟨3, IntKind.u64.wrap (a0_0), (⟨#[]⟩ : ByteArray)⟩ : S58)] : List (S58))) l0_1 (l0_1.length : Int) 0) = some (r1, r2) := by rw [if_pos rfl] at H; exact H
 clear H
 have H := H1
 clear H1
 obtain ⟨y141, hy141⟩ : ∃ y_ : List (S58), y_ = (([(⟨3, IntKind.u64.wrap (a0_0), (⟨#[]⟩ : ByteArray)⟩ : S58)] : List (S58))) := ⟨_, rfl⟩
 replace H : (view_Encode.l0 k y141 l0_1 (l0_1.length : Int) 0) = some (r1, r2) := by first | (rw [hy141]; with_reducible exact H) | (have H2_ := (Option.bind_some _ _).symm.trans H; rw [hy141]; with_reducible exact H2_) | (have H2_ := (Option.bind_some _ _).symm.trans H; with_reducible exact H2_) | with_reducible exact H | (rw [hy141]; exact H) | exact H
 have Ny141 := Aside0.mk hy141
 clear hy141
 have H' := Aside0.mk H
 clear H
 go_enter Tryd.func20, Tryd.ntmps20
 go_wp2_with (first | ((with_reducible refine gate_dst (N := 1) rfl ?_); refine box_event ?hg (N := 1) ?hd (cs := #[.int .i64 a0_0, .slice A0_1 l0_1.length c0_1]) (t := 35) ?hr ?_; (case hd => rfl); (case hg => rfl); (case hr => first | (go_simp; done) | (go_simp; rfl)); intro ac hg w4 hbox hb; have n0_ := Aside0.mk (below_step bw hb); have n1_ := Aside0.mk (hbox); have n2_ := Aside0.mk ((g1 hg bw : w.heap.size ≤ ac)); have n3_ := Aside0.mk ((g1 hg bw : w.heap.size ≤ ac)); clear HB; have HB := n0_; have aa := n1_; have GW139 := n2_; have GE139 := n3_; clear n0_ n1_ n2_ n3_; clear hb hbox hg; obtain ⟨hcz5_0, hcz5_1, hfz5_0, hfz5_1⟩ := bx2 aa.out) | ((with_reducible refine gate_callee (f := 25) rfl ?_); refine goesL_ (some 8) rfl rfl Tryd.func25 (by kernel_rfl) rfl #[.agg #[.int .i64 a0_0, .slice A0_1 l0_1.length c0_1]] rfl am ?_; (with_reducible refine (view_Right.calls k a0_0 _ _ l0_1 true _ ?side1 ?side2 A2.out).mono ?_); (case side1 => repeat (first | exact (Kd.C_below HR0_1.out HB.out) | (with_reducible refine Kd.C_alloc ?_ _) | (with_reducible refine Kd.C_drewN ?_ _) | (with_reducible refine Kd.C_drew ?_))); (case side2 => exact HC0_1.out); rintro e w6 ⟨rfl, hb⟩; refine ⟨_, rfl, ?_⟩; have n0_ := Aside0.mk (nb aa.out hb); have n1_ := Aside0.mk (below_step bw hb); clear aa; clear HB; have aa := n0_; have HB := n1_; clear n0_ n1_; (try clear hb); obtain ⟨hcz7_0, hcz7_1, hfz7_0, hfz7_1⟩ := bx2 aa.out) | ((with_reducible refine gate_dst (N := 14) rfl ?_); refine Kd.R_lit k58 _ 58 ?hg (N := 14) ?hd (xs := ([(⟨3, IntKind.u64.wrap (a0_0), (⟨#[]⟩ : ByteArray)⟩ : S58)] : List (S58))) (inner := [.int .i64 3, .int .u64 (IntKind.u64.wrap (a0_0)), .string (⟨#[]⟩ : ByteArray)]) (ok := fun _ => True) (okp := fun _ => True) ?hr ?hp (fun _ hk => hk) trivial (Below.refl _ _) (Nat.le_refl _) (by simp) ?_; (case hd => rfl); (case hg => rfl); (case hr => first | (go_simp; done) | (go_simp; rfl)); (case hp => exact (Reps.c3 (show Kd.M k58 _ _ _ (⟨3, IntKind.u64.wrap (a0_0), (⟨#[]⟩ : ByteArray)⟩ : S58) [.int .i64 3, .int .u64 (IntKind.u64.wrap (a0_0)), .string (⟨#[]⟩ : ByteArray)] from (k58_mkM _ _ _ (⟨3, IntKind.u64.wrap (a0_0), (⟨#[]⟩ : ByteArray)⟩ : S58) )) (Reps.none _ _))); intro v142 w8 ho9 hb hg_ hnew_; clear hg_ hnew_; (first | rw [← Ny141.out] at ho9 | (simp only [Int.reduceToNat] at ho9; rw [← Ny141.out] at ho9)); have n0_ := Aside0.mk (Kd.R_lower ho9 (below_size bw)); have n1_ := Aside0.mk (nb aa.out hb); have n2_ := Aside0.mk (below_step bw hb); clear aa; clear HB; have HO143 := n0_; have aa := n1_; have HB := n2_; clear n0_ n1_ n2_; clear hb ho9; obtain ⟨hcz10_0, hcz10_1, hfz10_0, hfz10_1⟩ := bx2 aa.out))
 go_loopg [4, 18] k (fun kq v4 v18 w' => ∃ (x4_1 : List (S58)) (x18_1 : Int), v18 = .int .i64 x18_1 ∧ Aside0 (view_Encode.l0 kq x4_1 l0_1 (l0_1.length : Int) x18_1 = some (r1, r2)) ∧ Aside0 (kq ≤ k) ∧ Aside0 (Kd.R k58 58 w' w.heap.size (fun _ => True) v4 x4_1) ∧ Aside0 (w'.heap[ac]? = some (.cells #[.int .i64 a0_0, (.slice A0_1 l0_1.length c0_1)] 35 (0, 0))) ∧ Aside0 (Below w.heap.size w w'))
 case atStart => exact ⟨(y141), (0), (by first | rfl | (simp; done) | (simp [*]; done)), H', ⟨Nat.le_refl _⟩, ⟨by (with_reducible repeat (first | apply Kd.R_alloc | apply Kd.R_drewN | apply Kd.R_drew)); exact HO143.out⟩, ⟨by (with_reducible repeat (first | refine blk_drewN ?_ _ | refine blk_drew ?_ | refine blk_alloc ?_ _)); exact aa.out⟩, ⟨bw⟩⟩
 case round =>
  clear H'
  try clear c2
  try clear p2
  try clear c3
  try clear hcz10_0 hcz10_1 hcz5_0 hcz5_1 hcz7_0 hcz7_1
  try clear hfz10_0 hfz10_1 hfz5_0 hfz5_1 hfz7_0 hfz7_1
  obtain ⟨x4_1, x18_1, rfl, HA, HK1, ab, aa, HB⟩ := hrel
  cases gk with
  | zero => exact absurd HA.out (by simp [view_Encode.l0])
  | succ k1 =>
   have H := HA.out
   clear HA
   simp only [view_Encode.l0] at H
   by_cases c11 : x18_1 < (l0_1.length : Int); rotate_left
   ·rw [if_neg c11] at H
    have c11b0 : decide (x18_1 < (l0_1.length : Int)) = false := decide_eq_false c11
    clear c11
    replace H := Option.bind_eq_some_iff.mp H
    obtain ⟨⟨t152, t153⟩, A220, H⟩ := H
    replace H : (some (t152, t153)) = some (r1, r2) := H
    have A22 := Aside0.mk A220
    clear A220
    simp only [Option.some.injEq, Prod.mk.injEq] at H
    obtain ⟨rfl, rfl⟩ := H
    obtain ⟨Ao23, co23, eo23⟩ := Kd.R_slice ab.out
    subst eo23
    go_wp2_with (first | ((with_reducible refine gate_callee (f := 21) rfl ?_); refine goesL_ (some 35) rfl rfl Tryd.func21 (by kernel_rfl) rfl #[.slice Ao23 x4_1.length co23] rfl am ?_; (with_reducible refine (codec_Encode.calls k1 _ _ x4_1 t152 t153 _ ?side1 ?side2 tbk A22.out).mono ?_); (case side1 => repeat (first | exact (Kd.R_reads' ab.out).2.2 | (with_reducible refine Kd.C_alloc ?_ _) | (with_reducible refine Kd.C_drewN ?_ _) | (with_reducible refine Kd.C_drew ?_))); (case side2 => exact (Kd.R_reads' ab.out).2.1); rintro e w24 ⟨rfl, hb⟩; refine ⟨_, rfl, ?_⟩; have n0_ := Aside0.mk (Kd.R_below (by (with_reducible repeat (first | apply Kd.R_alloc | apply Kd.R_drewN | apply Kd.R_drew)); exact ab.out) hb); have n1_ := Aside0.mk (nb aa.out hb); have n2_ := Aside0.mk (below_step bw hb); clear ab; clear aa; clear HB; have ab := n0_; have aa := n1_; have HB := n2_; clear n0_ n1_ n2_; (try clear hb)))
    go_ret2
    exact ⟨er, bw⟩
   rw [if_pos c11] at H
   have c11b0 : decide (x18_1 < (l0_1.length : Int)) = true := decide_eq_true c11
   clear c11
   by_cases c12 : 0 ≤ x18_1; rotate_left
   ·rw [if_neg c12] at H
    exact absurd H (by simp)
   rw [if_pos c12] at H
   have c12b0 : decide (0 ≤ x18_1) = true := decide_eq_true c12
   clear c12
   by_cases c13 : x18_1 < (l0_1.length : Int); rotate_left
   ·rw [if_neg c13] at H
    exact absurd H (by simp)
   rw [if_pos c13] at H
   have c13b0 : decide (x18_1 < (l0_1.length : Int)) = true := decide_eq_true c13
   clear c13
   obtain ⟨y146, hy146⟩ : ∃ y_ : List (S58), y_ = (([(⟨1, IntKind.u64.wrap ((rd_T47 l0_1 x18_1).f0), (⟨#[]⟩ : ByteArray)⟩ : S58), (⟨3, IntKind.u64.wrap ((rd_T47 l0_1 x18_1).f1), (⟨#[]⟩ : ByteArray)⟩ : S58)] : List (S58))) := ⟨_, rfl⟩
   replace H : (if x4_1.length + y146.length < 4398046511104 then (view_Encode.l0 k1 (x4_1 ++ y146) l0_1 (l0_1.length : Int) (wrap64 (x18_1 + 1))) else (none)) = some (r1, r2) := by first | (rw [hy146]; with_reducible exact H) | (have H2_ := (Option.bind_some _ _).symm.trans H; rw [hy146]; with_reducible exact H2_) | (have H2_ := (Option.bind_some _ _).symm.trans H; with_reducible exact H2_) | with_reducible exact H | (rw [hy146]; exact H) | exact H
   have Ny146 := Aside0.mk hy146
   clear hy146
   by_cases c14 : x4_1.length + y146.length < 4398046511104; rotate_left
   ·rw [if_neg c14] at H
    exact absurd H (by simp)
   rw [if_pos c14] at H
   have LMc14 := Aside0.mk c14
   clear c14
   obtain ⟨y149, hy149⟩ : ∃ y_ : List (S58), y_ = (x4_1 ++ y146) := ⟨_, rfl⟩
   replace H : (view_Encode.l0 k1 y149 l0_1 (l0_1.length : Int) (wrap64 (x18_1 + 1))) = some (r1, r2) := by first | (rw [hy149]; with_reducible exact H) | (have H2_ := (Option.bind_some _ _).symm.trans H; rw [hy149]; with_reducible exact H2_) | (have H2_ := (Option.bind_some _ _).symm.trans H; with_reducible exact H2_) | with_reducible exact H | (rw [hy149]; exact H) | exact H
   have Ny149 := Aside0.mk hy149
   clear hy149
   have H' := Aside0.mk H
   clear H
   have p144 : 0 ≤ (x18_1 : Int) := od
   have q144 : x18_1 < (l0_1.length : Int) := od
   obtain ⟨aj, e144, ah, ai⟩ := at_T47 HR0_1.out x18_1 p144 q144
   cases e144
   replace ah := (HB.out.cell (World.block_lt_of_cell? w _ ah)).trans ah
   replace ai := (HB.out.cell (World.block_lt_of_cell? w _ ai)).trans ai
   replace p144 := eq_true p144
   replace q144 := eq_true q144
   go_wp2_with (first | ((with_reducible refine gate_dst (N := 6) rfl ?_); refine box_event ?hg (N := 6) ?hd (cs := #[.int .i64 0, .int .i64 0]) (t := 47) ?hr ?_; (case hd => rfl); (case hg => rfl); (case hr => first | (go_simp; done) | (go_simp; rfl)); intro ad hg w15 hbox hb; have n0_ := Aside0.mk (Kd.R_below (by (with_reducible repeat (first | apply Kd.R_alloc | apply Kd.R_drewN | apply Kd.R_drew)); exact ab.out) hb); have n1_ := Aside0.mk (nb aa.out hb); have n2_ := Aside0.mk (below_step bw hb); have n3_ := Aside0.mk (hbox); have n4_ := Aside0.mk ((g1 hg bw : w.heap.size ≤ ad)); have n5_ := Aside0.mk ((g1 hg bw : w.heap.size ≤ ad)); have n6_ := Aside0.mk ((n1 hg aa.out : ac ≠ ad)); have n7_ := Aside0.mk ((n2 hg aa.out : ad ≠ ac)); clear ab; clear aa; clear HB; have ab := n0_; have aa := n1_; have HB := n2_; have ae := n3_; have GW145 := n4_; have GE145 := n5_; have af := n6_; have NB145_139 := n7_; clear n0_ n1_ n2_ n3_ n4_ n5_ n6_ n7_; clear hb hbox hg; have hnb16 := NB145_139.out; have hnc16 := af.out; obtain ⟨hcz17_0, hcz17_1, hfz17_0, hfz17_1⟩ := bx2 ae.out) | ((with_reducible refine gate_dst (N := 31) rfl ?_); refine Kd.R_lit k58 _ 58 ?hg (N := 31) ?hd (xs := ([(⟨1, IntKind.u64.wrap ((rd_T47 l0_1 x18_1).f0), (⟨#[]⟩ : ByteArray)⟩ : S58), (⟨3, IntKind.u64.wrap ((rd_T47 l0_1 x18_1).f1), (⟨#[]⟩ : ByteArray)⟩ : S58)] : List (S58))) (inner := [.int .i64 1, .int .u64 (IntKind.u64.wrap ((rd_T47 l0_1 x18_1).f0)), .string (⟨#[]⟩ : ByteArray), .int .i64 3, .int .u64 (IntKind.u64.wrap ((rd_T47 l0_1 x18_1).f1)), .string (⟨#[]⟩ : ByteArray)]) (ok := fun _ => True) (okp := fun _ => True) ?hr ?hp (fun _ hk => hk) trivial (Below.refl _ _) (Nat.le_refl _) (by simp) ?_; (case hd => rfl); (case hg => rfl); (case hr => first | (go_simp; done) | (go_simp; rfl)); (case hp => exact (Reps.c3 (show Kd.M k58 _ _ _ (⟨1, IntKind.u64.wrap ((rd_T47 l0_1 x18_1).f0), (⟨#[]⟩ : ByteArray)⟩ : S58) [.int .i64 1, .int .u64 (IntKind.u64.wrap ((rd_T47 l0_1 x18_1).f0)), .string (⟨#[]⟩ : ByteArray)] from (k58_mkM _ _ _ (⟨1, IntKind.u64.wrap ((rd_T47 l0_1 x18_1).f0), (⟨#[]⟩ : ByteArray)⟩ : S58) )) (Reps.c3 (show Kd.M k58 _ _ _ (⟨3, IntKind.u64.wrap ((rd_T47 l0_1 x18_1).f1), (⟨#[]⟩ : ByteArray)⟩ : S58) [.int .i64 3, .int .u64 (IntKind.u64.wrap ((rd_T47 l0_1 x18_1).f1)), .string (⟨#[]⟩ : ByteArray)] from (k58_mkM _ _ _ (⟨3, IntKind.u64.wrap ((rd_T47 l0_1 x18_1).f1), (⟨#[]⟩ : ByteArray)⟩ : S58) )) (Reps.none _ _)))); intro v147 w18 ho19 hb hg_ hnew_; clear hg_ hnew_; (first | rw [← Ny146.out] at ho19 | (simp only [Int.reduceToNat] at ho19; rw [← Ny146.out] at ho19)); have n0_ := Aside0.mk (Kd.R_elder' (by (with_reducible repeat (first | apply Kd.R_alloc | apply Kd.R_drewN | apply Kd.R_drew)); exact (Kd.R_mono (Kd.R_far (p := ⟨ad, 1, none⟩) (Kd.R_far (p := ⟨ad, 0, none⟩) (Kd.R_types ab.out ae.out (by decide)) (fun _ hk => hk.2) (.int .i64 ((rd_T47 l0_1 x18_1).f0))) (fun _ hk => hk.2) (.int .i64 ((rd_T47 l0_1 x18_1).f1))) (fun _ h_ => h_.1))) (Kd.R_base ho19) hb); have n1_ := Aside0.mk (Kd.R_lower (Kd.R_new' ho19 (Kd.R_lt (by (with_reducible repeat (first | apply Kd.R_alloc | apply Kd.R_drewN | apply Kd.R_drew)); exact (Kd.R_mono (Kd.R_far (p := ⟨ad, 1, none⟩) (Kd.R_far (p := ⟨ad, 0, none⟩) (Kd.R_types ab.out ae.out (by decide)) (fun _ hk => hk.2) (.int .i64 ((rd_T47 l0_1 x18_1).f0))) (fun _ hk => hk.2) (.int .i64 ((rd_T47 l0_1 x18_1).f1))) (fun _ h_ => h_.1))))) (below_size bw)); have n2_ := Aside0.mk (blk_below (g := ac) (o := .cells #[.int .i64 a0_0, .slice (some aj) l0_1.length c0_1] 35 (0, 0)) (by (with_reducible repeat (first | refine blk_drewN ?_ _ | refine blk_drew ?_ | refine blk_alloc ?_ _ | refine blk_far ?_ af.out _)); exact aa.out) hb); have n3_ := Aside0.mk (blk_below (g := ad) (o := .cells #[.int .i64 ((rd_T47 l0_1 x18_1).f0), .int .i64 ((rd_T47 l0_1 x18_1).f1)] 47 (0, 0)) (by (with_reducible repeat (first | refine blk_drewN ?_ _ | refine blk_drew ?_ | refine blk_alloc ?_ _)); refine blk_put (cs := #[.int .i64 ((rd_T47 l0_1 x18_1).f0), .int .i64 0]) ?_ 1 _ rfl; (with_reducible repeat (first | refine blk_drewN ?_ _ | refine blk_drew ?_ | refine blk_alloc ?_ _)); refine blk_put (cs := #[.int .i64 0, .int .i64 0]) ?_ 0 _ rfl; (with_reducible repeat (first | refine blk_drewN ?_ _ | refine blk_drew ?_ | refine blk_alloc ?_ _)); exact ae.out) hb); have n4_ := Aside0.mk (below_step bw hb); clear ab; clear aa; clear ae; clear HB; have ab := n0_; have ag := n1_; have aa := n2_; have ae := n3_; have HB := n4_; clear n0_ n1_ n2_ n3_ n4_; clear hb ho19; obtain ⟨Ao21, co21, eo21⟩ := Kd.R_slice ag.out; subst eo21) | ((with_reducible refine gate_builtin (b := .append) (xs := #[.tmp 22, .tmp 31]) rfl ?_); at_builtin; refine Kd.R_append_rows k58 (w0 := w) w.heap.size rfl (.tmp 22) (.tmp 31) 50 58 (.agg #[(.int .i64 0), (.int .u64 0), (.string ⟨#[]⟩)]) 32 rfl Tryd.underlying50 info58 rfl (by decide) (by omega) u4 x4_1 y146 _ _ _ (fun k_ => some k_ ≠ (.slice Ao21 y146.length co21 : Value).ownBlock) (fun _ => False) rfl rfl ?aO ?aR (fun _ _ h => h) (fun _ h => h.elim) ?aF ?aB ?aS ?aL ?_; (case aR => repeat (first | exact (Kd.R_reads' ag.out).2.2 | (with_reducible refine Kd.C_alloc ?_ _) | (with_reducible refine Kd.C_drewN ?_ _) | (with_reducible refine Kd.C_drew ?_))); (case aB => exact bw); (case aF => exact (fun k_ hk => Kd.fresh' (Kd.R_lt (by (with_reducible repeat (first | apply Kd.R_alloc | apply Kd.R_drewN | apply Kd.R_drew)); exact ag.out)) k_ hk)); (case aO => exact (by (with_reducible repeat (first | apply Kd.R_alloc | apply Kd.R_drewN | apply Kd.R_drew)); exact Kd.R_mono ab.out (fun _ hk => hk.2))); (case aS => exact (below_size bw)); (case aL => have := LMc14.out; omega); intro v150 w20 ho hb hg hat; rw [← Ny149.out] at ho; have n0_ := Aside0.mk (blk_grown (g := ac) (o := .cells #[.int .i64 a0_0, .slice (some aj) l0_1.length c0_1] 35 (0, 0)) (bk aa.out) hg (Kd.R_ne ab.out aa.out (by decide))); have n1_ := Aside0.mk (blk_grown (g := ad) (o := .cells #[.int .i64 ((rd_T47 l0_1 x18_1).f0), .int .i64 ((rd_T47 l0_1 x18_1).f1)] 47 (0, 0)) (bk ae.out) hg (Kd.R_ne ab.out ae.out (by decide))); have n2_ := Aside0.mk (Kd.R_after (ok := (fun _ => True)) (by (with_reducible repeat (first | apply Kd.R_alloc | apply Kd.R_drewN | apply Kd.R_drew)); exact ag.out) hg hat); have n3_ := Aside0.mk (hb); have n4_ := Aside0.mk (ho); clear aa; clear ae; clear ag; clear HB; clear ab; have aa := n0_; have ae := n1_; have ag := n2_; have HB := n3_; have HO151 := n4_; clear n0_ n1_ n2_ n3_ n4_; clear ho hb hg hat))
   go_roundg k1
   case measure => have := HK1.out; omega
   case rel => exact ⟨(y149), (wrap64 (x18_1 + 1)), (by first | rfl | (simp; done) | (simp [*]; done)), H', ⟨by have := HK1.out; omega⟩, ⟨by (with_reducible repeat (first | apply Kd.R_alloc | apply Kd.R_drewN | apply Kd.R_drew)); exact Kd.R_mono HO151.out (fun _ hk => trivial)⟩, ⟨by (with_reducible repeat (first | refine blk_drewN ?_ _ | refine blk_drew ?_ | refine blk_alloc ?_ _)); exact aa.out⟩, ⟨bw⟩⟩

/-! ### flush_texts: function 22 -/
def flush_texts.l0 : Nat → List (S58) → List ByteArray → Int → Int → Option ((List (S58)))
 | 0, _, _, _, _ => none
 | k + 1, x3, x6, x7, x8 => if x8 < x7 then (if 0 ≤ x8 then (if x8 < (x6.length : Int) then (if x3.length < 4398046511104 then (flush_texts.l0 k (x3 ++ [(⟨4, 0, rdOf ByteArray.empty x6 x8⟩ : S58)]) x6 x7 (wrap64 (x8 + 1))) else (none)) else (none)) else (none)) else (some x3)
def flush_texts.f (k : Nat) (l0 : List ByteArray) : Option ((List (S58))) := flush_texts.l0 k ([] : List (S58)) l0 (l0.length : Int) 0
theorem flush_texts.mono_l : ∀ k, (∀ y0 y1 y2 y3, LeO (flush_texts.l0 k y0 y1 y2 y3) (flush_texts.l0 (k + 1) y0 y1 y2 y3))
 | 0 => fun _ _ _ _ r h => by simp [flush_texts.l0] at h
 | k + 1 => by
  have ih0 := flush_texts.mono_l k
  ·intro y0 y1 y2 y3
   unfold flush_texts.l0
   repeat' first
   | (with_reducible exact ih0 _ _ _ _)
   | (with_reducible exact LeO.refl _)
   | (with_reducible exact LeO.none _)
   | (with_reducible refine LeO.ite ?_ ?_)
   | (with_reducible refine LeO.bind ?_ (fun _ => ?_))
   | exact ih0 _ _ _ _
   | exact LeO.none _
   | refine LeO.ite ?_ ?_
   | refine LeO.bind ?_ (fun _ => ?_)
theorem flush_texts.mono : ∀ a0 k, LeO (flush_texts.f k a0) (flush_texts.f (k + 1) a0) := by
 intro a0 k
 have ih0 := flush_texts.mono_l k
 unfold flush_texts.f
 repeat' first
   | (with_reducible exact ih0 _ _ _ _)
   | (with_reducible exact LeO.refl _)
   | (with_reducible exact LeO.none _)
   | (with_reducible refine LeO.ite ?_ ?_)
   | (with_reducible refine LeO.bind ?_ (fun _ => ?_))
   | exact ih0 _ _ _ _
   | exact LeO.none _
   | refine LeO.ite ?_ ?_
   | refine LeO.bind ?_ (fun _ => ?_)
set_option maxHeartbeats 8000000 in
set_option maxRecDepth 100000 in
theorem flush_texts.calls (k : Nat) (A0 : Option Addr) (c0 : Nat) (l0 : List ByteArray) (r : List (S58)) (w : World) (hr0 : Kd.C Kd.string w A0 l0.length l0) (hc0 : l0.length ≤ c0) (h : flush_texts.f k l0 = some r) :
  Calls Tryd.prog 22 #[.slice A0 l0.length c0] w fun e w' => ∃ v0_ : Value, e = .returned (v0_) ∧ Kd.R k58 58 w' w.heap.size (fun _ => True) v0_ r ∧ Below w.heap.size w w' := by
 have hu58 := Tryd.underlying58
 have HR0 := Aside0.mk hr0
 have HC0 := Aside0.mk hc0
 clear hr0 hc0
 have HB := Aside0.mk (Below.refl w.heap.size w)
 have H : (flush_texts.l0 k ([] : List (S58)) l0 (l0.length : Int) 0) = some r := h
 clear h
 have H' := Aside0.mk H
 clear H
 go_enter Tryd.func22, Tryd.ntmps22
 go_wp2
 go_loopg [3, 8] k (fun kq v3 v8 w' => ∃ (x3_1 : List (S58)) (x8_1 : Int), v8 = .int .i64 x8_1 ∧ Aside0 (flush_texts.l0 kq x3_1 l0 (l0.length : Int) x8_1 = some r) ∧ Aside0 (kq ≤ k) ∧ Aside0 (Kd.R k58 58 w' w.heap.size (fun _ => True) v3 x3_1) ∧ Aside0 (Below w.heap.size w w'))
 case atStart => exact ⟨(([] : List (S58))), (0), (by first | rfl | (simp; done) | (simp [*]; done)), H', ⟨Nat.le_refl _⟩, ⟨by first | exact Kd.R_nil _ _ _ _ _ | exact Kd.N_nil _ _ _ _ _ | exact Kd.V_nil _ _ _ _ _ | exact Kd.Q_nil _ _ _ _ _ | exact Kd.S_nil _ _ _ _ _⟩, ⟨bw⟩⟩
 case round =>
  clear H'
  obtain ⟨x3_1, x8_1, rfl, HA, HK1, ab, HB⟩ := hrel
  cases gk with
  | zero => exact absurd HA.out (by simp [flush_texts.l0])
  | succ k1 =>
   have H := HA.out
   clear HA
   simp only [flush_texts.l0] at H
   by_cases c2 : x8_1 < (l0.length : Int); rotate_left
   ·rw [if_neg c2] at H
    have c2b0 : decide (x8_1 < (l0.length : Int)) = false := decide_eq_false c2
    clear c2
    obtain rfl := Option.some.inj H
    go_wp2
    go_ret
    exact ⟨_, er, by (with_reducible repeat (first | apply Kd.R_alloc | apply Kd.R_drewN | apply Kd.R_drew)); exact ab.out, bw⟩
   rw [if_pos c2] at H
   have c2b0 : decide (x8_1 < (l0.length : Int)) = true := decide_eq_true c2
   clear c2
   by_cases c3 : 0 ≤ x8_1; rotate_left
   ·rw [if_neg c3] at H
    exact absurd H (by simp)
   rw [if_pos c3] at H
   have c3b0 : decide (0 ≤ x8_1) = true := decide_eq_true c3
   clear c3
   by_cases c4 : x8_1 < (l0.length : Int); rotate_left
   ·rw [if_neg c4] at H
    exact absurd H (by simp)
   rw [if_pos c4] at H
   have c4b0 : decide (x8_1 < (l0.length : Int)) = true := decide_eq_true c4
   clear c4
   by_cases c5 : x3_1.length < 4398046511104; rotate_left
   ·rw [if_neg c5] at H
    exact absurd H (by simp)
   rw [if_pos c5] at H
   have LMc5 := Aside0.mk c5
   clear c5
   obtain ⟨y155, hy155⟩ : ∃ y_ : List (S58), y_ = (x3_1 ++ [(⟨4, 0, rdOf ByteArray.empty l0 x8_1⟩ : S58)]) := ⟨_, rfl⟩
   replace H : (flush_texts.l0 k1 y155 l0 (l0.length : Int) (wrap64 (x8_1 + 1))) = some r := by first | (rw [hy155]; with_reducible exact H) | (have H2_ := (Option.bind_some _ _).symm.trans H; rw [hy155]; with_reducible exact H2_) | (have H2_ := (Option.bind_some _ _).symm.trans H; with_reducible exact H2_) | with_reducible exact H | (rw [hy155]; exact H) | exact H
   have Ny155 := Aside0.mk hy155
   clear hy155
   have H' := Aside0.mk H
   clear H
   have p154 : 0 ≤ (x8_1 : Int) := od
   have q154 : x8_1 < (l0.length : Int) := od
   obtain ⟨ad154, e154, aa⟩ := Kd.at_string HR0.out x8_1 p154 q154
   cases e154
   replace aa := (HB.out.cell (World.block_lt_of_cell? w _ aa)).trans aa
   replace p154 := eq_true p154
   replace q154 := eq_true q154
   go_wp2_with (first | ((with_reducible refine gate_builtin (b := .append) (xs := #[.tmp 12, .tmp 15]) rfl ?_); at_builtin; refine Kd.R_append k58 (w0 := w) w.heap.size rfl (.tmp 12) (.tmp 15) 50 58 (.agg #[(.int .i64 0), (.int .u64 0), (.string ⟨#[]⟩)]) 32 rfl Tryd.underlying50 info58 rfl (by decide) (by omega) u3 x3_1 (⟨4, 0, rdOf ByteArray.empty l0 x8_1⟩ : S58) [.int .i64 4, .int .u64 0, .string (rdOf ByteArray.empty l0 x8_1)] (fun _ => True) (fun _ => False) rfl rfl ?aP (fun _ hk => hk.elim) ?aF ?aO ?aB ?aS ?aL ?_; (case aP => exact k58_mkM _ _ _ (⟨4, 0, rdOf ByteArray.empty l0 x8_1⟩ : S58)); (case aB => exact bw); (case aF => exact (fun _ _ => trivial)); (case aO => exact (by (with_reducible repeat (first | apply Kd.R_alloc | apply Kd.R_drewN | apply Kd.R_drew)); exact ab.out)); (case aS => exact (below_size bw)); (case aL => have := LMc5.out; omega); intro v156 w6 ho hb hg hat; rw [← Ny155.out] at ho; have n0_ := Aside0.mk (hb); have n1_ := Aside0.mk (ho); clear HB; clear ab; have HB := n0_; have HO157 := n1_; clear n0_ n1_; clear ho hb hg hat))
   go_roundg k1
   case measure => have := HK1.out; omega
   case rel => exact ⟨(y155), (wrap64 (x8_1 + 1)), (by first | rfl | (simp; done) | (simp [*]; done)), H', ⟨by have := HK1.out; omega⟩, ⟨by (with_reducible repeat (first | apply Kd.R_alloc | apply Kd.R_drewN | apply Kd.R_drew)); exact HO157.out⟩, ⟨bw⟩⟩

/-! ### flush_Encode: function 16 -/
def flush_Encode.l0 : Nat → List ByteArray → ByteArray → Int → List ByteArray → Int → Int → Option (ByteArray × Int)
 | 0, _, _, _, _, _, _ => none
 | k + 1, x1, x6, x8, x24, x25, x26 => if x26 < x25 then (if 0 ≤ x26 then (if x26 < (x24.length : Int) then (flush_Encode.l0 k x1 x6 (wrap64 (x8 + (wrap64 (((rdOf ByteArray.empty x24 x26).size : Int) + 4)))) x24 x25 (wrap64 (x26 + 1))) else (none)) else (none)) else (if x8 > 100000 then (some ((⟨#[]⟩ : ByteArray), 3)) else ((flush_texts.f k (([x6] : List ByteArray))).bind fun t165 => ((flush_texts.f k x1).bind fun t168 => (if t165.length + t168.length < 4398046511104 then ((codec_Encode.f k (t165 ++ t168)).bind fun bt174 => (some (bt174.1, bt174.2))) else (none)))))
def flush_Encode.f (k : Nat) (a0_0 : Int) (l0_1 : List (S47)) (l1 : List ByteArray) : Option (ByteArray × Int) := (view_Encode.f k a0_0 l0_1).bind fun bt159 => (if bt159.2 = 0 then (if (l1.length : Int) > 990 then (some ((⟨#[]⟩ : ByteArray), 3)) else (flush_Encode.l0 k l1 bt159.1 (wrap64 ((bt159.1.size : Int) + 4)) l1 (l1.length : Int) 0)) else (some ((⟨#[]⟩ : ByteArray), 1)))
theorem flush_Encode.mono_l : ∀ k, (∀ y0 y1 y2 y3 y4 y5, LeO (flush_Encode.l0 k y0 y1 y2 y3 y4 y5) (flush_Encode.l0 (k + 1) y0 y1 y2 y3 y4 y5))
 | 0 => fun _ _ _ _ _ _ r h => by simp [flush_Encode.l0] at h
 | k + 1 => by
  have ih0 := flush_Encode.mono_l k
  ·intro y0 y1 y2 y3 y4 y5
   unfold flush_Encode.l0
   repeat' first
   | (with_reducible exact ih0 _ _ _ _ _ _)
   | (with_reducible exact codec_Encode.mono _ _)
   | (with_reducible exact flush_texts.mono _ _)
   | (with_reducible exact view_Encode.mono _ _ _)
   | (with_reducible exact LeO.refl _)
   | (with_reducible exact LeO.none _)
   | (with_reducible refine LeO.ite ?_ ?_)
   | (with_reducible refine LeO.bind ?_ (fun _ => ?_))
   | exact ih0 _ _ _ _ _ _
   | exact codec_Encode.mono _ _
   | exact flush_texts.mono _ _
   | exact view_Encode.mono _ _ _
   | exact LeO.none _
   | refine LeO.ite ?_ ?_
   | refine LeO.bind ?_ (fun _ => ?_)
theorem flush_Encode.mono : ∀ a0 a1 a2 k, LeO (flush_Encode.f k a0 a1 a2) (flush_Encode.f (k + 1) a0 a1 a2) := by
 intro a0 a1 a2 k
 have ih0 := flush_Encode.mono_l k
 unfold flush_Encode.f
 repeat' first
   | (with_reducible exact ih0 _ _ _ _ _ _)
   | (with_reducible exact codec_Encode.mono _ _)
   | (with_reducible exact flush_texts.mono _ _)
   | (with_reducible exact view_Encode.mono _ _ _)
   | (with_reducible exact LeO.refl _)
   | (with_reducible exact LeO.none _)
   | (with_reducible refine LeO.ite ?_ ?_)
   | (with_reducible refine LeO.bind ?_ (fun _ => ?_))
   | exact ih0 _ _ _ _ _ _
   | exact codec_Encode.mono _ _
   | exact flush_texts.mono _ _
   | exact view_Encode.mono _ _ _
   | exact LeO.none _
   | refine LeO.ite ?_ ?_
   | refine LeO.bind ?_ (fun _ => ?_)
set_option maxHeartbeats 8000000 in
set_option maxRecDepth 100000 in
theorem flush_Encode.calls (k : Nat) (a0_0 : Int) (A0_1 : Option Addr) (c0_1 : Nat) (l0_1 : List (S47)) (A1 : Option Addr) (c1 : Nat) (l1 : List ByteArray) (r1 : ByteArray) (r2 : Int) (w : World) (hr0_1 : Kd.C k47 w A0_1 l0_1.length l0_1) (hc0_1 : l0_1.length ≤ c0_1) (hr1 : Kd.C Kd.string w A1 l1.length l1) (hc1 : l1.length ≤ c1) (HT_ : TabOk w) (h : flush_Encode.f k a0_0 l0_1 l1 = some (r1, r2)) :
  Calls Tryd.prog 16 #[.agg #[.int .i64 a0_0, .slice A0_1 l0_1.length c0_1], .slice A1 l1.length c1] w fun e w' => e = .returned (.tuple #[.string r1, .int .i64 r2]) ∧ Below w.heap.size w w' := by
 have HT := Aside0.mk HT_
 clear HT_
 have hu35 := Tryd.underlying35
 have HR0_1 := Aside0.mk hr0_1
 have HC0_1 := Aside0.mk hc0_1
 clear hr0_1 hc0_1
 have HR1 := Aside0.mk hr1
 have HC1 := Aside0.mk hc1
 clear hr1 hc1
 have HB := Aside0.mk (Below.refl w.heap.size w)
 have H : ((view_Encode.f k a0_0 l0_1).bind fun bt159 => (if bt159.2 = 0 then (if (l1.length : Int) > 990 then (some ((⟨#[]⟩ : ByteArray), 3)) else (flush_Encode.l0 k l1 bt159.1 (wrap64 ((bt159.1.size : Int) + 4)) l1 (l1.length : Int) 0)) else (some ((⟨#[]⟩ : ByteArray), 1)))) = some (r1, r2) := h
 clear h
 replace H := Option.bind_eq_some_iff.mp H
 obtain ⟨⟨t159, t160⟩, A30, H⟩ := H
 replace H : (if t160 = 0 then (if (l1.length : Int) > 990 then (some ((⟨#[]⟩ : ByteArray), 3)) else (flush_Encode.l0 k l1 t159 (wrap64 ((t159.size : Int) + 4)) l1 (l1.length : Int) 0)) else (some ((⟨#[]⟩ : ByteArray), 1))) = some (r1, r2) := H
 have A3 := Aside0.mk A30
 clear A30
 by_cases c4 : t160 = 0; rotate_left
 ·rw [if_neg c4] at H
  have aj : (t160 == 0) = false := beq_eq_false_iff_ne.mpr c4
  have ak : (t160 != 0) = true := bne_iff_ne.mpr c4
  simp only [Option.some.injEq, Prod.mk.injEq] at H
  obtain ⟨rfl, rfl⟩ := H
  go_enter Tryd.func16, Tryd.ntmps16
  go_wp2_with (first | ((with_reducible refine gate_dst (N := 2) rfl ?_); refine box_event ?hg (N := 2) ?hd (cs := #[.int .i64 a0_0, .slice A0_1 l0_1.length c0_1]) (t := 35) ?hr ?_; (case hd => rfl); (case hg => rfl); (case hr => first | (go_simp; done) | (go_simp; rfl)); intro ac hg w29 hbox hb; have n0_ := Aside0.mk (below_step bw hb); have n1_ := Aside0.mk (hbox); have n2_ := Aside0.mk ((g1 hg bw : w.heap.size ≤ ac)); have n3_ := Aside0.mk ((g1 hg bw : w.heap.size ≤ ac)); clear HB; have HB := n0_; have aa := n1_; have ah := n2_; have ai := n3_; clear n0_ n1_ n2_ n3_; clear hb hbox hg; obtain ⟨hcz30_0, hcz30_1, hfz30_0, hfz30_1⟩ := bx2 aa.out) | ((with_reducible refine gate_callee (f := 20) rfl ?_); refine goesL_ (some 13) rfl rfl Tryd.func20 (by kernel_rfl) rfl #[.agg #[.int .i64 a0_0, .slice A0_1 l0_1.length c0_1]] rfl am ?_; (with_reducible refine (view_Encode.calls k a0_0 _ _ l0_1 t159 t160 _ ?side1 ?side2 tbk A3.out).mono ?_); (case side1 => repeat (first | exact (Kd.C_below HR0_1.out HB.out) | (with_reducible refine Kd.C_alloc ?_ _) | (with_reducible refine Kd.C_drewN ?_ _) | (with_reducible refine Kd.C_drew ?_))); (case side2 => exact HC0_1.out); rintro e w31 ⟨rfl, hb⟩; refine ⟨_, rfl, ?_⟩; have n0_ := Aside0.mk (nb aa.out hb); have n1_ := Aside0.mk (below_step bw hb); clear aa; clear HB; have aa := n0_; have HB := n1_; clear n0_ n1_; (try clear hb)))
  go_ret2
  exact ⟨er, bw⟩
 rw [if_pos c4] at H
 have aj : (t160 == 0) = true := beq_iff_eq.mpr c4
 have ak : (t160 != 0) = false := bne_eq_false_iff_eq.mpr c4
 clear c4
 by_cases c5 : (l1.length : Int) > 990
 ·rw [if_pos c5] at H
  have al : decide (990 < (l1.length : Int)) = true := decide_eq_true c5
  have an : decide (990 < l1.length) = true := decide_eq_true (by omega)
  clear c5
  simp only [Option.some.injEq, Prod.mk.injEq] at H
  obtain ⟨rfl, rfl⟩ := H
  go_enter Tryd.func16, Tryd.ntmps16
  go_wp2_with (first | ((with_reducible refine gate_dst (N := 2) rfl ?_); refine box_event ?hg (N := 2) ?hd (cs := #[.int .i64 a0_0, .slice A0_1 l0_1.length c0_1]) (t := 35) ?hr ?_; (case hd => rfl); (case hg => rfl); (case hr => first | (go_simp; done) | (go_simp; rfl)); intro ac hg w6 hbox hb; have n0_ := Aside0.mk (below_step bw hb); have n1_ := Aside0.mk (hbox); have n2_ := Aside0.mk ((g1 hg bw : w.heap.size ≤ ac)); have n3_ := Aside0.mk ((g1 hg bw : w.heap.size ≤ ac)); clear HB; have HB := n0_; have aa := n1_; have ah := n2_; have ai := n3_; clear n0_ n1_ n2_ n3_; clear hb hbox hg; obtain ⟨hcz7_0, hcz7_1, hfz7_0, hfz7_1⟩ := bx2 aa.out) | ((with_reducible refine gate_callee (f := 20) rfl ?_); refine goesL_ (some 13) rfl rfl Tryd.func20 (by kernel_rfl) rfl #[.agg #[.int .i64 a0_0, .slice A0_1 l0_1.length c0_1]] rfl am ?_; (with_reducible refine (view_Encode.calls k a0_0 _ _ l0_1 t159 t160 _ ?side1 ?side2 tbk A3.out).mono ?_); (case side1 => repeat (first | exact (Kd.C_below HR0_1.out HB.out) | (with_reducible refine Kd.C_alloc ?_ _) | (with_reducible refine Kd.C_drewN ?_ _) | (with_reducible refine Kd.C_drew ?_))); (case side2 => exact HC0_1.out); rintro e w8 ⟨rfl, hb⟩; refine ⟨_, rfl, ?_⟩; have n0_ := Aside0.mk (nb aa.out hb); have n1_ := Aside0.mk (below_step bw hb); clear aa; clear HB; have aa := n0_; have HB := n1_; clear n0_ n1_; (try clear hb)))
  go_ret2
  exact ⟨er, bw⟩
 rw [if_neg c5] at H
 have al : decide (990 < (l1.length : Int)) = false := decide_eq_false c5
 have an : decide (990 < l1.length) = false := decide_eq_false (by omega)
 clear c5
 have H' := Aside0.mk H
 clear H
 go_enter Tryd.func16, Tryd.ntmps16
 go_wp2_with (first | ((with_reducible refine gate_dst (N := 2) rfl ?_); refine box_event ?hg (N := 2) ?hd (cs := #[.int .i64 a0_0, .slice A0_1 l0_1.length c0_1]) (t := 35) ?hr ?_; (case hd => rfl); (case hg => rfl); (case hr => first | (go_simp; done) | (go_simp; rfl)); intro ac hg w9 hbox hb; have n0_ := Aside0.mk (below_step bw hb); have n1_ := Aside0.mk (hbox); have n2_ := Aside0.mk ((g1 hg bw : w.heap.size ≤ ac)); have n3_ := Aside0.mk ((g1 hg bw : w.heap.size ≤ ac)); clear HB; have HB := n0_; have aa := n1_; have ah := n2_; have ai := n3_; clear n0_ n1_ n2_ n3_; clear hb hbox hg; obtain ⟨hcz10_0, hcz10_1, hfz10_0, hfz10_1⟩ := bx2 aa.out) | ((with_reducible refine gate_callee (f := 20) rfl ?_); refine goesL_ (some 13) rfl rfl Tryd.func20 (by kernel_rfl) rfl #[.agg #[.int .i64 a0_0, .slice A0_1 l0_1.length c0_1]] rfl am ?_; (with_reducible refine (view_Encode.calls k a0_0 _ _ l0_1 t159 t160 _ ?side1 ?side2 tbk A3.out).mono ?_); (case side1 => repeat (first | exact (Kd.C_below HR0_1.out HB.out) | (with_reducible refine Kd.C_alloc ?_ _) | (with_reducible refine Kd.C_drewN ?_ _) | (with_reducible refine Kd.C_drew ?_))); (case side2 => exact HC0_1.out); rintro e w11 ⟨rfl, hb⟩; refine ⟨_, rfl, ?_⟩; have n0_ := Aside0.mk (nb aa.out hb); have n1_ := Aside0.mk (below_step bw hb); clear aa; clear HB; have aa := n0_; have HB := n1_; clear n0_ n1_; (try clear hb)))
 go_loopg [8, 26] k (fun kq v8 v26 w' => ∃ (x8_1 : Int) (x26_1 : Int), v8 = .int .i64 x8_1 ∧ v26 = .int .i64 x26_1 ∧ Aside0 (flush_Encode.l0 kq l1 t159 x8_1 l1 (l1.length : Int) x26_1 = some (r1, r2)) ∧ Aside0 (kq ≤ k) ∧ Aside0 (w'.heap[ac]? = some (.cells #[.int .i64 a0_0, (.slice A0_1 l0_1.length c0_1)] 35 (0, 0))) ∧ Aside0 (Below w.heap.size w w'))
 case atStart => exact ⟨(wrap64 ((t159.size : Int) + 4)), (0), (by first | rfl | (simp; done) | (simp [*]; done)), (by first | rfl | (simp; done) | (simp [*]; done)), H', ⟨Nat.le_refl _⟩, ⟨by (with_reducible repeat (first | refine blk_drewN ?_ _ | refine blk_drew ?_ | refine blk_alloc ?_ _)); exact aa.out⟩, ⟨bw⟩⟩
 case round =>
  clear H'
  try clear c1
  try clear c2
  try clear p2
  try clear c4
  try clear aj
  try clear ak
  try clear c5
  try clear al
  try clear an
  try clear p6
  try clear hcz10_0 hcz10_1 hcz7_0 hcz7_1
  try clear hfz10_0 hfz10_1 hfz7_0 hfz7_1
  obtain ⟨x8_1, x26_1, rfl, rfl, HA, HK1, aa, HB⟩ := hrel
  cases gk with
  | zero => exact absurd HA.out (by simp [flush_Encode.l0])
  | succ k1 =>
   have H := HA.out
   clear HA
   simp only [flush_Encode.l0] at H
   by_cases c12 : x26_1 < (l1.length : Int)
   ·rw [if_pos c12] at H
    have c12b0 : decide (x26_1 < (l1.length : Int)) = true := decide_eq_true c12
    clear c12
    by_cases c13 : 0 ≤ x26_1; rotate_left
    ·rw [if_neg c13] at H
     exact absurd H (by simp)
    rw [if_pos c13] at H
    have c13b0 : decide (0 ≤ x26_1) = true := decide_eq_true c13
    clear c13
    by_cases c14 : x26_1 < (l1.length : Int); rotate_left
    ·rw [if_neg c14] at H
     exact absurd H (by simp)
    rw [if_pos c14] at H
    have c14b0 : decide (x26_1 < (l1.length : Int)) = true := decide_eq_true c14
    clear c14
    have H' := Aside0.mk H
    clear H
    have p161 : 0 ≤ (x26_1 : Int) := od
    have q161 : x26_1 < (l1.length : Int) := od
    obtain ⟨ad161, e161, ag⟩ := Kd.at_string HR1.out x26_1 p161 q161
    cases e161
    replace ag := (HB.out.cell (World.block_lt_of_cell? w _ ag)).trans ag
    replace p161 := eq_true p161
    replace q161 := eq_true q161
    go_wp2
    go_roundg k1
    case measure => have := HK1.out; omega
    case rel => exact ⟨(wrap64 (x8_1 + (wrap64 (((rdOf ByteArray.empty l1 x26_1).size : Int) + 4)))), (wrap64 (x26_1 + 1)), (by first | rfl | (simp; done) | (simp [*]; done)), (by first | rfl | (simp; done) | (simp [*]; done)), H', ⟨by have := HK1.out; omega⟩, ⟨by (with_reducible repeat (first | refine blk_drewN ?_ _ | refine blk_drew ?_ | refine blk_alloc ?_ _)); exact aa.out⟩, ⟨bw⟩⟩
   rw [if_neg c12] at H
   have c12b0 : decide (x26_1 < (l1.length : Int)) = false := decide_eq_false c12
   clear c12
   by_cases c15 : x8_1 > 100000
   ·rw [if_pos c15] at H
    have c15b0 : decide (100000 < x8_1) = true := decide_eq_true c15
    clear c15
    simp only [Option.some.injEq, Prod.mk.injEq] at H
    obtain ⟨rfl, rfl⟩ := H
    go_wp2
    go_ret2
    exact ⟨er, bw⟩
   rw [if_neg c15] at H
   have c15b0 : decide (100000 < x8_1) = false := decide_eq_false c15
   clear c15
   obtain ⟨y162, hy162⟩ : ∃ y_ : List ByteArray, y_ = (([t159] : List ByteArray)) := ⟨_, rfl⟩
   replace H : ((flush_texts.f k1 y162).bind fun t165 => ((flush_texts.f k1 l1).bind fun t168 => (if t165.length + t168.length < 4398046511104 then ((codec_Encode.f k1 (t165 ++ t168)).bind fun bt174 => (some (bt174.1, bt174.2))) else (none)))) = some (r1, r2) := by first | (rw [hy162]; with_reducible exact H) | (have H2_ := (Option.bind_some _ _).symm.trans H; rw [hy162]; with_reducible exact H2_) | (have H2_ := (Option.bind_some _ _).symm.trans H; with_reducible exact H2_) | with_reducible exact H | (rw [hy162]; exact H) | exact H
   have Ny162 := Aside0.mk hy162
   clear hy162
   replace H := Option.bind_eq_some_iff.mp H
   obtain ⟨t165, A160, H⟩ := H
   replace H : ((flush_texts.f k1 l1).bind fun t168 => (if t165.length + t168.length < 4398046511104 then ((codec_Encode.f k1 (t165 ++ t168)).bind fun bt174 => (some (bt174.1, bt174.2))) else (none))) = some (r1, r2) := H
   have A16 := Aside0.mk A160
   clear A160
   replace H := Option.bind_eq_some_iff.mp H
   obtain ⟨t168, A170, H⟩ := H
   replace H : (if t165.length + t168.length < 4398046511104 then ((codec_Encode.f k1 (t165 ++ t168)).bind fun bt174 => (some (bt174.1, bt174.2))) else (none)) = some (r1, r2) := H
   have A17 := Aside0.mk A170
   clear A170
   by_cases c18 : t165.length + t168.length < 4398046511104; rotate_left
   ·rw [if_neg c18] at H
    exact absurd H (by simp)
   rw [if_pos c18] at H
   have LMc18 := Aside0.mk c18
   clear c18
   obtain ⟨y171, hy171⟩ : ∃ y_ : List (S58), y_ = (t165 ++ t168) := ⟨_, rfl⟩
   replace H : ((codec_Encode.f k1 y171).bind fun bt174 => (some (bt174.1, bt174.2))) = some (r1, r2) := by first | (rw [hy171]; with_reducible exact H) | (have H2_ := (Option.bind_some _ _).symm.trans H; rw [hy171]; with_reducible exact H2_) | (have H2_ := (Option.bind_some _ _).symm.trans H; with_reducible exact H2_) | with_reducible exact H | (rw [hy171]; exact H) | exact H
   have Ny171 := Aside0.mk hy171
   clear hy171
   replace H := Option.bind_eq_some_iff.mp H
   obtain ⟨⟨t174, t175⟩, A190, H⟩ := H
   replace H : (some (t174, t175)) = some (r1, r2) := H
   have A19 := Aside0.mk A190
   clear A190
   simp only [Option.some.injEq, Prod.mk.injEq] at H
   obtain ⟨rfl, rfl⟩ := H
   go_wp2_with (first | ((with_reducible refine gate_dst (N := 39) rfl ?_); refine Kd.R_lit Kd.string _ 9 ?hg (N := 39) ?hd (xs := ([t159] : List ByteArray)) (inner := [.string t159]) (ok := fun _ => True) (okp := fun _ => True) ?hr ?hp (fun _ hk => hk) trivial (Below.refl _ _) (Nat.le_refl _) (by simp) ?_; (case hd => rfl); (case hg => rfl); (case hr => first | (go_simp; done) | (go_simp; rfl)); (case hp => exact (Reps.one (show Kd.M Kd.string _ _ _ t159 [.string t159] from rfl) (Reps.none _ _))); intro v163 w20 ho21 hb hg_ hnew_; clear hg_ hnew_; (first | rw [← Ny162.out] at ho21 | (simp only [Int.reduceToNat] at ho21; rw [← Ny162.out] at ho21)); have n0_ := Aside0.mk (Kd.R_lower ho21 (below_size bw)); have n1_ := Aside0.mk (nb aa.out hb); have n2_ := Aside0.mk (below_step bw hb); clear aa; clear HB; have ab := n0_; have aa := n1_; have HB := n2_; clear n0_ n1_ n2_; clear hb ho21; obtain ⟨Ao22, co22, eo22⟩ := Kd.R_slice ab.out; subst eo22) | ((with_reducible refine gate_callee (f := 22) rfl ?_); refine goesL_ (some 40) rfl rfl Tryd.func22 (by kernel_rfl) rfl #[.slice Ao22 y162.length co22] rfl am ?_; (with_reducible refine (flush_texts.calls k1 _ _ y162 t165 _ ?side1 ?side2 A16.out).mono ?_); (case side1 => repeat (first | exact (Kd.R_reads' ab.out).2.2 | (with_reducible refine Kd.C_alloc ?_ _) | (with_reducible refine Kd.C_drewN ?_ _) | (with_reducible refine Kd.C_drew ?_))); (case side2 => exact (Kd.R_reads' ab.out).2.1); rintro e w23 ⟨v166, rfl, ho0, hb⟩; refine ⟨_, rfl, ?_⟩; have n0_ := Aside0.mk (Kd.R_below (by (with_reducible repeat (first | apply Kd.R_alloc | apply Kd.R_drewN | apply Kd.R_drew)); exact ab.out) hb); have n1_ := Aside0.mk (Kd.R_lower ho0 (below_size bw)); have n2_ := Aside0.mk (nb aa.out hb); have n3_ := Aside0.mk (below_step bw hb); clear ab; clear aa; clear HB; have ab := n0_; have ae := n1_; have aa := n2_; have HB := n3_; clear n0_ n1_ n2_ n3_; (try clear hb); (try clear ho0)) | ((with_reducible refine gate_callee (f := 22) rfl ?_); refine goesL_ (some 42) rfl rfl Tryd.func22 (by kernel_rfl) rfl #[.slice A1 l1.length c1] rfl am ?_; (with_reducible refine (flush_texts.calls k1 _ _ l1 t168 _ ?side1 ?side2 A17.out).mono ?_); (case side1 => repeat (first | exact (Kd.C_below HR1.out HB.out) | (with_reducible refine Kd.C_alloc ?_ _) | (with_reducible refine Kd.C_drewN ?_ _) | (with_reducible refine Kd.C_drew ?_))); (case side2 => exact HC1.out); rintro e w24 ⟨v169, rfl, ho0, hb⟩; refine ⟨_, rfl, ?_⟩; have n0_ := Aside0.mk (Kd.R_below (by (with_reducible repeat (first | apply Kd.R_alloc | apply Kd.R_drewN | apply Kd.R_drew)); exact ab.out) hb); have n1_ := Aside0.mk (Kd.R_elder' (by (with_reducible repeat (first | apply Kd.R_alloc | apply Kd.R_drewN | apply Kd.R_drew)); exact ae.out) (Kd.R_base ho0) hb); have n2_ := Aside0.mk (Kd.R_lower (Kd.R_new' ho0 (Kd.R_lt (by (with_reducible repeat (first | apply Kd.R_alloc | apply Kd.R_drewN | apply Kd.R_drew)); exact ae.out))) (below_size bw)); have n3_ := Aside0.mk (nb aa.out hb); have n4_ := Aside0.mk (below_step bw hb); clear ab; clear ae; clear aa; clear HB; have ab := n0_; have ae := n1_; have ad := n2_; have aa := n3_; have HB := n4_; clear n0_ n1_ n2_ n3_ n4_; (try clear hb); (try clear ho0); obtain ⟨Ao26, co26, eo26⟩ := Kd.R_slice ad.out; subst eo26) | ((with_reducible refine gate_builtin (b := .append) (xs := #[.tmp 40, .tmp 42]) rfl ?_); at_builtin; refine Kd.R_append_rows k58 (w0 := w) w.heap.size rfl (.tmp 40) (.tmp 42) 50 58 (.agg #[(.int .i64 0), (.int .u64 0), (.string ⟨#[]⟩)]) 32 rfl Tryd.underlying50 info58 rfl (by decide) (by omega) v166 t165 t168 _ _ _ (fun k_ => some k_ ≠ (.slice Ao26 t168.length co26 : Value).ownBlock) (fun _ => False) rfl rfl ?aO ?aR (fun _ _ h => h) (fun _ h => h.elim) ?aF ?aB ?aS ?aL ?_; (case aR => repeat (first | exact (Kd.R_reads' ad.out).2.2 | (with_reducible refine Kd.C_alloc ?_ _) | (with_reducible refine Kd.C_drewN ?_ _) | (with_reducible refine Kd.C_drew ?_))); (case aB => exact bw); (case aF => exact (fun k_ hk => Kd.fresh' (Kd.R_lt (by (with_reducible repeat (first | apply Kd.R_alloc | apply Kd.R_drewN | apply Kd.R_drew)); exact ad.out)) k_ hk)); (case aO => exact (by (with_reducible repeat (first | apply Kd.R_alloc | apply Kd.R_drewN | apply Kd.R_drew)); exact Kd.R_mono ae.out (fun _ hk => hk.2))); (case aS => exact (below_size bw)); (case aL => have := LMc18.out; omega); intro v172 w25 ho hb hg hat; rw [← Ny171.out] at ho; have n0_ := Aside0.mk (blk_grown (g := ac) (o := .cells #[.int .i64 a0_0, .slice A0_1 l0_1.length c0_1] 35 (0, 0)) (bk aa.out) hg (Kd.R_ne ae.out aa.out (by decide))); have n1_ := Aside0.mk (Kd.R_over' (by (with_reducible repeat (first | apply Kd.R_alloc | apply Kd.R_drewN | apply Kd.R_drew)); exact ab.out) (Kd.R_typed (by (with_reducible repeat (first | apply Kd.R_alloc | apply Kd.R_drewN | apply Kd.R_drew)); exact ae.out)) (by decide) hg); have n2_ := Aside0.mk (Kd.R_after (ok := (fun _ => True)) (by (with_reducible repeat (first | apply Kd.R_alloc | apply Kd.R_drewN | apply Kd.R_drew)); exact ad.out) hg hat); have n3_ := Aside0.mk (hb); have n4_ := Aside0.mk (ho); clear aa; clear ab; clear ad; clear HB; clear ae; have aa := n0_; have ab := n1_; have ad := n2_; have HB := n3_; have af := n4_; clear n0_ n1_ n2_ n3_ n4_; clear ho hb hg hat; obtain ⟨Ao27, co27, eo27⟩ := Kd.R_slice af.out; subst eo27) | ((with_reducible refine gate_callee (f := 21) rfl ?_); refine goesL_ (some 44) rfl rfl Tryd.func21 (by kernel_rfl) rfl #[.slice Ao27 y171.length co27] rfl am ?_; (with_reducible refine (codec_Encode.calls k1 _ _ y171 t174 t175 _ ?side1 ?side2 tbk A19.out).mono ?_); (case side1 => repeat (first | exact (Kd.R_reads' af.out).2.2 | (with_reducible refine Kd.C_alloc ?_ _) | (with_reducible refine Kd.C_drewN ?_ _) | (with_reducible refine Kd.C_drew ?_))); (case side2 => exact (Kd.R_reads' af.out).2.1); rintro e w28 ⟨rfl, hb⟩; refine ⟨_, rfl, ?_⟩; have n0_ := Aside0.mk (Kd.R_below (by (with_reducible repeat (first | apply Kd.R_alloc | apply Kd.R_drewN | apply Kd.R_drew)); exact ab.out) hb); have n1_ := Aside0.mk (Kd.R_below (by (with_reducible repeat (first | apply Kd.R_alloc | apply Kd.R_drewN | apply Kd.R_drew)); exact ad.out) hb); have n2_ := Aside0.mk (Kd.R_below (by (with_reducible repeat (first | apply Kd.R_alloc | apply Kd.R_drewN | apply Kd.R_drew)); exact af.out) hb); have n3_ := Aside0.mk (nb aa.out hb); have n4_ := Aside0.mk (below_step bw hb); clear ab; clear ad; clear af; clear aa; clear HB; have ab := n0_; have ad := n1_; have af := n2_; have aa := n3_; have HB := n4_; clear n0_ n1_ n2_ n3_ n4_; (try clear hb)))
   go_ret2
   exact ⟨er, bw⟩

-- NOT PRINTED: function 38 (bytealg_IndexByteString)

/-! ### stringslite_IndexByte: function 35 -/
def stringslite_IndexByte.f (a0 : ByteArray) (a1 : Int) : Option (Int) := some (Lib.indexByte a0.data.toList a1.toNat.toUInt8)
set_option maxHeartbeats 1000000 in
set_option maxRecDepth 100000 in
theorem stringslite_IndexByte.calls (a0 : ByteArray) (a1 : Int) (r : Int) (w : World) (h : stringslite_IndexByte.f a0 a1 = some r) :
  Calls Tryd.prog 35 #[.string a0, .int .u8 a1] w fun e w' => e = .returned (.int .i64 r) ∧ Drawn0 w w' := by
 obtain rfl := Option.some.inj h
 go_enter Tryd.func35, Tryd.ntmps35
 go_wp2
 rw [run_callFunc_extern Tryd.func38 (by kernel_rfl) (by kernel_rfl) (by kernel_rfl) (e := Extern.BytealgIndexByte.indexByte) (by kernel_rfl), Lib.run_indexByteString]
 simp only [Result.andThen]
 rw [Oper.upon_value]
 go_wp2
 go_ret
 exact ⟨rfl, Drawn0.refl _⟩

/-! ### strings_IndexByte: function 28 -/
def strings_IndexByte.f (a0 : ByteArray) (a1 : Int) : Option (Int) := (stringslite_IndexByte.f a0 a1).bind fun t176 => (some t176)
set_option maxHeartbeats 8000000 in
set_option maxRecDepth 100000 in
theorem strings_IndexByte.calls (a0 : ByteArray) (a1 : Int) (r : Int) (w : World) (h : strings_IndexByte.f a0 a1 = some r) :
  Calls Tryd.prog 28 #[.string a0, .int .u8 a1] w fun e w' => e = .returned (.int .i64 r) ∧ Drawn0 w w' := by
 have H : ((stringslite_IndexByte.f a0 a1).bind fun t176 => (some t176)) = some r := h
 clear h
 replace H := Option.bind_eq_some_iff.mp H
 obtain ⟨t176, A30, H⟩ := H
 replace H : (some t176) = some r := H
 have A3 := Aside0.mk A30
 clear A30
 obtain rfl := Option.some.inj H
 go_enter Tryd.func28, Tryd.ntmps28
 go_wp2_with (first | ((with_reducible refine gate_callee (f := 35) rfl ?_); refine goesL_ (some 7) rfl rfl Tryd.func35 (by kernel_rfl) rfl #[.string a0, .int .u8 a1] rfl am ?_; (with_reducible refine (stringslite_IndexByte.calls a0 a1 t176 _ A3.out).mono ?_); rintro e w' ⟨rfl, ⟨nd, rfl⟩⟩; refine ⟨_, rfl, ?_⟩))
 go_ret
 exact ⟨by first | rfl | (simp; done) | (simp [*]; done), by repeat (first | exact Drawn0.refl _ | apply Drawn0.step)⟩

-- NOT PRINTED: function 40 (bytealg_IndexString)

-- NOT PRINTED: function 41 (bytealg_Cutover)

-- NOT PRINTED: function 43 (bytealg_hashStr_string)

-- NOT PRINTED: function 42 (bytealg_IndexRabinKarp_string)

/-! ### stringslite_Index: function 39 -/
/-- At a text of one byte. -/
def oneByte (s : ByteArray) : Option UInt8 := match s.data.toList with | [c] => some c | _ => none
theorem oneByte_eq {s : ByteArray} {c : UInt8} (h : oneByte s = some c) : s = ⟨#[c]⟩ := by
 obtain ⟨⟨l⟩⟩ := s
 unfold oneByte at h
 match l, h with
 | [d], h => cases h; rfl
def stringslite_Index.f (a0 : ByteArray) (a1 : ByteArray) : Option (Int) := (oneByte a1).bind fun c => some (Lib.indexByte a0.data.toList c)
set_option maxHeartbeats 1000000 in
set_option maxRecDepth 100000 in
theorem stringslite_Index.calls (a0 : ByteArray) (a1 : ByteArray) (r : Int) (w : World) (h : stringslite_Index.f a0 a1 = some r) :
  Calls Tryd.prog 39 #[.string a0, .string a1] w fun e w' => e = .returned (.int .i64 r) ∧ Drawn0 w w' := by
 unfold stringslite_Index.f at h
 obtain ⟨c, hc, h⟩ := Option.bind_eq_some_iff.mp h
 obtain rfl := oneByte_eq hc
 obtain rfl := Option.some.inj h
 clear h hc
 go_enter Tryd.func39, Tryd.ntmps39
 go_wp2_with (go_at_call 35; refine (stringslite_IndexByte.calls _ _ _ _ rfl).mono ?_; rintro e w' ⟨rfl, ⟨n_, rfl⟩⟩)
 ·have h : ([c] == a0.toList) = true := by assumption
  go_ret
  refine ⟨?_, Drawn0.refl _⟩
  have e : a0.data.toList = [c] := by rw [← Lib.toList_data]; exact (beq_iff_eq.1 h).symm
  rw [e]
  simp [Lib.indexByte]
 ·go_ret
  exact ⟨rfl, ⟨_, rfl⟩⟩

/-! ### stringslite_Cut: function 37 -/
def stringslite_Cut.f (a0 : ByteArray) (a1 : ByteArray) : Option (ByteArray × ByteArray × Bool) := (stringslite_Index.f a0 a1).bind fun t177 => (if t177 ≥ 0 then (if 0 ≤ t177 then (if t177 ≤ (a0.size : Int) then (if 0 ≤ (wrap64 (t177 + (a1.size : Int))) then (if (wrap64 (t177 + (a1.size : Int))) ≤ (a0.size : Int) then (some (a0.extract 0 (t177 : Int).toNat, a0.extract ((wrap64 (t177 + (a1.size : Int))) : Int).toNat a0.size, true)) else (none)) else (none)) else (none)) else (none)) else (some (a0, (⟨#[]⟩ : ByteArray), false)))
set_option maxHeartbeats 8000000 in
set_option maxRecDepth 100000 in
theorem stringslite_Cut.calls (a0 : ByteArray) (a1 : ByteArray) (r1 : ByteArray) (r2 : ByteArray) (r3 : Bool) (w : World) (h : stringslite_Cut.f a0 a1 = some (r1, r2, r3)) :
  Calls Tryd.prog 37 #[.string a0, .string a1] w fun e w' => e = .returned (.tuple #[.string r1, .string r2, .bool r3]) ∧ Drawn0 w w' := by
 have H : ((stringslite_Index.f a0 a1).bind fun t177 => (if t177 ≥ 0 then (if 0 ≤ t177 then (if t177 ≤ (a0.size : Int) then (if 0 ≤ (wrap64 (t177 + (a1.size : Int))) then (if (wrap64 (t177 + (a1.size : Int))) ≤ (a0.size : Int) then (some (a0.extract 0 (t177 : Int).toNat, a0.extract ((wrap64 (t177 + (a1.size : Int))) : Int).toNat a0.size, true)) else (none)) else (none)) else (none)) else (none)) else (some (a0, (⟨#[]⟩ : ByteArray), false)))) = some (r1, r2, r3) := h
 clear h
 replace H := Option.bind_eq_some_iff.mp H
 obtain ⟨t177, A30, H⟩ := H
 replace H : (if t177 ≥ 0 then (if 0 ≤ t177 then (if t177 ≤ (a0.size : Int) then (if 0 ≤ (wrap64 (t177 + (a1.size : Int))) then (if (wrap64 (t177 + (a1.size : Int))) ≤ (a0.size : Int) then (some (a0.extract 0 (t177 : Int).toNat, a0.extract ((wrap64 (t177 + (a1.size : Int))) : Int).toNat a0.size, true)) else (none)) else (none)) else (none)) else (none)) else (some (a0, (⟨#[]⟩ : ByteArray), false))) = some (r1, r2, r3) := H
 have A3 := Aside0.mk A30
 clear A30
 by_cases c4 : t177 ≥ 0; rotate_left
 ·rw [if_neg c4] at H
  have c4b0 : decide (0 ≤ t177) = false := decide_eq_false c4
  clear c4
  simp only [Option.some.injEq, Prod.mk.injEq] at H
  obtain ⟨rfl, rfl, rfl⟩ := H
  go_enter Tryd.func37, Tryd.ntmps37
  go_wp2_with (first | (go_at_call 39; (with_reducible refine (stringslite_Index.calls a0 a1 t177 _ A3.out).mono ?_); rintro e w' ⟨rfl, ⟨nd, rfl⟩⟩; (try first | exact ⟨rfl, _, World.drewN_drewN _ _ _⟩ | exact ⟨rfl, _, Eq.trans (World.drewN_drewN _ _ _) (congrArg (World.drewN _) (Nat.add_assoc _ _ _))⟩)))
  go_ret3
  exact ⟨by first | rfl | (simp; done) | (simp [*]; done), by repeat (first | exact Drawn0.refl _ | apply Drawn0.step)⟩
 rw [if_pos c4] at H
 have c4b0 : decide (0 ≤ t177) = true := decide_eq_true c4
 clear c4
 by_cases c5 : 0 ≤ t177; rotate_left
 ·rw [if_neg c5] at H
  exact absurd H (by simp)
 rw [if_pos c5] at H
 have c5b0 := eq_true c5
 have c5b1 : decide (0 ≤ t177) = true := decide_eq_true c5
 clear c5
 by_cases c6 : t177 ≤ (a0.size : Int); rotate_left
 ·rw [if_neg c6] at H
  exact absurd H (by simp)
 rw [if_pos c6] at H
 have c6b0 := eq_true c6
 have c6b1 : decide (t177 ≤ (a0.size : Int)) = true := decide_eq_true c6
 clear c6
 obtain ⟨ji7, hji7⟩ : ∃ j_ : Int, (wrap64 (t177 + (a1.size : Int))) = j_ := ⟨_, rfl⟩
 replace H : (if 0 ≤ (ji7) then (if (ji7) ≤ (a0.size : Int) then (some (a0.extract 0 (t177 : Int).toNat, a0.extract ((ji7) : Int).toNat a0.size, true)) else (none)) else (none)) = some (r1, r2, r3) := by first | (rw [hji7] at H; exact H) | (simp only [hji7] at H ⊢; exact H)
 (try rw [hji7] at A3)
 have hji7w : (IntKind.i64.wrap (t177 + (a1.size : Int))) = ji7 := (i64_w _).trans hji7
 by_cases c8 : 0 ≤ (ji7); rotate_left
 ·rw [if_neg c8] at H
  exact absurd H (by simp)
 rw [if_pos c8] at H
 have c8b0 := eq_true c8
 have c8b1 : decide (0 ≤ (ji7)) = true := decide_eq_true c8
 clear c8
 by_cases c9 : (ji7) ≤ (a0.size : Int); rotate_left
 ·rw [if_neg c9] at H
  exact absurd H (by simp)
 rw [if_pos c9] at H
 have c9b0 := eq_true c9
 have c9b1 : decide ((ji7) ≤ (a0.size : Int)) = true := decide_eq_true c9
 clear c9
 simp only [Option.some.injEq, Prod.mk.injEq] at H
 obtain ⟨rfl, rfl, rfl⟩ := H
 go_enter Tryd.func37, Tryd.ntmps37
 go_wp2_with (first | (go_at_call 39; (with_reducible refine (stringslite_Index.calls a0 a1 t177 _ A3.out).mono ?_); rintro e w' ⟨rfl, ⟨nd, rfl⟩⟩; (try first | exact ⟨rfl, _, World.drewN_drewN _ _ _⟩ | exact ⟨rfl, _, Eq.trans (World.drewN_drewN _ _ _) (congrArg (World.drewN _) (Nat.add_assoc _ _ _))⟩)))
 repeat (go_quiet (first | (go_at_call 39; (with_reducible refine (stringslite_Index.calls a0 a1 t177 _ A3.out).mono ?_); rintro e w' ⟨rfl, ⟨nd, rfl⟩⟩; (try first | exact ⟨rfl, _, World.drewN_drewN _ _ _⟩ | exact ⟨rfl, _, Eq.trans (World.drewN_drewN _ _ _) (congrArg (World.drewN _) (Nat.add_assoc _ _ _))⟩))); try go_wp2_with (first | (go_at_call 39; (with_reducible refine (stringslite_Index.calls a0 a1 t177 _ A3.out).mono ?_); rintro e w' ⟨rfl, ⟨nd, rfl⟩⟩; (try first | exact ⟨rfl, _, World.drewN_drewN _ _ _⟩ | exact ⟨rfl, _, Eq.trans (World.drewN_drewN _ _ _) (congrArg (World.drewN _) (Nat.add_assoc _ _ _))⟩))))
 go_ret3
 exact ⟨by first | rfl | (simp; done) | (simp only [← hji7] <;> (first | rfl | simp)) | (simp [*]; done), by repeat (first | exact Drawn0.refl _ | apply Drawn0.step)⟩

/-! ### strings_Cut: function 34 -/
def strings_Cut.f (a0 : ByteArray) (a1 : ByteArray) : Option (ByteArray × ByteArray × Bool) := (stringslite_Cut.f a0 a1).bind fun bt178 => (some (bt178.1, bt178.2.1, bt178.2.2))
set_option maxHeartbeats 8000000 in
set_option maxRecDepth 100000 in
theorem strings_Cut.calls (a0 : ByteArray) (a1 : ByteArray) (r1 : ByteArray) (r2 : ByteArray) (r3 : Bool) (w : World) (h : strings_Cut.f a0 a1 = some (r1, r2, r3)) :
  Calls Tryd.prog 34 #[.string a0, .string a1] w fun e w' => e = .returned (.tuple #[.string r1, .string r2, .bool r3]) ∧ Drawn0 w w' := by
 have H : ((stringslite_Cut.f a0 a1).bind fun bt178 => (some (bt178.1, bt178.2.1, bt178.2.2))) = some (r1, r2, r3) := h
 clear h
 replace H := Option.bind_eq_some_iff.mp H
 obtain ⟨⟨t178, t179, t180⟩, A30, H⟩ := H
 replace H : (some (t178, t179, t180)) = some (r1, r2, r3) := H
 have A3 := Aside0.mk A30
 clear A30
 simp only [Option.some.injEq, Prod.mk.injEq] at H
 obtain ⟨rfl, rfl, rfl⟩ := H
 go_enter Tryd.func34, Tryd.ntmps34
 go_wp2_with (first | ((with_reducible refine gate_callee (f := 37) rfl ?_); refine goesL_ (some 9) rfl rfl Tryd.func37 (by kernel_rfl) rfl #[.string a0, .string a1] rfl am ?_; (with_reducible refine (stringslite_Cut.calls a0 a1 t178 t179 t180 _ A3.out).mono ?_); rintro e w' ⟨rfl, ⟨nd, rfl⟩⟩; refine ⟨_, rfl, ?_⟩))
 go_ret3
 exact ⟨by first | rfl | (simp; done) | (simp [*]; done), by repeat (first | exact Drawn0.refl _ | apply Drawn0.step)⟩

/-! ### codec_right: function 27 -/
/-- Is a byte one of the kinds' letters? -/
def letB (c : UInt8) : Bool := !decide (Lib.indexByte [98, 119, 108, 116] c < 0)
theorem below_convR (w : World) (e : TypeId) (s : ByteArray) : Below w.heap.size w (Lib.bytesWorld w e s) :=
 ⟨rfl, rfl, rfl, by rw [Lib.bytesWorld_size]; omega, fun i hi => Lib.bytesWorld_at_old w e s i hi⟩
theorem take_snocR (l : List UInt8) (k : Nat) (h : k < l.length) : l.take (k + 1) = l.take k ++ [l.getD k 0] := by
 rw [List.take_succ_eq_append_getElem h]
 simp [List.getD_eq_getElem?_getD, List.getElem?_eq_getElem h]
theorem toNat_toUInt8 (c : UInt8) : ((c.toNat : Nat) : Int).toNat.toUInt8 = c := by
 rw [show ((c.toNat : Nat) : Int).toNat = c.toNat from rfl]
 simp
def codec_right.f (a0 : ByteArray) : Option (Bool) := (strings_Cut.f a0 (⟨#[42]⟩ : ByteArray)).bind fun b =>
 if b.1.size + b.2.1.size ≤ 9223372036854775807 then some ((b.1 ++ b.2.1).data.toList.all letB && (!b.2.2 || (b.2.1.toList != ([] : List UInt8)))) else none
set_option maxHeartbeats 4000000 in
set_option maxRecDepth 100000 in
theorem codec_right.calls (a0 : ByteArray) (r : Bool) (w : World) (h : codec_right.f a0 = some r) :
  Calls Tryd.prog 27 #[.string a0] w fun e w' => e = .returned (.bool r) ∧ Below w.heap.size w w' := by
 unfold codec_right.f at h
 obtain ⟨⟨t1, t2, t3⟩, A20, h⟩ := Option.bind_eq_some_iff.mp h
 have A2 := Aside0.mk A20
 clear A20
 replace h : (if t1.size + t2.size ≤ 9223372036854775807 then some ((t1 ++ t2).data.toList.all letB && (!t3 || (t2.toList != ([] : List UInt8)))) else none) = some r := h
 by_cases c3 : t1.size + t2.size ≤ 9223372036854775807
 case neg => rw [if_neg c3] at h; exact absurd h (by simp)
 rw [if_pos c3] at h
 have HR := Aside0.mk (Option.some.inj h)
 clear h
 have c3b0 := eq_true c3
 have c3b1 : decide (t1.size + t2.size ≤ 9223372036854775807) = true := decide_eq_true c3
 have c3b2 : (9223372036854775807 < t1.size + t2.size) = False := eq_false (Nat.not_lt.2 c3)
 obtain ⟨n, hn⟩ : ∃ n : Nat, n = t1.size + t2.size := ⟨_, rfl⟩
 have HN := Aside0.mk hn
 have HSL : Aside0 ((t1 ++ t2).data.toList.length = n) := ⟨by rw [Array.length_toList, hn]; exact ByteArray.size_append⟩
 have hnb : n ≤ 9223372036854775807 := by omega
 clear hn c3
 go_enter Tryd.func27, Tryd.ntmps27
 go_wp2_with (first | ((with_reducible refine gate_callee (f := 34) rfl ?_); refine goesL_ (some 10) rfl rfl Tryd.func34 (by kernel_rfl) rfl #[.string a0, .string (⟨#[42]⟩ : ByteArray)] rfl am ?_; (with_reducible refine (strings_Cut.calls a0 (⟨#[42]⟩ : ByteArray) t1 t2 t3 _ A2.out).mono ?_); rintro e w1 ⟨rfl, hd⟩; refine ⟨_, rfl, ?_⟩; have HB1 := Aside0.mk hd.below; clear hd; have hconv := Lib.run_convert_string_bytes (P := Tryd.prog) w1 9 60 5 (t1 ++ t2) Tryd.underlying9 Tryd.underlying60 Tryd.underlying5; have HBW := Aside0.mk (below_convR w1 5 (t1 ++ t2)); have HCB := Aside0.mk (Lib.bytesWorld_cell w1 5 (t1 ++ t2)); generalize Lib.bytesWorld w1 5 (t1 ++ t2) = W1 at hconv HBW HCB; have hsz : (t1 ++ t2).size = n := (ByteArray.size_append.trans HN.out.symm); rw [hsz] at hconv HCB; clear hsz))
 go_loopw [19] (fun v19 w' => ∃ k : Nat, k ≤ n ∧ v19 = .int .i64 (k : Int) ∧ Aside0 (((t1 ++ t2).data.toList.take k).all letB = true) ∧ Drawn0 W1 w') (fun v19 _ => n - (intOf v19).toNat)
 case atStart => exact ⟨0, Nat.zero_le _, rfl, ⟨rfl⟩, Drawn0.refl _⟩
 case round =>
  obtain ⟨k, hk, rfl, HA, ⟨m1, rfl⟩⟩ := hrel
  by_cases hlt : k < n
  ·have hc0 := HCB.out k hlt
   obtain ⟨c, hc⟩ : ∃ c : UInt8, c = (t1 ++ t2).data.toList.getD k 0 := ⟨_, rfl⟩
   rw [← hc] at hc0
   have HC := Aside0.mk hc
   clear hc
   have hsn := take_snocR ((t1 ++ t2).data.toList) k (by rw [HSL.out]; exact hlt)
   rw [← HC.out] at hsn
   have HS := Aside0.mk hsn
   clear hsn
   obtain ⟨t, ht⟩ : ∃ t : Int, strings_IndexByte.f (⟨#[98, 119, 108, 116]⟩ : ByteArray) ((c.toNat : Nat) : Int) = some t := ⟨_, rfl⟩
   have htl : letB c = !decide (t < 0) := by
    have e : strings_IndexByte.f (⟨#[98, 119, 108, 116]⟩ : ByteArray) ((c.toNat : Nat) : Int) = some (Lib.indexByte [98, 119, 108, 116] (((c.toNat : Nat) : Int).toNat.toUInt8)) := rfl
    rw [toNat_toUInt8] at e
    rw [letB, Option.some.inj (ht.symm.trans e)]
   have HT := Aside0.mk htl
   have A3 := Aside0.mk ht
   clear htl ht
   by_cases ct : t < 0
   ·have ctb : decide (t < 0) = true := decide_eq_true ct
    have hf : letB c = false := by rw [HT.out, ctb]; rfl
    have hr : r = false := by
     rw [← HR.out]
     have : (t1 ++ t2).data.toList.all letB = false := by
      rw [← List.take_append_drop (k + 1) ((t1 ++ t2).data.toList), List.all_append, HS.out, List.all_append]
      simp [hf]
     rw [this]
     rfl
    subst hr
    clear ct hf
    go_wp2_with (first | ((with_reducible refine gate_callee (f := 28) rfl ?_); refine goesL_ (some 24) rfl rfl Tryd.func28 (by kernel_rfl) rfl #[.string (⟨#[98, 119, 108, 116]⟩ : ByteArray), .int .u8 ((c.toNat : Nat) : Int)] rfl am ?_; (with_reducible refine (strings_IndexByte.calls (⟨#[98, 119, 108, 116]⟩ : ByteArray) ((c.toNat : Nat) : Int) t _ A3.out).mono ?_); rintro e w' ⟨rfl, ⟨nd, rfl⟩⟩; refine ⟨_, rfl, ?_⟩))
    go_ret
    exact ⟨rfl, ((HB1.out.trans (HBW.out.mono HB1.out.size)).trans ((Drawn0.step (Drawn0.refl W1) _).below.mono (HB1.out.trans (HBW.out.mono HB1.out.size)).size))⟩
   ·have ctb : decide (t < 0) = false := decide_eq_false ct
    have hf : letB c = true := by rw [HT.out, ctb]; rfl
    have HF : Aside0 (((t1 ++ t2).data.toList.take (k + 1)).all letB = true) := ⟨by rw [HS.out, List.all_append, HA.out]; simp [hf]⟩
    clear ct hf
    go_wp2_with (first | ((with_reducible refine gate_callee (f := 28) rfl ?_); refine goesL_ (some 24) rfl rfl Tryd.func28 (by kernel_rfl) rfl #[.string (⟨#[98, 119, 108, 116]⟩ : ByteArray), .int .u8 ((c.toNat : Nat) : Int)] rfl am ?_; (with_reducible refine (strings_IndexByte.calls (⟨#[98, 119, 108, 116]⟩ : ByteArray) ((c.toNat : Nat) : Int) t _ A3.out).mono ?_); rintro e w' ⟨rfl, ⟨nd, rfl⟩⟩; refine ⟨_, rfl, ?_⟩))
    go_roundw
    case rel => exact ⟨k + 1, by omega, by go_num, HF, Drawn0.step (Drawn0.refl W1) _⟩
    case measure => simp [intOf]; omega
  ·obtain rfl : k = n := by omega
   have hall : (t1 ++ t2).data.toList.all letB = true := by have := HA.out; rwa [List.take_of_length_le (by rw [HSL.out]; exact Nat.le_refl _)] at this
   have hr : (!t3 || (t2.toList != ([] : List UInt8))) = r := by have := HR.out; rw [hall] at this; simpa using this
   have HRR := Aside0.mk hr
   clear hr hall
   cases t3
   ·have hr : r = true := by rw [← HRR.out]; rfl
    subst hr
    go_wp2
    go_ret
    exact ⟨rfl, ((HB1.out.trans (HBW.out.mono HB1.out.size)).trans ((Drawn0.step (Drawn0.refl W1) _).below.mono (HB1.out.trans (HBW.out.mono HB1.out.size)).size))⟩
   ·obtain rfl : (t2.toList != ([] : List UInt8)) = r := by have := HRR.out; simpa using this
    go_wp2
    go_ret
    exact ⟨congrArg (fun b : Bool => Ending.returned (.bool b)) (show (!t2.toList.isEmpty) = (t2.toList != ([] : List UInt8)) by cases t2.toList <;> rfl), ((HB1.out.trans (HBW.out.mono HB1.out.size)).trans ((Drawn0.step (Drawn0.refl W1) _).below.mono (HB1.out.trans (HBW.out.mono HB1.out.size)).size))⟩

end Go.Proofs.YtokebimfflobbaaDoor.P
