-- Printed by this session's program wip/xp.py (a turned copy of the kit's printer): functions, their contracts.
import Derived.Test.YtbcpjegakjcmgaaDoorPx0
import Derived.Test.YtbcpjegakjcmgaaDoorPx6
import Derived.Test.YtbcpjegakjcmgaaDoorPx7
namespace Go.Proofs.YtbcpjegakjcmgaaDoor.P
open Go.RowKit Go.Proofs.YtbcpjegakjcmgaaDoorW.PrintWords Go.Proofs.YtbcpjegakjcmgaaDoorW.PrintLast Go.Proofs.YtbcpjegakjcmgaaDoorW.PrintMore
attribute [local go_sem] max2_int min2_int max_two min_two max_three min_three max_four min_four   -- for this text's walks alone
set_option linter.unusedVariables false
set_option linter.unusedSimpArgs false

/-! ### carillonref12_Encode: function 7 -/
def carillonref12_Encode.l0 : Nat → List (S50) → Int → Int → List (S38) → Option (ByteArray × Bool)
 | 0, _, _, _, _ => none
 | k + 1, x5, x6, x233000, x233001 => if x6 < (x233001.length : Int) then (if 0 ≤ x6 then ((some (([(⟨1, IntKind.u64.wrap ((rd_T38 x233001 x6).f0), (⟨#[]⟩ : ByteArray)⟩ : S50), (⟨3, IntKind.u64.wrap ((rd_T38 x233001 x6).f1), (⟨#[]⟩ : ByteArray)⟩ : S50)] : List (S50)) : List (S50))).bind fun y239 => (if x5.length + y239.length < 4398046511104 then (carillonref12_Encode.l0 k (x5 ++ y239) (wrap64 (x6 + 1)) x233000 x233001) else (none))) else (none)) else ((carillonref01_Encode.f k x5).bind fun bt245 => (some (bt245.1, true)))
def carillonref12_Encode.f (k : Nat) (a0_0 : Int) (l0_1 : List (S38)) : Option (ByteArray × Bool) := (carillonref12_Right.f k a0_0 l0_1).bind fun t233 => (if t233 = true then (carillonref12_Encode.l0 k (([(⟨3, IntKind.u64.wrap (a0_0), (⟨#[]⟩ : ByteArray)⟩ : S50)] : List (S50))) 0 a0_0 l0_1) else (some ((⟨#[]⟩ : ByteArray), false)))
theorem carillonref12_Encode.mono_l : ∀ k, (∀ y0 y1 y2 y3, LeO (carillonref12_Encode.l0 k y0 y1 y2 y3) (carillonref12_Encode.l0 (k + 1) y0 y1 y2 y3))
 | 0 => fun _ _ _ _ r h => by simp [carillonref12_Encode.l0] at h
 | k + 1 => by
  have ih0 := carillonref12_Encode.mono_l k
  ·intro y0 y1 y2 y3
   unfold carillonref12_Encode.l0
   repeat' first
   | (with_reducible exact ih0 _ _ _ _)
   | (with_reducible exact carillonref01_Encode.mono _ _)
   | (with_reducible exact carillonref12_Right.mono _ _ _)
   | (with_reducible exact LeO.refl _)
   | (with_reducible exact LeO.none _)
   | (with_reducible refine LeO.ite ?_ ?_)
   | (with_reducible refine LeO.bind ?_ (fun _ => ?_))
   | exact ih0 _ _ _ _
   | exact carillonref01_Encode.mono _ _
   | exact carillonref12_Right.mono _ _ _
   | exact LeO.none _
   | refine LeO.ite ?_ ?_
   | refine LeO.bind ?_ (fun _ => ?_)
theorem carillonref12_Encode.mono : ∀ a0 a1 k, LeO (carillonref12_Encode.f k a0 a1) (carillonref12_Encode.f (k + 1) a0 a1) := by
 intro a0 a1 k
 have ih0 := carillonref12_Encode.mono_l k
 unfold carillonref12_Encode.f
 repeat' first
   | (with_reducible exact ih0 _ _ _ _)
   | (with_reducible exact carillonref01_Encode.mono _ _)
   | (with_reducible exact carillonref12_Right.mono _ _ _)
   | (with_reducible exact LeO.refl _)
   | (with_reducible exact LeO.none _)
   | (with_reducible refine LeO.ite ?_ ?_)
   | (with_reducible refine LeO.bind ?_ (fun _ => ?_))
   | exact ih0 _ _ _ _
   | exact carillonref01_Encode.mono _ _
   | exact carillonref12_Right.mono _ _ _
   | exact LeO.none _
   | refine LeO.ite ?_ ?_
   | refine LeO.bind ?_ (fun _ => ?_)
def carillonref12_Encode.T8 : Bool × List (List Nat × List Nat) := (true, [([], []), ([], []), ([1], [1]), ([], []), ([2, 3], [2, 3]), ([4], [4]), ([5], [5]), ([6], [6]), ([7], [7]), ([], []), ([9], [9]), ([], []), ([10, 11], [10, 11]), ([12], [12]), ([13], [13]), ([14], [14]), ([15], [15]), ([8, 16], [8, 16]), ([0, 17], [0, 17]), ([18, 18, 0, 1, 2, 3, 4, 5, 6, 7, 8, 9, 10, 11, 12, 13, 14, 15, 16, 17, 18], [0, 18])])
def carillonref12_Encode.B8 : List Nat := [0, 0, 2, 0, 14, 30, 62, 126, 254, 0, 512, 0, 3584, 7680, 15872, 32256, 65024, 131070, 262143, 524287]
theorem carillonref12_Encode.tab8 : rtab .any (opsOf Tryd.f7 8) = carillonref12_Encode.T8 := by kernel_rfl
theorem carillonref12_Encode.bits8 : waitsOk carillonref12_Encode.T8.2 carillonref12_Encode.B8 = true := by kernel_rfl
set_option maxHeartbeats 8000000 in
set_option maxRecDepth 100000 in
theorem carillonref12_Encode.calls (k : Nat) (a0_0 : Int) (A0_1 : Option Addr) (c0_1 : Nat) (l0_1 : List (S38)) (r1 : ByteArray) (r2 : Bool) (w : World) (hr0_1 : Kd.C k38 w A0_1 l0_1.length l0_1) (hc0_1 : l0_1.length ≤ c0_1) (h : carillonref12_Encode.f k a0_0 l0_1 = some (r1, r2)) :
  Calls Tryd.prog 7 #[.agg #[.int .i64 a0_0, .slice A0_1 l0_1.length c0_1]] w fun e w' => e = .returned (.tuple #[.string r1, .bool r2]) ∧ Below w.heap.size w w' := by
 have hu24 := Tryd.underlying24
 have hu50 := Tryd.underlying50
 have HR0_1 := Aside0.mk hr0_1
 have HC0_1 := Aside0.mk hc0_1
 clear hr0_1 hc0_1
 have HB := Aside0.mk (Below.refl w.heap.size w)
 have H : ((carillonref12_Right.f k a0_0 l0_1).bind fun t233 => (if t233 = true then (carillonref12_Encode.l0 k (([(⟨3, IntKind.u64.wrap (a0_0), (⟨#[]⟩ : ByteArray)⟩ : S50)] : List (S50))) 0 a0_0 l0_1) else (some ((⟨#[]⟩ : ByteArray), false)))) = some (r1, r2) := h
 clear h
 replace H := Option.bind_eq_some_iff.mp H
 obtain ⟨t233, A20, H⟩ := H
 replace H : (if t233 = true then (carillonref12_Encode.l0 k (([(⟨3, IntKind.u64.wrap (a0_0), (⟨#[]⟩ : ByteArray)⟩ : S50)] : List (S50))) 0 a0_0 l0_1) else (some ((⟨#[]⟩ : ByteArray), false))) = some (r1, r2) := H
 have A2 := Aside0.mk A20
 clear A20
 by_cases c3 : t233 = true
 ·subst c3
  have H1 : (carillonref12_Encode.l0 k (([(⟨3, IntKind.u64.wrap (a0_0), (⟨#[]⟩ : ByteArray)⟩ : S50)] : List (S50))) 0 a0_0 l0_1) = some (r1, r2) := by rw [if_pos rfl] at H; exact H
  clear H
  have H := H1
  clear H1
  obtain ⟨y234, hy234⟩ : ∃ y_ : List (S50), y_ = (([(⟨3, IntKind.u64.wrap (a0_0), (⟨#[]⟩ : ByteArray)⟩ : S50)] : List (S50))) := ⟨_, rfl⟩
  replace H : (carillonref12_Encode.l0 k y234 0 a0_0 l0_1) = some (r1, r2) := by first | (rw [hy234]; with_reducible exact H) | (have H2_ := (Option.bind_some _ _).symm.trans H; rw [hy234]; with_reducible exact H2_) | (have H2_ := (Option.bind_some _ _).symm.trans H; with_reducible exact H2_) | with_reducible exact H | (rw [hy234]; exact H) | exact H
  have Ny234 := Aside0.mk hy234
  clear hy234
  have H' := Aside0.mk H
  clear H
  go_enter Tryd.func7, Tryd.ntmps7
  go_wp2_with (first | ((with_reducible refine gate_dst (N := 1) rfl ?_); refine box_event ?hg (N := 1) ?hd (cs := #[.int .i64 a0_0, .slice A0_1 l0_1.length c0_1]) (t := 24) ?hr ?_; (case hd => rfl); (case hg => rfl); (case hr => first | (go_simp; done) | (go_simp; rfl)); intro gb232 hg w4 hbox hb; have n0_ := Aside0.mk (below_step bw hb); have n1_ := Aside0.mk (hbox); have n2_ := Aside0.mk ((g1 hg bw : w.heap.size ≤ gb232)); have n3_ := Aside0.mk ((g1 hg bw : w.heap.size ≤ gb232)); clear HB; have HB := n0_; have BK232 := n1_; have GW232 := n2_; have GE232 := n3_; clear n0_ n1_ n2_ n3_; clear hb hbox hg; have hcz5_0 := bc2_0 BK232.out; have hcz5_1 := bc2_1 BK232.out; have hfz5_0 := blk_frozen BK232.out 0; have hfz5_1 := blk_frozen BK232.out 1) | ((with_reducible refine gate_callee (f := 19) rfl ?_); refine goesL_ (some 10) rfl rfl Tryd.func19 (by kernel_rfl) rfl #[.agg #[.int .i64 a0_0, .slice A0_1 l0_1.length c0_1]] rfl am ?_; (with_reducible refine (carillonref12_Right.calls k a0_0 _ _ l0_1 true _ ?side1 ?side2 A2.out).mono ?_); (case side1 => repeat (first | exact (Kd.C_below HR0_1.out HB.out) | (with_reducible refine Kd.C_alloc ?_ _) | (with_reducible refine Kd.C_drewN ?_ _) | (with_reducible refine Kd.C_drew ?_))); (case side2 => exact HC0_1.out); rintro e w6 ⟨rfl, hb⟩; refine ⟨_, rfl, ?_⟩; have n0_ := Aside0.mk (nb BK232.out hb); have n1_ := Aside0.mk (below_step bw hb); clear BK232; clear HB; have BK232 := n0_; have HB := n1_; clear n0_ n1_; (try clear hb); (try clear hb2); (try clear hk); (try clear hi); have hcz7_0 := bc2_0 BK232.out; have hcz7_1 := bc2_1 BK232.out; have hfz7_0 := blk_frozen BK232.out 0; have hfz7_1 := blk_frozen BK232.out 1) | ((with_reducible refine gate_dst (N := 17) rfl ?_); refine Kd.R_lit k50 _ 50 ?hg (N := 17) ?hd (xs := ([(⟨3, IntKind.u64.wrap (a0_0), (⟨#[]⟩ : ByteArray)⟩ : S50)] : List (S50))) (inner := [.int .i64 3, .int .u64 (IntKind.u64.wrap (a0_0)), .string (⟨#[]⟩ : ByteArray)]) (ok := fun _ => True) (okp := fun _ => True) ?hr ?hp (fun _ hk => hk) trivial (Below.refl _ _) (Nat.le_refl _) (by simp) ?_; (case hd => rfl); (case hg => rfl); (case hr => first | (go_simp; done) | (go_simp; rfl)); (case hp => exact (Reps.c3 (show Kd.M k50 _ _ _ (⟨3, IntKind.u64.wrap (a0_0), (⟨#[]⟩ : ByteArray)⟩ : S50) [.int .i64 3, .int .u64 (IntKind.u64.wrap (a0_0)), .string (⟨#[]⟩ : ByteArray)] from (k50_mkM _ _ _ (⟨3, IntKind.u64.wrap (a0_0), (⟨#[]⟩ : ByteArray)⟩ : S50) )) (Reps.none _ _))); intro v235 w8 ho9 hb hg_ hnew_; clear hg_ hnew_; (first | rw [← Ny234.out] at ho9 | (simp only [Int.reduceToNat] at ho9; rw [← Ny234.out] at ho9)); have n0_ := Aside0.mk (Kd.R_lower ho9 (below_size bw)); have n1_ := Aside0.mk (nb BK232.out hb); have n2_ := Aside0.mk (below_step bw hb); clear BK232; clear HB; have HO236 := n0_; have BK232 := n1_; have HB := n2_; clear n0_ n1_ n2_; clear hb ho9))
  go_loopg [5, 6] k (fun kq v5 v6 w' => ∃ (x5_1 : List (S50)) (x6_1 : Int), v6 = .int .i64 x6_1 ∧ Aside0 (carillonref12_Encode.l0 kq x5_1 x6_1 a0_0 l0_1 = some (r1, r2)) ∧ Aside0 (kq ≤ k) ∧ Aside0 (Kd.R k50 50 w' w.heap.size (fun _ => True) v5 x5_1) ∧ Aside0 (w'.heap[gb232]? = some (.cells #[.int .i64 a0_0, (.slice A0_1 l0_1.length c0_1)] 24 (0, 0))) ∧ Aside0 (Below w.heap.size w w'))
  case atStart => exact ⟨(y234), (0), (by first | rfl | (simp; done) | (simp [*]; done)), H', ⟨Nat.le_refl _⟩, ⟨by (with_reducible repeat (first | apply Kd.R_alloc | apply Kd.R_drewN | apply Kd.R_drew)); exact HO236.out⟩, ⟨by (with_reducible repeat (first | refine blk_drewN ?_ _ | refine blk_drew ?_ | refine blk_alloc ?_ _)); exact BK232.out⟩, ⟨bw⟩⟩
  case round =>
   clear H'
   try clear c1
   try clear p2
   try clear c3
   try clear c7
   try clear hcz5_0
   try clear hcz5_1
   try clear hcz7_0
   try clear hcz7_1
   try clear hfz5_0
   try clear hfz5_1
   try clear hfz7_0
   try clear hfz7_1
   obtain ⟨x5_1, x6_1, rfl, HA, HK1, HO_5, BK232, HB⟩ := hrel
   cases gk with
   | zero => exact absurd HA.out (by simp [carillonref12_Encode.l0])
   | succ k1 =>
    have H := HA.out
    clear HA
    simp only [carillonref12_Encode.l0] at H
    by_cases c10 : x6_1 < (l0_1.length : Int)
    ·rw [if_pos c10] at H
     have c10b0 : decide (x6_1 < (l0_1.length : Int)) = true := decide_eq_true c10
     clear c10
     by_cases c11 : 0 ≤ x6_1
     ·rw [if_pos c11] at H
      have c11b0 : decide (0 ≤ x6_1) = true := decide_eq_true c11
      clear c11
      obtain ⟨y239, hy239⟩ : ∃ y_ : List (S50), y_ = (([(⟨1, IntKind.u64.wrap ((rd_T38 l0_1 x6_1).f0), (⟨#[]⟩ : ByteArray)⟩ : S50), (⟨3, IntKind.u64.wrap ((rd_T38 l0_1 x6_1).f1), (⟨#[]⟩ : ByteArray)⟩ : S50)] : List (S50))) := ⟨_, rfl⟩
      replace H : (if x5_1.length + y239.length < 4398046511104 then (carillonref12_Encode.l0 k1 (x5_1 ++ y239) (wrap64 (x6_1 + 1)) a0_0 l0_1) else (none)) = some (r1, r2) := by first | (rw [hy239]; with_reducible exact H) | (have H2_ := (Option.bind_some _ _).symm.trans H; rw [hy239]; with_reducible exact H2_) | (have H2_ := (Option.bind_some _ _).symm.trans H; with_reducible exact H2_) | with_reducible exact H | (rw [hy239]; exact H) | exact H
      have Ny239 := Aside0.mk hy239
      clear hy239
      by_cases c12 : x5_1.length + y239.length < 4398046511104
      ·rw [if_pos c12] at H
       have LMc12 := Aside0.mk c12
       clear c12
       obtain ⟨y242, hy242⟩ : ∃ y_ : List (S50), y_ = (x5_1 ++ y239) := ⟨_, rfl⟩
       replace H : (carillonref12_Encode.l0 k1 y242 (wrap64 (x6_1 + 1)) a0_0 l0_1) = some (r1, r2) := by first | (rw [hy242]; with_reducible exact H) | (have H2_ := (Option.bind_some _ _).symm.trans H; rw [hy242]; with_reducible exact H2_) | (have H2_ := (Option.bind_some _ _).symm.trans H; with_reducible exact H2_) | with_reducible exact H | (rw [hy242]; exact H) | exact H
       have Ny242 := Aside0.mk hy242
       clear hy242
       have H' := Aside0.mk H
       clear H
       have hcz13_0 := bc2_0 BK232.out
       have hcz13_1 := bc2_1 BK232.out
       have hfz13_0 := blk_frozen BK232.out 0
       have hfz13_1 := blk_frozen BK232.out 1
       try go_wp2
       have n0_ := Aside0.mk (Kd.R_drew HO_5.out)
       have n1_ := Aside0.mk (blk_drew BK232.out)
       have n2_ := Aside0.mk (below_drew1 HB.out)
       clear HO_5
       clear BK232
       clear HB
       have HO_5 := n0_
       have BK232 := n1_
       have HB := n2_
       clear n0_ n1_ n2_
       have p237 : 0 ≤ (x6_1 : Int) := of_decide_eq_true (by first | (with_reducible assumption) | assumption)
       have q237 : x6_1 < (l0_1.length : Int) := of_decide_eq_true (by first | (with_reducible assumption) | assumption)
       obtain ⟨ad237, e237, hx237_0, hx237_1⟩ := at_T38 HR0_1.out x6_1 p237 q237
       have hw237_1 := hx237_1
       have hw237_0 := hx237_0
       cases e237
       replace hx237_0 := (HB.out.cell (World.block_lt_of_cell? w _ hx237_0)).trans hx237_0
       replace hx237_1 := (HB.out.cell (World.block_lt_of_cell? w _ hx237_1)).trans hx237_1
       replace p237 := eq_true p237
       replace q237 := eq_true q237
       have p238 : 0 ≤ (x6_1 : Int) := of_decide_eq_true (by first | (with_reducible assumption) | assumption)
       have q238 : x6_1 < (l0_1.length : Int) := of_decide_eq_true (by first | (with_reducible assumption) | assumption)
       obtain ⟨ad238, e238, hx238_0, hx238_1⟩ := at_T38 HR0_1.out x6_1 p238 q238
       have hw238_1 := hx238_1
       have hw238_0 := hx238_0
       obtain rfl : ad237 = ad238 := (by injection e238)
       replace hx238_0 := (HB.out.cell (World.block_lt_of_cell? w _ hx238_0)).trans hx238_0
       replace hx238_1 := (HB.out.cell (World.block_lt_of_cell? w _ hx238_1)).trans hx238_1
       replace p238 := eq_true p238
       replace q238 := eq_true q238
       refine start_ (n := 20) (S := fun w' => w'.cell? ⟨gb232, 0, none⟩ = some (.int .i64 a0_0) ∧ w'.cell? ⟨gb232, 1, none⟩ = some (.slice (some ad237) l0_1.length c0_1) ∧ w'.cell? (ad237.add ((x6_1).toNat * 2)) = some (.int .i64 ((rd_T38 l0_1 x6_1).f0)) ∧ w'.cell? ⟨(ad237.add ((x6_1).toNat * 2)).block, (ad237.add ((x6_1).toNat * 2)).off + 1, none⟩ = some (.int .i64 ((rd_T38 l0_1 x6_1).f1)) ∧ w'.cell? (ad237.add ((x6_1).toNat * 2)) = some (.int .i64 ((rd_T38 l0_1 x6_1).f0)) ∧ w'.cell? ⟨(ad237.add ((x6_1).toNat * 2)).block, (ad237.add ((x6_1).toNat * 2)).off + 1, none⟩ = some (.int .i64 ((rd_T38 l0_1 x6_1).f1))) (ds := []) #[false, false, false, false, false, false, false, false, false, false, false, false, false, false, false, false, false, false, false, false] (by kernel_rfl) rfl rfl ⟨(blk_cell BK232.out 0).trans rfl, (blk_cell BK232.out 1).trans rfl, ((HB.out.cell (World.block_lt_of_cell? w _ hw237_0)).trans hw237_0), ((HB.out.cell (World.block_lt_of_cell? w _ hw237_1)).trans hw237_1), ((HB.out.cell (World.block_lt_of_cell? w _ hw238_0)).trans hw238_0), ((HB.out.cell (World.block_lt_of_cell? w _ hw238_1)).trans hw238_1)⟩ (fun hHeld => ?_); refine with_tabW carillonref12_Encode.tab8 carillonref12_Encode.bits8 (fun HT_ HW_ => ?_)
       generalize wr.drew = w14 at HO_5 BK232 HB hx237_0 hx237_1 hx238_0 hx238_1 hHeld ⊢
       refine pure_ (i := 0) (N := some 25) (v := ?_) (a' := ?_) #[true, false, false, false, false, false, false, false, false, false, false, false, false, false, false, false, false, false, false, false] rfl rfl (any_of HT_.out (by kernel_rfl)) (fun _ _ _ h => h) (Or.inl ⟨by rfl, ?_⟩) ?_ ?_
       rotate_left
       ·intro w'
        go_simp
        with_reducible rfl
       rotate_left
       ·simp only [Act.put, sl1, sl2, sl3, i64_w, i32_w]
        rfl
       refine pure_ (i := 1) (N := some 26) (v := ?_) (a' := ?_) #[true, true, false, false, false, false, false, false, false, false, false, false, false, false, false, false, false, false, false, false] rfl rfl (any_of HT_.out (by kernel_rfl)) (fun _ _ _ h => h) (Or.inl ⟨by rfl, ?_⟩) ?_ ?_
       rotate_left
       ·intro w'
        go_simp
        with_reducible rfl
       rotate_left
       ·simp only [Act.put, sl1, sl2, sl3, i64_w, i32_w]
        rfl
       refine pure_ (i := 3) (N := some 28) (v := ?_) (a' := ?_) #[true, true, false, true, false, false, false, false, false, false, false, false, false, false, false, false, false, false, false, false] rfl rfl (any_of HT_.out (by kernel_rfl)) (fun _ _ _ h => h) (Or.inl ⟨by rfl, ?_⟩) ?_ ?_
       rotate_left
       ·intro w'
        go_simp
        with_reducible rfl
       rotate_left
       ·simp only [Act.put, sl1, sl2, sl3, i64_w, i32_w]
        rfl
       refine pure_ (i := 9) (N := some 34) (v := ?_) (a' := ?_) #[true, true, false, true, false, false, false, false, false, true, false, false, false, false, false, false, false, false, false, false] rfl rfl (any_of HT_.out (by kernel_rfl)) (fun _ _ _ h => h) (Or.inl ⟨by rfl, ?_⟩) ?_ ?_
       rotate_left
       ·intro w'
        go_simp
        with_reducible rfl
       rotate_left
       ·simp only [Act.put, sl1, sl2, sl3, i64_w, i32_w]
        rfl
       refine pure_ (i := 11) (N := some 36) (v := ?_) (a' := ?_) #[true, true, false, true, false, false, false, false, false, true, false, true, false, false, false, false, false, false, false, false] rfl rfl (any_of HT_.out (by kernel_rfl)) (fun _ _ _ h => h) (Or.inl ⟨by rfl, ?_⟩) ?_ ?_
       rotate_left
       ·intro w'
        go_simp
        with_reducible rfl
       rotate_left
       ·simp only [Act.put, sl1, sl2, sl3, i64_w, i32_w]
        rfl
       refine take_ (i := 2) (N := some 27) (v := ?_) (a' := ?_) #[true, true, true, true, false, false, false, false, false, true, false, true, false, false, false, false, false, false, false, false] rfl rfl (take_ofW HT_.out HW_.out (by kernel_rfl)) (fun _ _ _ h => h) (Or.inl ⟨by rfl, ?_⟩) hHeld ?_ ?_
       rotate_left
       ·rintro w' ⟨s0, s1, s2, s3, s4, s5⟩
        go_simp
        with_reducible rfl
       rotate_left
       ·simp only [Act.put, sl1, sl2, sl3, i64_w, i32_w]
        rfl
       refine pure_ (i := 4) (N := some 29) (v := ?_) (a' := ?_) #[true, true, true, true, true, false, false, false, false, true, false, true, false, false, false, false, false, false, false, false] rfl rfl (any_of HT_.out (by kernel_rfl)) (fun _ _ _ h => h) (Or.inl ⟨by rfl, ?_⟩) ?_ ?_
       rotate_left
       ·intro w'
        go_simp
        with_reducible rfl
       rotate_left
       ·simp only [Act.put, sl1, sl2, sl3, i64_w, i32_w]
        rfl
       refine pure_ (i := 5) (N := some 30) (v := ?_) (a' := ?_) #[true, true, true, true, true, true, false, false, false, true, false, true, false, false, false, false, false, false, false, false] rfl rfl (any_of HT_.out (by kernel_rfl)) (fun _ _ _ h => h) (Or.inl ⟨by rfl, ?_⟩) ?_ ?_
       rotate_left
       ·intro w'
        go_simp
        with_reducible rfl
       rotate_left
       ·simp only [Act.put, sl1, sl2, sl3, i64_w, i32_w]
        rfl
       refine take_ (i := 6) (N := some 31) (v := ?_) (a' := ?_) #[true, true, true, true, true, true, true, false, false, true, false, true, false, false, false, false, false, false, false, false] rfl rfl (take_ofW HT_.out HW_.out (by kernel_rfl)) (fun _ _ _ h => h) (Or.inl ⟨by rfl, ?_⟩) hHeld ?_ ?_
       rotate_left
       ·rintro w' ⟨s0, s1, s2, s3, s4, s5⟩
        go_simp
        with_reducible rfl
       rotate_left
       ·simp only [Act.put, sl1, sl2, sl3, i64_w, i32_w]
        rfl
       refine pure_ (i := 7) (N := some 32) (v := ?_) (a' := ?_) #[true, true, true, true, true, true, true, true, false, true, false, true, false, false, false, false, false, false, false, false] rfl rfl (any_of HT_.out (by kernel_rfl)) (fun _ _ _ h => h) (Or.inl ⟨by rfl, ?_⟩) ?_ ?_
       rotate_left
       ·intro w'
        go_simp
        with_reducible rfl
       rotate_left
       ·simp only [Act.put, sl1, sl2, sl3, i64_w, i32_w]
        rfl
       refine pure_ (i := 8) (N := some 33) (v := ?_) (a' := ?_) #[true, true, true, true, true, true, true, true, true, true, false, true, false, false, false, false, false, false, false, false] rfl rfl (any_of HT_.out (by kernel_rfl)) (fun _ _ _ h => h) (Or.inl ⟨by rfl, ?_⟩) ?_ ?_
       rotate_left
       ·intro w'
        go_simp
        with_reducible rfl
       rotate_left
       ·simp only [Act.put, sl1, sl2, sl3, i64_w, i32_w]
        rfl
       refine take_ (i := 10) (N := some 35) (v := ?_) (a' := ?_) #[true, true, true, true, true, true, true, true, true, true, true, true, false, false, false, false, false, false, false, false] rfl rfl (take_ofW HT_.out HW_.out (by kernel_rfl)) (fun _ _ _ h => h) (Or.inl ⟨by rfl, ?_⟩) hHeld ?_ ?_
       rotate_left
       ·rintro w' ⟨s0, s1, s2, s3, s4, s5⟩
        go_simp
        with_reducible rfl
       rotate_left
       ·simp only [Act.put, sl1, sl2, sl3, i64_w, i32_w]
        rfl
       refine pure_ (i := 12) (N := some 37) (v := ?_) (a' := ?_) #[true, true, true, true, true, true, true, true, true, true, true, true, true, false, false, false, false, false, false, false] rfl rfl (any_of HT_.out (by kernel_rfl)) (fun _ _ _ h => h) (Or.inl ⟨by rfl, ?_⟩) ?_ ?_
       rotate_left
       ·intro w'
        go_simp
        with_reducible rfl
       rotate_left
       ·simp only [Act.put, sl1, sl2, sl3, i64_w, i32_w]
        rfl
       refine pure_ (i := 13) (N := some 38) (v := ?_) (a' := ?_) #[true, true, true, true, true, true, true, true, true, true, true, true, true, true, false, false, false, false, false, false] rfl rfl (any_of HT_.out (by kernel_rfl)) (fun _ _ _ h => h) (Or.inl ⟨by rfl, ?_⟩) ?_ ?_
       rotate_left
       ·intro w'
        go_simp
        with_reducible rfl
       rotate_left
       ·simp only [Act.put, sl1, sl2, sl3, i64_w, i32_w]
        rfl
       refine take_ (i := 14) (N := some 39) (v := ?_) (a' := ?_) #[true, true, true, true, true, true, true, true, true, true, true, true, true, true, true, false, false, false, false, false] rfl rfl (take_ofW HT_.out HW_.out (by kernel_rfl)) (fun _ _ _ h => h) (Or.inl ⟨by rfl, ?_⟩) hHeld ?_ ?_
       rotate_left
       ·rintro w' ⟨s0, s1, s2, s3, s4, s5⟩
        go_simp
        with_reducible rfl
       rotate_left
       ·simp only [Act.put, sl1, sl2, sl3, i64_w, i32_w]
        rfl
       refine pure_ (i := 15) (N := some 40) (v := ?_) (a' := ?_) #[true, true, true, true, true, true, true, true, true, true, true, true, true, true, true, true, false, false, false, false] rfl rfl (any_of HT_.out (by kernel_rfl)) (fun _ _ _ h => h) (Or.inl ⟨by rfl, ?_⟩) ?_ ?_
       rotate_left
       ·intro w'
        go_simp
        with_reducible rfl
       rotate_left
       ·simp only [Act.put, sl1, sl2, sl3, i64_w, i32_w]
        rfl
       refine pure_ (i := 16) (N := some 41) (v := ?_) (a' := ?_) #[true, true, true, true, true, true, true, true, true, true, true, true, true, true, true, true, true, false, false, false] rfl rfl (any_of HT_.out (by kernel_rfl)) (fun _ _ _ h => h) (Or.inl ⟨by rfl, ?_⟩) ?_ ?_
       rotate_left
       ·intro w'
        go_simp
        with_reducible rfl
       rotate_left
       ·simp only [Act.put, sl1, sl2, sl3, i64_w, i32_w]
        rfl
       refine one_ (i := 17) (N := some 42) #[true, true, true, true, true, true, true, true, true, true, true, true, true, true, true, true, true, true, false, false] rfl rfl (one_of HT_.out (by kernel_rfl)) (by decide) (fun K hK => ?_)
       refine Kd.R_lit_step k50 _ 50 ?hg (N := 42) ?hd (xs := ([(⟨1, IntKind.u64.wrap ((rd_T38 l0_1 x6_1).f0), (⟨#[]⟩ : ByteArray)⟩ : S50), (⟨3, IntKind.u64.wrap ((rd_T38 l0_1 x6_1).f1), (⟨#[]⟩ : ByteArray)⟩ : S50)] : List (S50))) (inner := [.int .i64 1, .int .u64 (IntKind.u64.wrap ((rd_T38 l0_1 x6_1).f0)), .string (⟨#[]⟩ : ByteArray), .int .i64 3, .int .u64 (IntKind.u64.wrap ((rd_T38 l0_1 x6_1).f1)), .string (⟨#[]⟩ : ByteArray)]) (ok := fun _ => True) (okp := fun _ => True) ?hr ?hp (fun _ hk => hk) trivial (Below.refl _ _) (Nat.le_refl _) (by simp) ?_; (case hd => rfl); (case hg => rfl); (case hr => first | (go_simp; done) | (go_simp; rfl)); (case hp => exact (Reps.c3 (show Kd.M k50 _ _ _ (⟨1, IntKind.u64.wrap ((rd_T38 l0_1 x6_1).f0), (⟨#[]⟩ : ByteArray)⟩ : S50) [.int .i64 1, .int .u64 (IntKind.u64.wrap ((rd_T38 l0_1 x6_1).f0)), .string (⟨#[]⟩ : ByteArray)] from (k50_mkM _ _ _ (⟨1, IntKind.u64.wrap ((rd_T38 l0_1 x6_1).f0), (⟨#[]⟩ : ByteArray)⟩ : S50) )) (Reps.c3 (show Kd.M k50 _ _ _ (⟨3, IntKind.u64.wrap ((rd_T38 l0_1 x6_1).f1), (⟨#[]⟩ : ByteArray)⟩ : S50) [.int .i64 3, .int .u64 (IntKind.u64.wrap ((rd_T38 l0_1 x6_1).f1)), .string (⟨#[]⟩ : ByteArray)] from (k50_mkM _ _ _ (⟨3, IntKind.u64.wrap ((rd_T38 l0_1 x6_1).f1), (⟨#[]⟩ : ByteArray)⟩ : S50) )) (Reps.none _ _))))
       intro v240 w15 ho16 hb hg_ hnew_
       clear hg_ hnew_
       (first | rw [← Ny239.out] at ho16 | (simp only [Int.reduceToNat] at ho16; rw [← Ny239.out] at ho16))
       have n0_ := Aside0.mk (Kd.R_elder' (by (with_reducible repeat (first | apply Kd.R_alloc | apply Kd.R_drewN | apply Kd.R_drew)); exact HO_5.out) (Kd.R_base ho16) hb)
       have n1_ := Aside0.mk (Kd.R_lower (Kd.R_new' ho16 (Kd.R_lt (by (with_reducible repeat (first | apply Kd.R_alloc | apply Kd.R_drewN | apply Kd.R_drew)); exact HO_5.out))) (below_size bw))
       have n2_ := Aside0.mk (nb BK232.out hb)
       have n3_ := Aside0.mk (below_step bw hb)
       clear HO_5
       clear BK232
       clear HB
       have HO_5 := n0_
       have HO241 := n1_
       have BK232 := n2_
       have HB := n3_
       clear n0_ n1_ n2_ n3_
       clear hb ho16
       obtain ⟨Ao18, co18, eo18⟩ := Kd.R_slice HO241.out
       (first | subst eo18 | (injection eo18 with f1_ f2_ f3_; have f4_ := f1_.symm; have f5_ := f3_.symm; clear f1_ f2_ f3_; subst f4_; subst f5_))
       refine hK.out _ _ ⟨(blk_cell BK232.out 0).trans rfl, (blk_cell BK232.out 1).trans rfl, ((HB.out.cell (World.block_lt_of_cell? w _ hw237_0)).trans hw237_0), ((HB.out.cell (World.block_lt_of_cell? w _ hw237_1)).trans hw237_1), ((HB.out.cell (World.block_lt_of_cell? w _ hw238_0)).trans hw238_0), ((HB.out.cell (World.block_lt_of_cell? w _ hw238_1)).trans hw238_1)⟩ (fun hHeld => ?_)
       clear hK K
       refine norm_ (a' := ?_) ?_ ?_
       rotate_left
       ·show Act.put _ (some 42) _ = _
        simp only [Act.put, sl1, sl2, sl3, i64_w, i32_w]
        rfl
       refine one_ (i := 18) (N := some 43) #[true, true, true, true, true, true, true, true, true, true, true, true, true, true, true, true, true, true, true, false] rfl rfl (one_of HT_.out (by kernel_rfl)) (by decide) (fun K hK => ?_)
       refine Kd.R_append_rows_step k50 (w0 := w) w.heap.size (by rfl) (.tmp 25) (.tmp 42) 51 50 (.agg #[(.int .i64 0), (.int .u64 0), (.string ⟨#[]⟩)]) 32 rfl Tryd.underlying51 info50 rfl (by decide) (by omega) u5 x5_1 y239 _ _ _ (fun k_ => some k_ ≠ (.slice Ao18 y239.length co18 : Value).ownBlock) (fun _ => False) rfl rfl ?aO ?aR (fun _ _ h => h) (fun _ h => h.elim) ?aF ?aB ?aS ?aL ?_
       (case aR => repeat (first | exact (Kd.R_reads' HO241.out).2.2 | (with_reducible refine Kd.C_alloc ?_ _) | (with_reducible refine Kd.C_drewN ?_ _) | (with_reducible refine Kd.C_drew ?_)))
       (case aB => exact bw)
       (case aF => exact (fun k_ hk => Kd.fresh' (Kd.R_lt (by (with_reducible repeat (first | apply Kd.R_alloc | apply Kd.R_drewN | apply Kd.R_drew)); exact HO241.out)) k_ hk))
       (case aO => exact (by (with_reducible repeat (first | apply Kd.R_alloc | apply Kd.R_drewN | apply Kd.R_drew)); exact Kd.R_mono HO_5.out (fun _ hk => hk.2)))
       (case aS => exact (below_size bw))
       (case aL => have := LMc12.out; omega)
       intro v243 w17 ho hb hg hat
       rw [← Ny242.out] at ho
       have n0_ := Aside0.mk (blk_grown (g := gb232) (o := .cells #[.int .i64 a0_0, .slice (some ad237) l0_1.length c0_1] 24 (0, 0)) (bk BK232.out) hg (Kd.R_ne HO_5.out BK232.out (by decide)))
       have n1_ := Aside0.mk (Kd.R_after (ok := (fun _ => True)) (by (with_reducible repeat (first | apply Kd.R_alloc | apply Kd.R_drewN | apply Kd.R_drew)); exact HO241.out) hg hat)
       have n2_ := Aside0.mk (hb)
       have n3_ := Aside0.mk (ho)
       clear BK232
       clear HO241
       clear HB
       clear HO_5
       have BK232 := n0_
       have HO241 := n1_
       have HB := n2_
       have HO244 := n3_
       clear n0_ n1_ n2_ n3_
       clear ho hb hg hat
       refine hK.out _ _ ⟨(blk_cell BK232.out 0).trans rfl, (blk_cell BK232.out 1).trans rfl, ((HB.out.cell (World.block_lt_of_cell? w _ hw237_0)).trans hw237_0), ((HB.out.cell (World.block_lt_of_cell? w _ hw237_1)).trans hw237_1), ((HB.out.cell (World.block_lt_of_cell? w _ hw238_0)).trans hw238_0), ((HB.out.cell (World.block_lt_of_cell? w _ hw238_1)).trans hw238_1)⟩ (fun hHeld => ?_)
       clear hK K
       refine norm_ (a' := ?_) ?_ ?_
       rotate_left
       ·show Act.put _ (some 43) _ = _
        simp only [Act.put, sl1, sl2, sl3, i64_w, i32_w]
        rfl
       refine pure_ (i := 19) (N := some 5) (v := ?_) (a' := ?_) #[true, true, true, true, true, true, true, true, true, true, true, true, true, true, true, true, true, true, true, true] rfl rfl (any_of HT_.out (by kernel_rfl)) (fun _ _ _ h => h) (Or.inl ⟨by rfl, ?_⟩) ?_ ?_
       rotate_left
       ·intro w'
        go_simp
        with_reducible rfl
       rotate_left
       ·simp only [Act.put, sl1, sl2, sl3, i64_w, i32_w]
        rfl
       refine done_ (done_of HT_.out (by kernel_rfl)) ?_
       try go_wp2
       go_roundg k1
       case measure => have := HK1.out; omega
       case rel => exact ⟨(y242), (wrap64 (x6_1 + 1)), (by first | rfl | (simp; done) | (simp [*]; done)), H', ⟨by have := HK1.out; omega⟩, ⟨by (with_reducible repeat (first | apply Kd.R_alloc | apply Kd.R_drewN | apply Kd.R_drew)); exact Kd.R_mono HO244.out (fun _ hk => trivial)⟩, ⟨by (with_reducible repeat (first | refine blk_drewN ?_ _ | refine blk_drew ?_ | refine blk_alloc ?_ _)); exact BK232.out⟩, ⟨bw⟩⟩
      ·rw [if_neg c12] at H
       exact absurd H (by simp)
     ·rw [if_neg c11] at H
      exact absurd H (by simp)
    ·rw [if_neg c10] at H
     have c10b0 : decide (x6_1 < (l0_1.length : Int)) = false := decide_eq_false c10
     clear c10
     replace H := Option.bind_eq_some_iff.mp H
     obtain ⟨⟨t245, t246⟩, A190, H⟩ := H
     replace H : (some (t245, true)) = some (r1, r2) := H
     have A19 := Aside0.mk A190
     clear A190
     simp only [Option.some.injEq, Prod.mk.injEq] at H
     obtain ⟨rfl, rfl⟩ := H
     have hcz20_0 := bc2_0 BK232.out
     have hcz20_1 := bc2_1 BK232.out
     have hfz20_0 := blk_frozen BK232.out 0
     have hfz20_1 := blk_frozen BK232.out 1
     obtain ⟨Ao21, co21, eo21⟩ := Kd.R_slice HO_5.out
     subst eo21
     go_wp2_with (first | ((with_reducible refine gate_callee (f := 20) rfl ?_); refine goesL_ (some 46) rfl rfl Tryd.func20 (by kernel_rfl) rfl #[.slice Ao21 x5_1.length co21] rfl am ?_; (with_reducible refine (carillonref01_Encode.calls k1 _ _ x5_1 t245 t246 _ ?side1 ?side2 A19.out).mono ?_); (case side1 => repeat (first | exact (Kd.R_reads' HO_5.out).2.2 | (with_reducible refine Kd.C_alloc ?_ _) | (with_reducible refine Kd.C_drewN ?_ _) | (with_reducible refine Kd.C_drew ?_))); (case side2 => exact (Kd.R_reads' HO_5.out).2.1); rintro e w22 ⟨rfl, hb⟩; refine ⟨_, rfl, ?_⟩; have n0_ := Aside0.mk (Kd.R_below (by (with_reducible repeat (first | apply Kd.R_alloc | apply Kd.R_drewN | apply Kd.R_drew)); exact HO_5.out) hb); have n1_ := Aside0.mk (nb BK232.out hb); have n2_ := Aside0.mk (below_step bw hb); clear HO_5; clear BK232; clear HB; have HO_5 := n0_; have BK232 := n1_; have HB := n2_; clear n0_ n1_ n2_; (try clear hb); (try clear hb2); (try clear hk); (try clear hi)))
     go_ret2
     exact ⟨er, bw⟩
 ·replace c3 := Bool.eq_false_iff.mpr c3
  subst c3
  have H1 : (some ((⟨#[]⟩ : ByteArray), false)) = some (r1, r2) := by rw [if_neg (show ¬ (false = true) by decide)] at H; exact H
  clear H
  have H := H1
  clear H1
  simp only [Option.some.injEq, Prod.mk.injEq] at H
  obtain ⟨rfl, rfl⟩ := H
  go_enter Tryd.func7, Tryd.ntmps7
  go_wp2_with (first | ((with_reducible refine gate_dst (N := 1) rfl ?_); refine box_event ?hg (N := 1) ?hd (cs := #[.int .i64 a0_0, .slice A0_1 l0_1.length c0_1]) (t := 24) ?hr ?_; (case hd => rfl); (case hg => rfl); (case hr => first | (go_simp; done) | (go_simp; rfl)); intro gb232 hg w23 hbox hb; have n0_ := Aside0.mk (below_step bw hb); have n1_ := Aside0.mk (hbox); have n2_ := Aside0.mk ((g1 hg bw : w.heap.size ≤ gb232)); have n3_ := Aside0.mk ((g1 hg bw : w.heap.size ≤ gb232)); clear HB; have HB := n0_; have BK232 := n1_; have GW232 := n2_; have GE232 := n3_; clear n0_ n1_ n2_ n3_; clear hb hbox hg; have hcz24_0 := bc2_0 BK232.out; have hcz24_1 := bc2_1 BK232.out; have hfz24_0 := blk_frozen BK232.out 0; have hfz24_1 := blk_frozen BK232.out 1) | ((with_reducible refine gate_callee (f := 19) rfl ?_); refine goesL_ (some 10) rfl rfl Tryd.func19 (by kernel_rfl) rfl #[.agg #[.int .i64 a0_0, .slice A0_1 l0_1.length c0_1]] rfl am ?_; (with_reducible refine (carillonref12_Right.calls k a0_0 _ _ l0_1 false _ ?side1 ?side2 A2.out).mono ?_); (case side1 => repeat (first | exact (Kd.C_below HR0_1.out HB.out) | (with_reducible refine Kd.C_alloc ?_ _) | (with_reducible refine Kd.C_drewN ?_ _) | (with_reducible refine Kd.C_drew ?_))); (case side2 => exact HC0_1.out); rintro e w25 ⟨rfl, hb⟩; refine ⟨_, rfl, ?_⟩; have n0_ := Aside0.mk (nb BK232.out hb); have n1_ := Aside0.mk (below_step bw hb); clear BK232; clear HB; have BK232 := n0_; have HB := n1_; clear n0_ n1_; (try clear hb); (try clear hb2); (try clear hk); (try clear hi)))
  go_ret2
  exact ⟨er, bw⟩

-- NOT PRINTED: function 47 (bytealg_IndexByteString)

/-! ### stringslite_IndexByte: function 43 -/
def stringslite_IndexByte.f (a0 : ByteArray) (a1 : Int) : Option (Int) := some (Lib.indexByte a0.data.toList a1.toNat.toUInt8)
set_option maxHeartbeats 1000000 in
set_option maxRecDepth 100000 in
theorem stringslite_IndexByte.calls (a0 : ByteArray) (a1 : Int) (r : Int) (w : World) (h : stringslite_IndexByte.f a0 a1 = some r) :
  Calls Tryd.prog 43 #[.string a0, .int .u8 a1] w fun e w' => e = .returned (.int .i64 r) ∧ Drawn0 w w' := by
 obtain rfl := Option.some.inj h
 go_enter Tryd.func43, Tryd.ntmps43
 go_wp2
 rw [run_callFunc_extern Tryd.func47 (by kernel_rfl) (by kernel_rfl) (by kernel_rfl) (e := Extern.BytealgIndexByte.indexByte) (by kernel_rfl), Lib.run_indexByteString]
 simp only [Result.andThen]
 rw [Oper.upon_value]
 go_wp2
 go_ret
 exact ⟨rfl, Drawn0.refl _⟩

/-! ### strings_IndexByte: function 32 -/
def strings_IndexByte.f (a0 : ByteArray) (a1 : Int) : Option (Int) := (stringslite_IndexByte.f a0 a1).bind fun t247 => (some t247)
set_option maxHeartbeats 8000000 in
set_option maxRecDepth 100000 in
theorem strings_IndexByte.calls (a0 : ByteArray) (a1 : Int) (r : Int) (w : World) (h : strings_IndexByte.f a0 a1 = some r) :
  Calls Tryd.prog 32 #[.string a0, .int .u8 a1] w fun e w' => e = .returned (.int .i64 r) ∧ Drawn0 w w' := by
 have H : ((stringslite_IndexByte.f a0 a1).bind fun t247 => (some t247)) = some r := h
 clear h
 replace H := Option.bind_eq_some_iff.mp H
 obtain ⟨t247, A30, H⟩ := H
 replace H : (some t247) = some r := H
 have A3 := Aside0.mk A30
 clear A30
 obtain rfl := Option.some.inj H
 go_enter Tryd.func32, Tryd.ntmps32
 go_wp2_with (first | ((with_reducible refine gate_callee (f := 43) rfl ?_); refine goesL_ (some 7) rfl rfl Tryd.func43 (by kernel_rfl) rfl #[.string a0, .int .u8 a1] rfl am ?_; (with_reducible refine (stringslite_IndexByte.calls a0 a1 t247 _ A3.out).mono ?_); rintro e w' ⟨rfl, ⟨nd, rfl⟩⟩; refine ⟨_, rfl, ?_⟩))
 go_ret
 exact ⟨by first | rfl | (simp; done) | (simp [*]; done), by repeat (first | exact Drawn0.refl _ | apply Drawn0.step)⟩

-- NOT PRINTED: function 49 (bytealg_IndexString)

-- NOT PRINTED: function 50 (bytealg_Cutover)

-- NOT PRINTED: function 52 (bytealg_hashStr_string)

-- NOT PRINTED: function 51 (bytealg_IndexRabinKarp_string)

/-! ### stringslite_Index: function 48 -/
/-- At a text of one byte. -/
def oneByte (s : ByteArray) : Option UInt8 := match s.data.toList with | [c] => some c | _ => none
theorem oneByte_eq {s : ByteArray} {c : UInt8} (h : oneByte s = some c) : s = ⟨#[c]⟩ := by
 obtain ⟨⟨l⟩⟩ := s
 unfold oneByte at h
 match l, h with
 | [d], h => cases h; rfl
def stringslite_Index.f (a0 : ByteArray) (a1 : ByteArray) : Option (Int) := (oneByte a1).bind fun c => some (Lib.indexByte a0.data.toList c)
set_option maxHeartbeats 1000000 in
set_option maxRecDepth 100000 in
theorem stringslite_Index.calls (a0 : ByteArray) (a1 : ByteArray) (r : Int) (w : World) (h : stringslite_Index.f a0 a1 = some r) :
  Calls Tryd.prog 48 #[.string a0, .string a1] w fun e w' => e = .returned (.int .i64 r) ∧ Drawn0 w w' := by
 unfold stringslite_Index.f at h
 obtain ⟨c, hc, h⟩ := Option.bind_eq_some_iff.mp h
 obtain rfl := oneByte_eq hc
 obtain rfl := Option.some.inj h
 clear h hc
 go_enter Tryd.func48, Tryd.ntmps48
 go_wp2_with (go_at_call 43; refine (stringslite_IndexByte.calls _ _ _ _ rfl).mono ?_; rintro e w' ⟨rfl, ⟨n_, rfl⟩⟩)
 ·have h : ([c] == a0.toList) = true := by assumption
  go_ret
  refine ⟨?_, Drawn0.refl _⟩
  have e : a0.data.toList = [c] := by rw [← Lib.toList_data]; exact (beq_iff_eq.1 h).symm
  rw [e]
  simp [Lib.indexByte]
 ·go_ret
  exact ⟨rfl, ⟨_, rfl⟩⟩

/-! ### stringslite_Cut: function 46 -/
def stringslite_Cut.f (a0 : ByteArray) (a1 : ByteArray) : Option (ByteArray × ByteArray × Bool) := (stringslite_Index.f a0 a1).bind fun t248 => (if t248 ≥ 0 then (if 0 ≤ t248 then (if t248 ≤ (a0.size : Int) then (if 0 ≤ (wrap64 (t248 + (a1.size : Int))) then (if (wrap64 (t248 + (a1.size : Int))) ≤ (a0.size : Int) then (some (a0.extract 0 (t248 : Int).toNat, a0.extract ((wrap64 (t248 + (a1.size : Int))) : Int).toNat a0.size, true)) else (none)) else (none)) else (none)) else (none)) else (some (a0, (⟨#[]⟩ : ByteArray), false)))
set_option maxHeartbeats 8000000 in
set_option maxRecDepth 100000 in
theorem stringslite_Cut.calls (a0 : ByteArray) (a1 : ByteArray) (r1 : ByteArray) (r2 : ByteArray) (r3 : Bool) (w : World) (h : stringslite_Cut.f a0 a1 = some (r1, r2, r3)) :
  Calls Tryd.prog 46 #[.string a0, .string a1] w fun e w' => e = .returned (.tuple #[.string r1, .string r2, .bool r3]) ∧ Drawn0 w w' := by
 have H : ((stringslite_Index.f a0 a1).bind fun t248 => (if t248 ≥ 0 then (if 0 ≤ t248 then (if t248 ≤ (a0.size : Int) then (if 0 ≤ (wrap64 (t248 + (a1.size : Int))) then (if (wrap64 (t248 + (a1.size : Int))) ≤ (a0.size : Int) then (some (a0.extract 0 (t248 : Int).toNat, a0.extract ((wrap64 (t248 + (a1.size : Int))) : Int).toNat a0.size, true)) else (none)) else (none)) else (none)) else (none)) else (some (a0, (⟨#[]⟩ : ByteArray), false)))) = some (r1, r2, r3) := h
 clear h
 replace H := Option.bind_eq_some_iff.mp H
 obtain ⟨t248, A30, H⟩ := H
 replace H : (if t248 ≥ 0 then (if 0 ≤ t248 then (if t248 ≤ (a0.size : Int) then (if 0 ≤ (wrap64 (t248 + (a1.size : Int))) then (if (wrap64 (t248 + (a1.size : Int))) ≤ (a0.size : Int) then (some (a0.extract 0 (t248 : Int).toNat, a0.extract ((wrap64 (t248 + (a1.size : Int))) : Int).toNat a0.size, true)) else (none)) else (none)) else (none)) else (none)) else (some (a0, (⟨#[]⟩ : ByteArray), false))) = some (r1, r2, r3) := H
 have A3 := Aside0.mk A30
 clear A30
 by_cases c4 : t248 ≥ 0
 ·rw [if_pos c4] at H
  have c4b0 : decide (0 ≤ t248) = true := decide_eq_true c4
  clear c4
  by_cases c5 : 0 ≤ t248
  ·rw [if_pos c5] at H
   have c5b0 := eq_true c5
   have c5b1 : decide (0 ≤ t248) = true := decide_eq_true c5
   clear c5
   by_cases c6 : t248 ≤ (a0.size : Int)
   ·rw [if_pos c6] at H
    have c6b0 := eq_true c6
    have c6b1 : decide (t248 ≤ (a0.size : Int)) = true := decide_eq_true c6
    clear c6
    obtain ⟨ji7, hji7⟩ : ∃ j_ : Int, (wrap64 (t248 + (a1.size : Int))) = j_ := ⟨_, rfl⟩
    replace H : (if 0 ≤ (ji7) then (if (ji7) ≤ (a0.size : Int) then (some (a0.extract 0 (t248 : Int).toNat, a0.extract ((ji7) : Int).toNat a0.size, true)) else (none)) else (none)) = some (r1, r2, r3) := by first | (rw [hji7] at H; exact H) | (simp only [hji7] at H ⊢; exact H)
    (try rw [hji7] at A3)
    have hji7w : (IntKind.i64.wrap (t248 + (a1.size : Int))) = ji7 := (i64_w _).trans hji7
    by_cases c8 : 0 ≤ (ji7)
    ·rw [if_pos c8] at H
     have c8b0 := eq_true c8
     have c8b1 : decide (0 ≤ (ji7)) = true := decide_eq_true c8
     clear c8
     by_cases c9 : (ji7) ≤ (a0.size : Int)
     ·rw [if_pos c9] at H
      have c9b0 := eq_true c9
      have c9b1 : decide ((ji7) ≤ (a0.size : Int)) = true := decide_eq_true c9
      clear c9
      simp only [Option.some.injEq, Prod.mk.injEq] at H
      obtain ⟨rfl, rfl, rfl⟩ := H
      go_enter Tryd.func46, Tryd.ntmps46
      go_wp2_with (first | (go_at_call 48; (with_reducible refine (stringslite_Index.calls a0 a1 t248 _ A3.out).mono ?_); rintro e w' ⟨rfl, ⟨nd, rfl⟩⟩; (try first | exact ⟨rfl, _, World.drewN_drewN _ _ _⟩ | exact ⟨rfl, _, Eq.trans (World.drewN_drewN _ _ _) (congrArg (World.drewN _) (Nat.add_assoc _ _ _))⟩)))
      repeat (go_quiet (first | (go_at_call 48; (with_reducible refine (stringslite_Index.calls a0 a1 t248 _ A3.out).mono ?_); rintro e w' ⟨rfl, ⟨nd, rfl⟩⟩; (try first | exact ⟨rfl, _, World.drewN_drewN _ _ _⟩ | exact ⟨rfl, _, Eq.trans (World.drewN_drewN _ _ _) (congrArg (World.drewN _) (Nat.add_assoc _ _ _))⟩))); try go_wp2_with (first | (go_at_call 48; (with_reducible refine (stringslite_Index.calls a0 a1 t248 _ A3.out).mono ?_); rintro e w' ⟨rfl, ⟨nd, rfl⟩⟩; (try first | exact ⟨rfl, _, World.drewN_drewN _ _ _⟩ | exact ⟨rfl, _, Eq.trans (World.drewN_drewN _ _ _) (congrArg (World.drewN _) (Nat.add_assoc _ _ _))⟩))))
      go_ret3
      exact ⟨by first | rfl | (simp; done) | (simp only [← hji7] <;> (first | rfl | simp)) | (simp [*]; done), by repeat (first | exact Drawn0.refl _ | apply Drawn0.step)⟩
     ·rw [if_neg c9] at H
      exact absurd H (by simp)
    ·rw [if_neg c8] at H
     exact absurd H (by simp)
   ·rw [if_neg c6] at H
    exact absurd H (by simp)
  ·rw [if_neg c5] at H
   exact absurd H (by simp)
 ·rw [if_neg c4] at H
  have c4b0 : decide (0 ≤ t248) = false := decide_eq_false c4
  clear c4
  simp only [Option.some.injEq, Prod.mk.injEq] at H
  obtain ⟨rfl, rfl, rfl⟩ := H
  go_enter Tryd.func46, Tryd.ntmps46
  go_wp2_with (first | (go_at_call 48; (with_reducible refine (stringslite_Index.calls a0 a1 t248 _ A3.out).mono ?_); rintro e w' ⟨rfl, ⟨nd, rfl⟩⟩; (try first | exact ⟨rfl, _, World.drewN_drewN _ _ _⟩ | exact ⟨rfl, _, Eq.trans (World.drewN_drewN _ _ _) (congrArg (World.drewN _) (Nat.add_assoc _ _ _))⟩)))
  go_ret3
  exact ⟨by first | rfl | (simp; done) | (simp [*]; done), by repeat (first | exact Drawn0.refl _ | apply Drawn0.step)⟩

/-! ### strings_Cut: function 42 -/
def strings_Cut.f (a0 : ByteArray) (a1 : ByteArray) : Option (ByteArray × ByteArray × Bool) := (stringslite_Cut.f a0 a1).bind fun bt249 => (some (bt249.1, bt249.2.1, bt249.2.2))
set_option maxHeartbeats 8000000 in
set_option maxRecDepth 100000 in
theorem strings_Cut.calls (a0 : ByteArray) (a1 : ByteArray) (r1 : ByteArray) (r2 : ByteArray) (r3 : Bool) (w : World) (h : strings_Cut.f a0 a1 = some (r1, r2, r3)) :
  Calls Tryd.prog 42 #[.string a0, .string a1] w fun e w' => e = .returned (.tuple #[.string r1, .string r2, .bool r3]) ∧ Drawn0 w w' := by
 have H : ((stringslite_Cut.f a0 a1).bind fun bt249 => (some (bt249.1, bt249.2.1, bt249.2.2))) = some (r1, r2, r3) := h
 clear h
 replace H := Option.bind_eq_some_iff.mp H
 obtain ⟨⟨t249, t250, t251⟩, A30, H⟩ := H
 replace H : (some (t249, t250, t251)) = some (r1, r2, r3) := H
 have A3 := Aside0.mk A30
 clear A30
 simp only [Option.some.injEq, Prod.mk.injEq] at H
 obtain ⟨rfl, rfl, rfl⟩ := H
 go_enter Tryd.func42, Tryd.ntmps42
 go_wp2_with (first | ((with_reducible refine gate_callee (f := 46) rfl ?_); refine goesL_ (some 9) rfl rfl Tryd.func46 (by kernel_rfl) rfl #[.string a0, .string a1] rfl am ?_; (with_reducible refine (stringslite_Cut.calls a0 a1 t249 t250 t251 _ A3.out).mono ?_); rintro e w' ⟨rfl, ⟨nd, rfl⟩⟩; refine ⟨_, rfl, ?_⟩))
 go_ret3
 exact ⟨by first | rfl | (simp; done) | (simp [*]; done), by repeat (first | exact Drawn0.refl _ | apply Drawn0.step)⟩

/-! ### codec_right: function 31 -/
/-- Is a byte one of the kinds' letters? -/
def letB (c : UInt8) : Bool := !decide (Lib.indexByte [98, 119, 108, 116] c < 0)
theorem below_convR (w : World) (e : TypeId) (s : ByteArray) : Below w.heap.size w (Lib.bytesWorld w e s) :=
 ⟨rfl, rfl, rfl, by rw [Lib.bytesWorld_size]; omega, fun i hi => Lib.bytesWorld_at_old w e s i hi⟩
theorem take_snocR (l : List UInt8) (k : Nat) (h : k < l.length) : l.take (k + 1) = l.take k ++ [l.getD k 0] := by
 rw [List.take_succ_eq_append_getElem h]
 simp [List.getD_eq_getElem?_getD, List.getElem?_eq_getElem h]
theorem toNat_toUInt8 (c : UInt8) : ((c.toNat : Nat) : Int).toNat.toUInt8 = c := by
 rw [show ((c.toNat : Nat) : Int).toNat = c.toNat from rfl]
 simp
def codec_right.f (a0 : ByteArray) : Option (Bool) := (strings_Cut.f a0 (⟨#[42]⟩ : ByteArray)).bind fun b =>
 if b.1.size + b.2.1.size ≤ 9223372036854775807 then some ((b.1 ++ b.2.1).data.toList.all letB && (!b.2.2 || (b.2.1.toList != ([] : List UInt8)))) else none
set_option maxHeartbeats 4000000 in
set_option maxRecDepth 100000 in
theorem codec_right.calls (a0 : ByteArray) (r : Bool) (w : World) (h : codec_right.f a0 = some r) :
  Calls Tryd.prog 31 #[.string a0] w fun e w' => e = .returned (.bool r) ∧ Below w.heap.size w w' := by
 unfold codec_right.f at h
 obtain ⟨⟨t1, t2, t3⟩, A20, h⟩ := Option.bind_eq_some_iff.mp h
 have A2 := Aside0.mk A20
 clear A20
 replace h : (if t1.size + t2.size ≤ 9223372036854775807 then some ((t1 ++ t2).data.toList.all letB && (!t3 || (t2.toList != ([] : List UInt8)))) else none) = some r := h
 by_cases c3 : t1.size + t2.size ≤ 9223372036854775807
 case neg => rw [if_neg c3] at h; exact absurd h (by simp)
 rw [if_pos c3] at h
 have HR := Aside0.mk (Option.some.inj h)
 clear h
 have c3b0 := eq_true c3
 have c3b1 : decide (t1.size + t2.size ≤ 9223372036854775807) = true := decide_eq_true c3
 have c3b2 : (9223372036854775807 < t1.size + t2.size) = False := eq_false (Nat.not_lt.2 c3)
 obtain ⟨n, hn⟩ : ∃ n : Nat, n = t1.size + t2.size := ⟨_, rfl⟩
 have HN := Aside0.mk hn
 have HSL : Aside0 ((t1 ++ t2).data.toList.length = n) := ⟨by rw [Array.length_toList, hn]; exact ByteArray.size_append⟩
 have hnb : n ≤ 9223372036854775807 := by omega
 clear hn c3
 go_enter Tryd.func31, Tryd.ntmps31
 go_wp2_with (first | ((with_reducible refine gate_callee (f := 42) rfl ?_); refine goesL_ (some 10) rfl rfl Tryd.func42 (by kernel_rfl) rfl #[.string a0, .string (⟨#[42]⟩ : ByteArray)] rfl am ?_; (with_reducible refine (strings_Cut.calls a0 (⟨#[42]⟩ : ByteArray) t1 t2 t3 _ A2.out).mono ?_); rintro e w1 ⟨rfl, hd⟩; refine ⟨_, rfl, ?_⟩; have HB1 := Aside0.mk hd.below; clear hd; have hconv := Lib.run_convert_string_bytes (P := Tryd.prog) w1 9 67 5 (t1 ++ t2) Tryd.underlying9 Tryd.underlying67 Tryd.underlying5; have HBW := Aside0.mk (below_convR w1 5 (t1 ++ t2)); have HCB := Aside0.mk (Lib.bytesWorld_cell w1 5 (t1 ++ t2)); generalize Lib.bytesWorld w1 5 (t1 ++ t2) = W1 at hconv HBW HCB; have hsz : (t1 ++ t2).size = n := (ByteArray.size_append.trans HN.out.symm); rw [hsz] at hconv HCB; clear hsz))
 go_loopw [19] (fun v19 w' => ∃ k : Nat, k ≤ n ∧ v19 = .int .i64 (k : Int) ∧ Aside0 (((t1 ++ t2).data.toList.take k).all letB = true) ∧ Drawn0 W1 w') (fun v19 _ => n - (intOf v19).toNat)
 case atStart => exact ⟨0, Nat.zero_le _, rfl, ⟨rfl⟩, Drawn0.refl _⟩
 case round =>
  obtain ⟨k, hk, rfl, HA, ⟨m1, rfl⟩⟩ := hrel
  by_cases hlt : k < n
  ·have hc0 := HCB.out k hlt
   obtain ⟨c, hc⟩ : ∃ c : UInt8, c = (t1 ++ t2).data.toList.getD k 0 := ⟨_, rfl⟩
   rw [← hc] at hc0
   have HC := Aside0.mk hc
   clear hc
   have hsn := take_snocR ((t1 ++ t2).data.toList) k (by rw [HSL.out]; exact hlt)
   rw [← HC.out] at hsn
   have HS := Aside0.mk hsn
   clear hsn
   obtain ⟨t, ht⟩ : ∃ t : Int, strings_IndexByte.f (⟨#[98, 119, 108, 116]⟩ : ByteArray) ((c.toNat : Nat) : Int) = some t := ⟨_, rfl⟩
   have htl : letB c = !decide (t < 0) := by
    have e : strings_IndexByte.f (⟨#[98, 119, 108, 116]⟩ : ByteArray) ((c.toNat : Nat) : Int) = some (Lib.indexByte [98, 119, 108, 116] (((c.toNat : Nat) : Int).toNat.toUInt8)) := rfl
    rw [toNat_toUInt8] at e
    rw [letB, Option.some.inj (ht.symm.trans e)]
   have HT := Aside0.mk htl
   have A3 := Aside0.mk ht
   clear htl ht
   by_cases ct : t < 0
   ·have ctb : decide (t < 0) = true := decide_eq_true ct
    have hf : letB c = false := by rw [HT.out, ctb]; rfl
    have hr : r = false := by
     rw [← HR.out]
     have : (t1 ++ t2).data.toList.all letB = false := by
      rw [← List.take_append_drop (k + 1) ((t1 ++ t2).data.toList), List.all_append, HS.out, List.all_append]
      simp [hf]
     rw [this]
     rfl
    subst hr
    clear ct hf
    go_wp2_with (first | ((with_reducible refine gate_callee (f := 32) rfl ?_); refine goesL_ (some 24) rfl rfl Tryd.func32 (by kernel_rfl) rfl #[.string (⟨#[98, 119, 108, 116]⟩ : ByteArray), .int .u8 ((c.toNat : Nat) : Int)] rfl am ?_; (with_reducible refine (strings_IndexByte.calls (⟨#[98, 119, 108, 116]⟩ : ByteArray) ((c.toNat : Nat) : Int) t _ A3.out).mono ?_); rintro e w' ⟨rfl, ⟨nd, rfl⟩⟩; refine ⟨_, rfl, ?_⟩))
    go_ret
    exact ⟨rfl, ((HB1.out.trans (HBW.out.mono HB1.out.size)).trans ((Drawn0.step (Drawn0.refl W1) _).below.mono (HB1.out.trans (HBW.out.mono HB1.out.size)).size))⟩
   ·have ctb : decide (t < 0) = false := decide_eq_false ct
    have hf : letB c = true := by rw [HT.out, ctb]; rfl
    have HF : Aside0 (((t1 ++ t2).data.toList.take (k + 1)).all letB = true) := ⟨by rw [HS.out, List.all_append, HA.out]; simp [hf]⟩
    clear ct hf
    go_wp2_with (first | ((with_reducible refine gate_callee (f := 32) rfl ?_); refine goesL_ (some 24) rfl rfl Tryd.func32 (by kernel_rfl) rfl #[.string (⟨#[98, 119, 108, 116]⟩ : ByteArray), .int .u8 ((c.toNat : Nat) : Int)] rfl am ?_; (with_reducible refine (strings_IndexByte.calls (⟨#[98, 119, 108, 116]⟩ : ByteArray) ((c.toNat : Nat) : Int) t _ A3.out).mono ?_); rintro e w' ⟨rfl, ⟨nd, rfl⟩⟩; refine ⟨_, rfl, ?_⟩))
    go_roundw
    case rel => exact ⟨k + 1, by omega, by go_num, HF, Drawn0.step (Drawn0.refl W1) _⟩
    case measure => simp [intOf]; omega
  ·obtain rfl : k = n := by omega
   have hall : (t1 ++ t2).data.toList.all letB = true := by have := HA.out; rwa [List.take_of_length_le (by rw [HSL.out]; exact Nat.le_refl _)] at this
   have hr : (!t3 || (t2.toList != ([] : List UInt8))) = r := by have := HR.out; rw [hall] at this; simpa using this
   have HRR := Aside0.mk hr
   clear hr hall
   cases t3
   ·have hr : r = true := by rw [← HRR.out]; rfl
    subst hr
    go_wp2
    go_ret
    exact ⟨rfl, ((HB1.out.trans (HBW.out.mono HB1.out.size)).trans ((Drawn0.step (Drawn0.refl W1) _).below.mono (HB1.out.trans (HBW.out.mono HB1.out.size)).size))⟩
   ·obtain rfl : (t2.toList != ([] : List UInt8)) = r := by have := HRR.out; simpa using this
    go_wp2
    go_ret
    exact ⟨congrArg (fun b : Bool => Ending.returned (.bool b)) (show (!t2.toList.isEmpty) = (t2.toList != ([] : List UInt8)) by cases t2.toList <;> rfl), ((HB1.out.trans (HBW.out.mono HB1.out.size)).trans ((Drawn0.step (Drawn0.refl W1) _).below.mono (HB1.out.trans (HBW.out.mono HB1.out.size)).size))⟩

/-- A state of type 74 at block g of W; what its slices lead to came in by w0. -/
def IsS74 (w0 W : World) (g : Nat) (f0 : ByteArray) (f1 : Int) : Prop := W.heap[g]? = some (.cells #[.string f0, .int .i64 f1] 74 (0, 0)) ∧ w0.heap.size ≤ g
theorem IsS74.grown {w0 W : World} {g : Nat} {f0 : ByteArray} {f1 : Int} {W1 : World} {row : Option Nat} (h : IsS74 w0 W g f0 f1) (hw : W.grownBy W1 row) (hne : some g ≠ row) : IsS74 w0 W1 g f0 f1 := by
 obtain ⟨hb, hg⟩ := h
 exact ⟨blk_grown hb hw hne, hg⟩
theorem IsS74.own_neN {w0 W : World} {g : Nat} {f0 : ByteArray} {f1 : Int} {α : Type} {d : Kd α} {e : Nat} {base : Nat} {ok : Nat → Prop} {v : Value} {xs : List α} (h : IsS74 w0 W g f0 f1) (ho : Kd.N d e W base ok v xs) (ht : e ≠ 74) : some g ≠ v.ownBlock := by
 obtain ⟨hb, hg⟩ := h
 exact Kd.N_ne ho hb ht
theorem IsS74.fresh {w0 W : World} {g : Nat} {f0 : ByteArray} {f1 : Int} (h : IsS74 w0 W g f0 f1) : ∀ k, W.heap.size ≤ k → k ≠ g := by
 obtain ⟨hb, hg⟩ := h
 exact Kd.freshB hb
theorem IsS74.kept {w0 W : World} {g : Nat} {f0 : ByteArray} {f1 : Int} {W1 : World} {S : Nat → Prop} (h : IsS74 w0 W g f0 f1) (hk : Kept W W1 S) (hne : ¬ S g) : IsS74 w0 W1 g f0 f1 := by
 obtain ⟨hb, hg⟩ := h
 exact ⟨blk_kept hb hk hne, hg⟩
theorem IsS74.below {w0 W : World} {g : Nat} {f0 : ByteArray} {f1 : Int} {W1 : World} (h : IsS74 w0 W g f0 f1) (hw : Below W.heap.size W W1) : IsS74 w0 W1 g f0 f1 := h.grown (grown_of_below hw none) (by simp)
theorem IsS74.alloc {w0 W : World} {g : Nat} {f0 : ByteArray} {f1 : Int} (h : IsS74 w0 W g f0 f1) (o : Obj) : IsS74 w0 (W.alloc o) g f0 f1 := h.below (below_alloc (Below.refl _ _) o)
theorem IsS74.drewN {w0 W : World} {g : Nat} {f0 : ByteArray} {f1 : Int} (h : IsS74 w0 W g f0 f1) (m : Nat) : IsS74 w0 (W.drewN m) g f0 f1 := h
theorem IsS74.drew {w0 W : World} {g : Nat} {f0 : ByteArray} {f1 : Int} (h : IsS74 w0 W g f0 f1) : IsS74 w0 W.drew g f0 f1 := h
theorem IsS74.at_ {w0 W : World} {g : Nat} {f0 : ByteArray} {f1 : Int} {w' : World} {m : Nat} (hq : W.drewN m = w') (h : IsS74 w0 W g f0 f1) : IsS74 w0 w' g f0 f1 := by subst hq; exact IsS74.drewN h m
theorem IsS74.apart {w0 W : World} {g : Nat} {f0 : ByteArray} {f1 : Int} {α : Type} {d : Kd α} {e : Nat} {base : Nat} {ok : Nat → Prop} {v : Value} {xs : List α} (h : IsS74 w0 W g f0 f1) (ho : d.R e W base ok v xs) (ht : ∀ q, q ∈ e :: d.E → q ≠ 74) : d.R e W base (fun k => ok k ∧ k ≠ g) v xs := by
 obtain ⟨hb, hg⟩ := h
 exact Kd.R_types ho hb ht
theorem IsS74.own_ne {w0 W : World} {g : Nat} {f0 : ByteArray} {f1 : Int} {α : Type} {d : Kd α} {e : Nat} {base : Nat} {ok : Nat → Prop} {v : Value} {xs : List α} (h : IsS74 w0 W g f0 f1) (ho : d.R e W base ok v xs) (ht : e ≠ 74) : some g ≠ v.ownBlock := by
 obtain ⟨hb, hg⟩ := h
 exact Kd.R_ne ho hb ht
theorem IsS74.apartQ {w0 W : World} {g : Nat} {f0 : ByteArray} {f1 : Int} {α : Type} {d : Kd α} {e : Nat} {base : Nat} {ok : Nat → Prop} {v : Value} {xs : List α} (h : IsS74 w0 W g f0 f1) (ho : d.Q e W base ok v xs) (ht : ∀ q, q ∈ e :: d.E → q ≠ 74) : d.Q e W base (fun k => ok k ∧ k ≠ g) v xs := by
 obtain ⟨hb, hg⟩ := h
 exact Kd.Q_types ho hb ht
theorem IsS74.own_neQ {w0 W : World} {g : Nat} {f0 : ByteArray} {f1 : Int} {α : Type} {d : Kd α} {e : Nat} {base : Nat} {ok : Nat → Prop} {v : Value} {xs : List α} (h : IsS74 w0 W g f0 f1) (ho : d.Q e W base ok v xs) (ht : e ≠ 74) : some g ≠ v.ownBlock := by
 obtain ⟨hb, hg⟩ := h
 exact Kd.Q_ne ho hb ht
theorem IsS74.apartS {w0 W : World} {g : Nat} {f0 : ByteArray} {f1 : Int} {α : Type} {d : Kd α} {e : Nat} {base : Nat} {ok : Nat → Prop} {v : Value} {xs : List α} (h : IsS74 w0 W g f0 f1) (ho : d.S e W base ok v xs) (ht : ∀ q, q ∈ e :: d.E → q ≠ 74) : d.S e W base (fun k => ok k ∧ k ≠ g) v xs := by
 obtain ⟨hb, hg⟩ := h
 exact Kd.S_types ho hb ht
theorem IsS74.own_neS {w0 W : World} {g : Nat} {f0 : ByteArray} {f1 : Int} {α : Type} {d : Kd α} {e : Nat} {base : Nat} {ok : Nat → Prop} {v : Value} {xs : List α} (h : IsS74 w0 W g f0 f1) (ho : d.S e W base ok v xs) (ht : e ≠ 74) : some g ≠ v.ownBlock := by
 obtain ⟨hb, hg⟩ := h
 exact Kd.S_ne ho hb ht
theorem IsS74.lt {w0 W : World} {g : Nat} {f0 : ByteArray} {f1 : Int} (h : IsS74 w0 W g f0 f1) : g < W.heap.size := by
 obtain ⟨hb, hg⟩ := h
 exact blk_lt hb
theorem IsS74.ge {w0 W : World} {g : Nat} {f0 : ByteArray} {f1 : Int} (h : IsS74 w0 W g f0 f1) : w0.heap.size ≤ g := by
 obtain ⟨hb, hg⟩ := h
 exact hg
theorem IsS74.ne_blk {w0 W : World} {g : Nat} {f0 : ByteArray} {f1 : Int} {a : Nat} {cs : Array Value} {t : TypeId} {fr : Nat × Nat} (h : IsS74 w0 W g f0 f1) (hb2 : W.heap[a]? = some (.cells cs t fr)) (ht : t ≠ 74) : g ≠ a := by
 obtain ⟨hb, hg⟩ := h
 rintro rfl
 rw [hb] at hb2
 injection hb2 with hb2
 injection hb2 with _ ht2
 exact ht ht2.symm
theorem IsS74.far {w0 W : World} {g : Nat} {f0 : ByteArray} {f1 : Int} {p : Addr} (h : IsS74 w0 W g f0 f1) (hne : g ≠ p.block) (u : Value) : IsS74 w0 (W.setCell p u) g f0 f1 := by
 obtain ⟨hb, hg⟩ := h
 exact ⟨blk_far hb hne u, hg⟩
theorem cellS74_0 {W : World} {g : Nat} {f0 : ByteArray} {f1 : Int} (h : W.heap[g]? = some (.cells #[.string f0, .int .i64 f1] 74 (0, 0))) : W.cell? ⟨g, 0, none⟩ = some (.string f0) := (blk_cell h 0).trans rfl
theorem IsS74.set_0 {w0 W : World} {g : Nat} {f0 : ByteArray} {f1 : Int} (h : IsS74 w0 W g f0 f1) (x : ByteArray) : IsS74 w0 (W.setCell ⟨g, 0, none⟩ (.string x)) g x f1 := by
 obtain ⟨hb, hg⟩ := h
 exact ⟨by simpa using blk_set hb 0 (.string x), hg⟩
theorem cellS74_1 {W : World} {g : Nat} {f0 : ByteArray} {f1 : Int} (h : W.heap[g]? = some (.cells #[.string f0, .int .i64 f1] 74 (0, 0))) : W.cell? ⟨g, 1, none⟩ = some (.int .i64 f1) := (blk_cell h 1).trans rfl
theorem IsS74.set_1 {w0 W : World} {g : Nat} {f0 : ByteArray} {f1 : Int} (h : IsS74 w0 W g f0 f1) (x : Int) : IsS74 w0 (W.setCell ⟨g, 1, none⟩ (.int .i64 x)) g f0 x := by
 obtain ⟨hb, hg⟩ := h
 exact ⟨by simpa using blk_set hb 1 (.int .i64 x), hg⟩
theorem IsS74.new (w0 W : World) (f0 : ByteArray) (f1 : Int) (hB : Below w0.heap.size w0 W) : IsS74 w0 (W.alloc (.cells #[.string f0, .int .i64 f1] 74)) W.heap.size f0 f1 := ⟨by simpa using heap_alloc_new W _, hB.size⟩

/-! ### codec_reader_number: function 34 -/
/-- The number of some bytes. -/
def beNat (l : List UInt8) : Nat := l.foldl (fun n c => n * 256 + c.toNat) 0
theorem beNat_snoc (l : List UInt8) (c : UInt8) : beNat (l ++ [c]) = beNat l * 256 + c.toNat := by simp [beNat]
theorem beNat_lt (l : List UInt8) : beNat l < 256 ^ l.length := by
 have key : ∀ (l : List UInt8) (a : Nat), l.foldl (fun n c => n * 256 + c.toNat) a < (a + 1) * 256 ^ l.length := by
  intro l
  induction l with
  | nil => intro a; simp
  | cons c l ih =>
   intro a
   have h1 := ih (a * 256 + c.toNat)
   have h2 := c.toNat_lt
   rw [List.foldl_cons, List.length_cons, Nat.pow_succ]
   refine Nat.lt_of_lt_of_le h1 ?_
   rw [Nat.mul_comm (256 ^ l.length) 256, ← Nat.mul_assoc]
   exact Nat.mul_le_mul_right _ (by omega)
 have := key l 0
 simpa [beNat] using this
theorem below_convB (w : World) (e : TypeId) (s : ByteArray) : Below w.heap.size w (Lib.bytesWorld w e s) :=
 ⟨rfl, rfl, rfl, by rw [Lib.bytesWorld_size]; omega, fun i hi => Lib.bytesWorld_at_old w e s i hi⟩
theorem take_snocB (l : List UInt8) (k : Nat) (h : k < l.length) : l.take (k + 1) = l.take k ++ [l.getD k 0] := by
 rw [List.take_succ_eq_append_getElem h]
 simp [List.getD_eq_getElem?_getD, List.getElem?_eq_getElem h]
theorem or_byte (m c : Nat) (hm : m < 72057594037927936) (hc : c < 256) : Go.bits .or .u64 (IntKind.u64.wrap ((m : Int) * 256)) (c : Int) = ((m * 256 + c : Nat) : Int) := by
 have e : IntKind.u64.wrap ((m : Int) * 256) = ((m * 256 : Nat) : Int) := by
  show ((m : Int) * 256) % 18446744073709551616 = _
  omega
 rw [e, u64_or_nat (m * 256) c (by omega) (by omega)]
 have := Nat.two_pow_add_eq_or_of_lt (i := 8) (b := c) (by omega) m
 rw [show m * 256 = 2 ^ 8 * m by omega, ← this]
theorem extract_list (s : ByteArray) (i j : Nat) : (s.extract i j).data.toList = (s.data.toList.drop i).take (j - i) := by
 rw [ByteArray.data_extract, Array.toList_extract, List.extract_eq_take_drop]
def codec_reader_number.f (s0_0 : ByteArray) (s0_1 : Int) (a1 : Int) : Option (Int × ByteArray × Int) :=
 if (s0_0.size : Int) < a1 then some (0, s0_0, 2) else if 0 ≤ a1 ∧ a1 ≤ 8 then some ((beNat (s0_0.data.toList.take a1.toNat) : Int), s0_0.extract a1.toNat s0_0.size, s0_1) else none
set_option maxHeartbeats 4000000 in
set_option maxRecDepth 100000 in
theorem codec_reader_number.calls (g : Nat) (s0_0 : ByteArray) (s0_1 : Int) (a1 : Int) (r1 : Int) (r2 : ByteArray) (r3 : Int) (w0 w : World) (hI : IsS74 w0 w g s0_0 s0_1) (hB : Below w0.heap.size w0 w) (h : codec_reader_number.f s0_0 s0_1 a1 = some (r1, r2, r3)) :
  Calls Tryd.prog 34 #[.pointer (some ⟨g, 0, none⟩), .int .i64 a1] w fun e w' => e = .returned (.int .u64 r1) ∧ IsS74 w0 w' g r2 r3 ∧ Below w0.heap.size w0 w' ∧ KeepBut w w' g none := by
 unfold codec_reader_number.f at h
 by_cases c0 : (s0_0.size : Int) < a1
 ·rw [if_pos c0] at h
  have c0b : decide ((s0_0.size : Int) < a1) = true := decide_eq_true c0
  clear c0
  simp only [Option.some.injEq, Prod.mk.injEq] at h
  obtain ⟨rfl, rfl, rfl⟩ := h
  have HI0 := Aside0.mk hI
  have HB := Aside0.mk hB
  have HK := Aside0.mk (KeepBut.refl w g none)
  obtain ⟨HG, hg⟩ := hI
  have hcz_0 := cellS74_0 HG
  have hcz_1 := cellS74_1 HG
  have hfz_0 := blk_frozen HG 0
  have hfz_1 := blk_frozen HG 1
  clear HG hg hB
  go_enter Tryd.func34, Tryd.ntmps34
  go_wp2
  go_ret
  exact ⟨rfl, IsS74.set_1 HI0.out 2, below_set HB.out (IsS74.ge HI0.out), KeepBut.set_ HK.out _ _⟩
 ·rw [if_neg c0] at h
  by_cases c1 : 0 ≤ a1 ∧ a1 ≤ 8
  case neg => rw [if_neg c1] at h; exact absurd h (by simp)
  rw [if_pos c1] at h
  obtain ⟨m, rfl⟩ : ∃ m : Nat, a1 = (m : Int) := ⟨a1.toNat, by omega⟩
  have hm8 : m ≤ 8 := by omega
  have hms : m ≤ s0_0.size := by omega
  clear c1
  rw [show ((m : Int)).toNat = m from rfl] at h
  simp only [Option.some.injEq, Prod.mk.injEq] at h
  obtain ⟨rfl, rfl, rfl⟩ := h
  obtain ⟨sx, hsx⟩ : ∃ sx : ByteArray, sx = s0_0.extract 0 m := ⟨_, rfl⟩
  have hsl : sx.data.toList = s0_0.data.toList.take m := by rw [hsx, extract_list]; simp
  have hsz : sx.size = m := by rw [hsx, ByteArray.size_extract]; omega
  have hln : sx.data.toList.length = m := by rw [Array.length_toList]; exact hsz
  have hconv := Lib.run_convert_string_bytes (P := Tryd.prog) w 9 67 5 sx Tryd.underlying9 Tryd.underlying67 Tryd.underlying5
  rw [hsz] at hconv
  have HBW := Aside0.mk (below_convB w 5 sx)
  have HCB := Aside0.mk (Lib.bytesWorld_cell w 5 sx)
  have HI1 := Aside0.mk (IsS74.below hI (below_convB w 5 sx))
  obtain ⟨HG0, hg0⟩ := hI
  have hdz_0 := cellS74_0 HG0
  have hdz_1 := cellS74_1 HG0
  clear HG0
  generalize Lib.bytesWorld w 5 sx = W1 at hconv HBW HCB HI1
  rw [hsx] at hconv
  have HB := Aside0.mk (hB.trans (HBW.out.mono hB.size))
  have HK := Aside0.mk (KeepBut.of_below HBW.out g none)
  obtain ⟨HG1, hg1⟩ := HI1.out
  have hcz_0 := cellS74_0 HG1
  have hcz_1 := cellS74_1 HG1
  have hfz_0 := blk_frozen HG1 0
  have hfz_1 := blk_frozen HG1 1
  have HSL := Aside0.mk hsl
  have HLN := Aside0.mk hln
  have HSZ := Aside0.mk hsz
  have c0b : decide (s0_0.size < m) = false := decide_eq_false (by omega)
  clear HG1 hg1 hg0 hB hsl hln hsz c0
  go_enter Tryd.func34, Tryd.ntmps34
  go_wp2
  go_loop [5, 26] (fun v5 v26 => ∃ (k n : Nat), k ≤ m ∧ v26 = .int .i64 k ∧ v5 = .int .u64 (n : Int) ∧ n < 256 ^ k ∧ Aside0 (n = beNat (s0_0.data.toList.take k))) (fun _ v26 => m - (intOf v26).toNat)
  case atStart => exact ⟨0, 0, Nat.zero_le _, rfl, rfl, by decide, ⟨by simp [beNat]⟩⟩
  case round =>
   obtain ⟨k, n, hk, rfl, rfl, hn, HN⟩ := hrel
   by_cases hlt : k < m
   ·have hc0 := HCB.out k (by rw [HSZ.out]; exact hlt)
    obtain ⟨c, hc⟩ : ∃ c : Nat, c = (sx.data.toList.getD k 0).toNat := ⟨_, rfl⟩
    rw [← hc] at hc0
    have hc1 : c < 256 := by rw [hc]; exact UInt8.toNat_lt _
    have HC := Aside0.mk hc
    clear hc
    have hn7 : n < 72057594037927936 := Nat.lt_of_lt_of_le hn (by
     have : 256 ^ k ≤ 256 ^ 7 := Nat.pow_le_pow_right (by decide) (by omega)
     simpa using this)
    obtain ⟨n2, hn2⟩ : ∃ x : Nat, x = n * 256 + c := ⟨_, rfl⟩
    have hor := or_byte n c hn7 hc1
    rw [← hn2] at hor
    have hcm : (c : Int) % 18446744073709551616 = (c : Int) := by omega
    have hn2l : n2 < 256 ^ (k + 1) := by rw [hn2, Nat.pow_succ]; omega
    have HF : Aside0 (n2 = beNat (s0_0.data.toList.take (k + 1))) := ⟨by
     have h1 : k < s0_0.data.toList.length := by rw [Array.length_toList]; exact Nat.lt_of_lt_of_le hlt hms
     rw [take_snocB _ k h1, beNat_snoc, ← HN.out, hn2, HC.out, HSL.out]
     rw [show (List.take m s0_0.data.toList).getD k 0 = s0_0.data.toList.getD k 0 by rw [List.getD_eq_getElem?_getD, List.getD_eq_getElem?_getD, List.getElem?_take_of_lt hlt]]⟩
    clear hn2 hn hn7
    go_wp2
    go_round
    case rel => exact ⟨k + 1, n2, by omega, by go_num, rfl, hn2l, HF⟩
    case measure => simp [intOf]; omega
   ·obtain rfl : k = m := by omega
    go_wp2
    go_ret
    exact ⟨congrArg (fun x : Nat => Ending.returned (.int .u64 (x : Int))) HN.out, IsS74.set_0 HI1.out _, below_set HB.out (IsS74.ge HI1.out), KeepBut.set_ HK.out _ _⟩

end Go.Proofs.YtbcpjegakjcmgaaDoor.P
