-- Printed by this session's program wip/xp.py (a turned copy of the kit's printer): functions, their contracts.
import Derived.Test.YtbcpjegakjcmgaaDoorPx0
import Derived.Test.YtbcpjegakjcmgaaDoorPx2
namespace Go.Proofs.YtbcpjegakjcmgaaDoor.P
open Go.RowKit Go.Proofs.YtbcpjegakjcmgaaDoorW.PrintWords Go.Proofs.YtbcpjegakjcmgaaDoorW.PrintLast Go.Proofs.YtbcpjegakjcmgaaDoorW.PrintMore
attribute [local go_sem] max2_int min2_int max_two min_two max_three min_three max_four min_four   -- for this text's walks alone
set_option linter.unusedVariables false
set_option linter.unusedSimpArgs false

/-! ### view_Next: function 12 -/
def nmx (a b : Int) : Int := if a < b then b else a
mutual
def view_Next.l0 : Nat → List Int → List (S38) → Int → Int → Int → List (S38) → List Int → Option (Int × (List (S38)) × Int)
 | 0, _, _, _, _, _, _, _ => none
 | k + 1, x2, x23, x24, x25, x115000, x115001, lv => if x25 < x24 then (if 0 ≤ x25 then (if x25 < (x23.length : Int) then ((view_RightMember.f ((rd_T38 x23 x25).f0) ((rd_T38 x23 x25).f1)).bind fun t120 => (if t120 = true then ((slices_Contains_int_int.f k x2 ((rd_T38 x23 x25).f0)).bind fun t121 => (if t121 = true then (if 0 ≤ ((rd_T38 x23 x25).f0) then (if ((rd_T38 x23 x25).f0) < 7 then (view_Next.l0 k x2 x23 x24 (wrap64 (x25 + 1)) x115000 x115001 (lv.set ((rd_T38 x23 x25).f0).toNat (nmx (lv.getD ((rd_T38 x23 x25).f0).toNat 0) ((rd_T38 x23 x25).f1)))) else (none)) else (none)) else (view_Next.l0 k x2 x23 x24 (wrap64 (x25 + 1)) x115000 x115001 lv))) else (some (0, ([] : List (S38)), 1)))) else (none)) else (none)) else (view_Next.l1 k 0 lv x115000 x115001 (wrap64 (x115000 + 1)) ([] : List (S38)))
def view_Next.l1 : Nat → Int → List Int → Int → List (S38) → Int → List (S38) → Option (Int × (List (S38)) × Int)
 | 0, _, _, _, _, _, _ => none
 | k + 1, x53, lv, x115000, x115001, x123000, x123001 => if x53 < 7 then (if 0 ≤ x53 then (if (lv.getD x53.toNat 0) > 0 then (if x123001.length < 8796093022208 then (view_Next.l1 k (wrap64 (x53 + 1)) lv x115000 x115001 x123000 (x123001 ++ [(⟨x53, (lv.getD x53.toNat 0)⟩ : S38)])) else (none)) else (view_Next.l1 k (wrap64 (x53 + 1)) lv x115000 x115001 x123000 x123001)) else (none)) else ((view_Common.f x115000 x115001 x123000 x123001).bind fun t126 => ((view_Majority.f x115000 x115001).bind fun t127 => (if t126 < t127 then (some (0, ([] : List (S38)), 12)) else (some (x123000, x123001, 0)))))
end
def view_Next.f (k : Nat) (a0_0 : Int) (l0_1 : List (S38)) (l1 : List (S38)) (l2 : List Int) : Option (Int × (List (S38)) × Int) := (view_Right.f k a0_0 l0_1).bind fun t116 => (if t116 = true then (if a0_0 = 9007199254740991 then (some (0, ([] : List (S38)), 1)) else (view_Next.l0 k l2 l1 (l1.length : Int) 0 a0_0 l0_1 [0, 0, 0, 0, 0, 0, 0])) else (some (0, ([] : List (S38)), 1)))
theorem view_Next.mono_l : ∀ k, (∀ y0 y1 y2 y3 y4 y5 y6, LeO (view_Next.l0 k y0 y1 y2 y3 y4 y5 y6) (view_Next.l0 (k + 1) y0 y1 y2 y3 y4 y5 y6)) ∧ (∀ y0 y1 y2 y3 y4 y5, LeO (view_Next.l1 k y0 y1 y2 y3 y4 y5) (view_Next.l1 (k + 1) y0 y1 y2 y3 y4 y5))
 | 0 => ⟨fun _ _ _ _ _ _ _ r h => by simp [view_Next.l0] at h, fun _ _ _ _ _ _ r h => by simp [view_Next.l1] at h⟩
 | k + 1 => by
  obtain ⟨ih0, ih1⟩ := view_Next.mono_l k
  refine ⟨?_, ?_⟩
  ·intro y0 y1 y2 y3 y4 y5 y6
   unfold view_Next.l0
   repeat' first
   | (with_reducible exact ih0 _ _ _ _ _ _ _)
   | (with_reducible exact ih1 _ _ _ _ _ _)
   | (with_reducible exact slices_Contains_int_int.mono _ _ _)
   | (with_reducible exact view_Right.mono _ _ _)
   | (with_reducible exact LeO.refl _)
   | (with_reducible exact LeO.none _)
   | (with_reducible refine LeO.ite ?_ ?_)
   | (with_reducible refine LeO.bind ?_ (fun _ => ?_))
   | exact ih0 _ _ _ _ _ _ _
   | exact ih1 _ _ _ _ _ _
   | exact slices_Contains_int_int.mono _ _ _
   | exact view_Right.mono _ _ _
   | exact LeO.none _
   | refine LeO.ite ?_ ?_
   | refine LeO.bind ?_ (fun _ => ?_)
  ·intro y0 y1 y2 y3 y4 y5
   unfold view_Next.l1
   repeat' first
   | (with_reducible exact ih0 _ _ _ _ _ _ _)
   | (with_reducible exact ih1 _ _ _ _ _ _)
   | (with_reducible exact slices_Contains_int_int.mono _ _ _)
   | (with_reducible exact view_Right.mono _ _ _)
   | (with_reducible exact LeO.refl _)
   | (with_reducible exact LeO.none _)
   | (with_reducible refine LeO.ite ?_ ?_)
   | (with_reducible refine LeO.bind ?_ (fun _ => ?_))
   | exact ih0 _ _ _ _ _ _ _
   | exact ih1 _ _ _ _ _ _
   | exact slices_Contains_int_int.mono _ _ _
   | exact view_Right.mono _ _ _
   | exact LeO.none _
   | refine LeO.ite ?_ ?_
   | refine LeO.bind ?_ (fun _ => ?_)
theorem view_Next.mono : ∀ a0 a1 a2 a3 k, LeO (view_Next.f k a0 a1 a2 a3) (view_Next.f (k + 1) a0 a1 a2 a3) := by
 intro a0 a1 a2 a3 k
 obtain ⟨ih0, ih1⟩ := view_Next.mono_l k
 unfold view_Next.f
 repeat' first
   | (with_reducible exact ih0 _ _ _ _ _ _ _)
   | (with_reducible exact ih1 _ _ _ _ _ _)
   | (with_reducible exact slices_Contains_int_int.mono _ _ _)
   | (with_reducible exact view_Right.mono _ _ _)
   | (with_reducible exact LeO.refl _)
   | (with_reducible exact LeO.none _)
   | (with_reducible refine LeO.ite ?_ ?_)
   | (with_reducible refine LeO.bind ?_ (fun _ => ?_))
   | exact ih0 _ _ _ _ _ _ _
   | exact ih1 _ _ _ _ _ _
   | exact slices_Contains_int_int.mono _ _ _
   | exact view_Right.mono _ _ _
   | exact LeO.none _
   | refine LeO.ite ?_ ?_
   | refine LeO.bind ?_ (fun _ => ?_)
theorem ix61 (d0 d1 d2 d3 d4 d5 d6 i : Int) (h0 : 0 ≤ i) (h7 : i < 7) (w_ : World) : (Instr.index 61 (.agg #[.int .i64 d0, .int .i64 d1, .int .i64 d2, .int .i64 d3, .int .i64 d4, .int .i64 d5, .int .i64 d6]) (.int .i64 i)).run Tryd.prog w_ = .ok (.int .i64 ([d0, d1, d2, d3, d4, d5, d6].getD i.toNat 0)) w_ := by
 have h : i = 0 ∨ i = 1 ∨ i = 2 ∨ i = 3 ∨ i = 4 ∨ i = 5 ∨ i = 6 := by omega
 rcases h with rfl | rfl | rfl | rfl | rfl | rfl | rfl <;> exact run_index_agg (sz := 1) Tryd.underlying61 (by decide) (by go_simp) (by go_simp)
set_option maxHeartbeats 8000000 in
set_option maxRecDepth 100000 in
theorem view_Next.calls (k : Nat) (a0_0 : Int) (A0_1 : Option Addr) (c0_1 : Nat) (l0_1 : List (S38)) (A1 : Option Addr) (c1 : Nat) (l1 : List (S38)) (A2 : Option Addr) (c2 : Nat) (l2 : List Int) (r1 : Int) (r2 : List (S38)) (r3 : Int) (w : World) (hr0_1 : Kd.C k38 w A0_1 l0_1.length l0_1) (hc0_1 : l0_1.length ≤ c0_1) (hr1 : Kd.C k38 w A1 l1.length l1) (hc1 : l1.length ≤ c1) (hr2 : Kd.C (Kd.int .i64) w A2 l2.length l2) (hc2 : l2.length ≤ c2) (h : view_Next.f k a0_0 l0_1 l1 l2 = some (r1, r2, r3)) :
  Calls Tryd.prog 12 #[.agg #[.int .i64 a0_0, .slice A0_1 l0_1.length c0_1], .slice A1 l1.length c1, .slice A2 l2.length c2] w fun e w' => ∃ v1_ : Value, e = .returned (.tuple #[.agg #[.int .i64 r1, v1_], .int .i64 r3]) ∧ Kd.R k38 38 w' w.heap.size (fun _ => True) v1_ r2 ∧ Below w.heap.size w w' := by
 have hu24 := Tryd.underlying24
 have hu61 := Tryd.underlying61
 have hu38 := Tryd.underlying38
 have HR0_1 := Aside0.mk hr0_1
 have HC0_1 := Aside0.mk hc0_1
 clear hr0_1 hc0_1
 have HR1 := Aside0.mk hr1
 have HC1 := Aside0.mk hc1
 clear hr1 hc1
 have HR2 := Aside0.mk hr2
 have HC2 := Aside0.mk hc2
 clear hr2 hc2
 have HB := Aside0.mk (Below.refl w.heap.size w)
 have H : ((view_Right.f k a0_0 l0_1).bind fun t116 => (if t116 = true then (if a0_0 = 9007199254740991 then (some (0, ([] : List (S38)), 1)) else (view_Next.l0 k l2 l1 (l1.length : Int) 0 a0_0 l0_1 [0, 0, 0, 0, 0, 0, 0])) else (some (0, ([] : List (S38)), 1)))) = some (r1, r2, r3) := h
 clear h
 replace H := Option.bind_eq_some_iff.mp H
 obtain ⟨t116, A40, H⟩ := H
 replace H : (if t116 = true then (if a0_0 = 9007199254740991 then (some (0, ([] : List (S38)), 1)) else (view_Next.l0 k l2 l1 (l1.length : Int) 0 a0_0 l0_1 [0, 0, 0, 0, 0, 0, 0])) else (some (0, ([] : List (S38)), 1))) = some (r1, r2, r3) := H
 have A4 := Aside0.mk A40
 clear A40
 by_cases c5 : t116 = true
 ·subst c5
  have H1 : (if a0_0 = 9007199254740991 then (some (0, ([] : List (S38)), 1)) else (view_Next.l0 k l2 l1 (l1.length : Int) 0 a0_0 l0_1 [0, 0, 0, 0, 0, 0, 0])) = some (r1, r2, r3) := by rw [if_pos rfl] at H; exact H
  clear H
  have H := H1
  clear H1
  by_cases c6 : a0_0 = 9007199254740991
  ·rw [if_pos c6] at H
   have c6b0 : (a0_0 == 9007199254740991) = true := beq_iff_eq.mpr c6
   have c6b1 : (a0_0 != 9007199254740991) = false := bne_eq_false_iff_eq.mpr c6
   clear c6
   simp only [Option.some.injEq, Prod.mk.injEq] at H
   obtain ⟨rfl, rfl, rfl⟩ := H
   go_enter Tryd.func12, Tryd.ntmps12
   go_wp2_with (first | ((with_reducible refine gate_dst (N := 3) rfl ?_); refine box_event ?hg (N := 3) ?hd (cs := #[.int .i64 a0_0, .slice A0_1 l0_1.length c0_1]) (t := 24) ?hr ?_; (case hd => rfl); (case hg => rfl); (case hr => first | (go_simp; done) | (go_simp; rfl)); intro gb114 hg w7 hbox hb; have n0_ := Aside0.mk (below_step bw hb); have n1_ := Aside0.mk (hbox); have n2_ := Aside0.mk ((g1 hg bw : w.heap.size ≤ gb114)); have n3_ := Aside0.mk ((g1 hg bw : w.heap.size ≤ gb114)); clear HB; have HB := n0_; have BK114 := n1_; have GW114 := n2_; have GE114 := n3_; clear n0_ n1_ n2_ n3_; clear hb hbox hg) | ((with_reducible refine gate_dst (N := 6) rfl ?_); refine box_event ?hg (N := 6) ?hd (cs := #[.int .i64 0, .slice none 0 0]) (t := 24) ?hr ?_; (case hd => rfl); (case hg => rfl); (case hr => first | (go_simp; done) | (go_simp; rfl)); intro gb115 hg w8 hbox hb; have n0_ := Aside0.mk (nb BK114.out hb); have n1_ := Aside0.mk (below_step bw hb); have n2_ := Aside0.mk (hbox); have n3_ := Aside0.mk ((g1 hg bw : w.heap.size ≤ gb115)); have n4_ := Aside0.mk ((g1 hg bw : w.heap.size ≤ gb115)); have n5_ := Aside0.mk ((n1 hg BK114.out : gb114 ≠ gb115)); have n6_ := Aside0.mk ((n2 hg BK114.out : gb115 ≠ gb114)); clear BK114; clear HB; have BK114 := n0_; have HB := n1_; have BK115 := n2_; have GW115 := n3_; have GE115 := n4_; have NB114_115 := n5_; have NB115_114 := n6_; clear n0_ n1_ n2_ n3_ n4_ n5_ n6_; clear hb hbox hg; have hnb9 := NB114_115.out; have hnc9 := NB115_114.out; have hcz10_0 := bc2_0 BK114.out; have hcz10_1 := bc2_1 BK114.out; have hfz10_0 := blk_frozen BK114.out 0; have hfz10_1 := blk_frozen BK114.out 1) | ((with_reducible refine gate_callee (f := 17) rfl ?_); refine goesL_ (some 15) rfl rfl Tryd.func17 (by kernel_rfl) rfl #[.agg #[.int .i64 a0_0, .slice A0_1 l0_1.length c0_1]] rfl am ?_; (with_reducible refine (view_Right.calls k a0_0 _ _ l0_1 true _ ?side1 ?side2 A4.out).mono ?_); (case side1 => repeat (first | exact (Kd.C_below HR0_1.out HB.out) | (with_reducible refine Kd.C_alloc ?_ _) | (with_reducible refine Kd.C_drewN ?_ _) | (with_reducible refine Kd.C_drew ?_))); (case side2 => exact HC0_1.out); rintro e w11 ⟨rfl, hb⟩; refine ⟨_, rfl, ?_⟩; have n0_ := Aside0.mk (nb BK114.out hb); have n1_ := Aside0.mk (nb BK115.out hb); have n2_ := Aside0.mk (below_step bw hb); clear BK114; clear BK115; clear HB; have BK114 := n0_; have BK115 := n1_; have HB := n2_; clear n0_ n1_ n2_; (try clear hb); (try clear hb2); (try clear hk); (try clear hi); have hcz12_0 := bc2_0 BK114.out; have hcz12_1 := bc2_1 BK114.out; have hfz12_0 := blk_frozen BK114.out 0; have hfz12_1 := blk_frozen BK114.out 1; have hcz13_0 := bc2_0 BK115.out; have hcz13_1 := bc2_1 BK115.out; have hfz13_0 := blk_frozen BK115.out 0; have hfz13_1 := blk_frozen BK115.out 1))
   refine bodyPost_ret (results_ct rfl _ _ gb115 24 #[.int .i64 0, .slice none 0 0] (0, 0) _ rfl (by (with_reducible repeat (first | refine blk_drewN ?_ _ | refine blk_drew ?_ | refine blk_alloc ?_ _)); refine blk_put (cs := #[.int .i64 0, .slice none 0 0]) ?_ 1 _ rfl; (with_reducible repeat (first | refine blk_drewN ?_ _ | refine blk_drew ?_ | refine blk_alloc ?_ _)); refine blk_put (cs := #[.int .i64 0, .slice none 0 0]) ?_ 0 _ rfl; (with_reducible repeat (first | refine blk_drewN ?_ _ | refine blk_drew ?_ | refine blk_alloc ?_ _)); exact BK115.out) Tryd.underlying24 rfl (by kernel_rfl)) rfl ?_
   exact ⟨_, er, by first | exact Kd.R_nil _ _ _ _ _ | exact Kd.N_nil _ _ _ _ _ | exact Kd.V_nil _ _ _ _ _ | exact Kd.Q_nil _ _ _ _ _ | exact Kd.S_nil _ _ _ _ _, bw⟩
  ·rw [if_neg c6] at H
   have c6b0 : (a0_0 == 9007199254740991) = false := beq_eq_false_iff_ne.mpr c6
   have c6b1 : (a0_0 != 9007199254740991) = true := bne_iff_ne.mpr c6
   have H' := Aside0.mk H
   clear H
   go_enter Tryd.func12, Tryd.ntmps12
   go_wp2_with (first | ((with_reducible refine gate_dst (N := 3) rfl ?_); refine box_event ?hg (N := 3) ?hd (cs := #[.int .i64 a0_0, .slice A0_1 l0_1.length c0_1]) (t := 24) ?hr ?_; (case hd => rfl); (case hg => rfl); (case hr => first | (go_simp; done) | (go_simp; rfl)); intro gb114 hg w14 hbox hb; have n0_ := Aside0.mk (below_step bw hb); have n1_ := Aside0.mk (hbox); have n2_ := Aside0.mk ((g1 hg bw : w.heap.size ≤ gb114)); have n3_ := Aside0.mk ((g1 hg bw : w.heap.size ≤ gb114)); clear HB; have HB := n0_; have BK114 := n1_; have GW114 := n2_; have GE114 := n3_; clear n0_ n1_ n2_ n3_; clear hb hbox hg) | ((with_reducible refine gate_dst (N := 6) rfl ?_); refine box_event ?hg (N := 6) ?hd (cs := #[.int .i64 0, .slice none 0 0]) (t := 24) ?hr ?_; (case hd => rfl); (case hg => rfl); (case hr => first | (go_simp; done) | (go_simp; rfl)); intro gb115 hg w15 hbox hb; have n0_ := Aside0.mk (nb BK114.out hb); have n1_ := Aside0.mk (below_step bw hb); have n2_ := Aside0.mk (hbox); have n3_ := Aside0.mk ((g1 hg bw : w.heap.size ≤ gb115)); have n4_ := Aside0.mk ((g1 hg bw : w.heap.size ≤ gb115)); have n5_ := Aside0.mk ((n1 hg BK114.out : gb114 ≠ gb115)); have n6_ := Aside0.mk ((n2 hg BK114.out : gb115 ≠ gb114)); clear BK114; clear HB; have BK114 := n0_; have HB := n1_; have BK115 := n2_; have GW115 := n3_; have GE115 := n4_; have NB114_115 := n5_; have NB115_114 := n6_; clear n0_ n1_ n2_ n3_ n4_ n5_ n6_; clear hb hbox hg; have hnb16 := NB114_115.out; have hnc16 := NB115_114.out; have hcz17_0 := bc2_0 BK114.out; have hcz17_1 := bc2_1 BK114.out; have hfz17_0 := blk_frozen BK114.out 0; have hfz17_1 := blk_frozen BK114.out 1) | ((with_reducible refine gate_callee (f := 17) rfl ?_); refine goesL_ (some 15) rfl rfl Tryd.func17 (by kernel_rfl) rfl #[.agg #[.int .i64 a0_0, .slice A0_1 l0_1.length c0_1]] rfl am ?_; (with_reducible refine (view_Right.calls k a0_0 _ _ l0_1 true _ ?side1 ?side2 A4.out).mono ?_); (case side1 => repeat (first | exact (Kd.C_below HR0_1.out HB.out) | (with_reducible refine Kd.C_alloc ?_ _) | (with_reducible refine Kd.C_drewN ?_ _) | (with_reducible refine Kd.C_drew ?_))); (case side2 => exact HC0_1.out); rintro e w18 ⟨rfl, hb⟩; refine ⟨_, rfl, ?_⟩; have n0_ := Aside0.mk (nb BK114.out hb); have n1_ := Aside0.mk (nb BK115.out hb); have n2_ := Aside0.mk (below_step bw hb); clear BK114; clear BK115; clear HB; have BK114 := n0_; have BK115 := n1_; have HB := n2_; clear n0_ n1_ n2_; (try clear hb); (try clear hb2); (try clear hk); (try clear hi); have hcz19_0 := bc2_0 BK114.out; have hcz19_1 := bc2_1 BK114.out; have hfz19_0 := blk_frozen BK114.out 0; have hfz19_1 := blk_frozen BK114.out 1) | ((with_reducible refine gate_dst (N := 8) rfl ?_); refine box_event ?hg (N := 8) ?hd (cs := #[.int .i64 0, .int .i64 0, .int .i64 0, .int .i64 0, .int .i64 0, .int .i64 0, .int .i64 0]) (t := 61) ?hr ?_; (case hd => rfl); (case hg => rfl); (case hr => first | (go_simp; done) | (go_simp; rfl)); intro gb117 hg w20 hbox hb; have n0_ := Aside0.mk (nb BK114.out hb); have n1_ := Aside0.mk (nb BK115.out hb); have n2_ := Aside0.mk (below_step bw hb); have n3_ := Aside0.mk (hbox); have n4_ := Aside0.mk ((g1 hg bw : w.heap.size ≤ gb117)); have n5_ := Aside0.mk ((g1 hg bw : w.heap.size ≤ gb117)); have n6_ := Aside0.mk ((n1 hg BK114.out : gb114 ≠ gb117)); have n7_ := Aside0.mk ((n2 hg BK114.out : gb117 ≠ gb114)); have n8_ := Aside0.mk ((n1 hg BK115.out : gb115 ≠ gb117)); have n9_ := Aside0.mk ((n2 hg BK115.out : gb117 ≠ gb115)); clear BK114; clear BK115; clear HB; have BK114 := n0_; have BK115 := n1_; have HB := n2_; have BK117 := n3_; have GW117 := n4_; have GE117 := n5_; have NB114_117 := n6_; have NB117_114 := n7_; have NB115_117 := n8_; have NB117_115 := n9_; clear n0_ n1_ n2_ n3_ n4_ n5_ n6_ n7_ n8_ n9_; clear hb hbox hg))
   go_loopg [25] k (fun kq v25 w' => ∃ (x25_1 : Int) (x116000_1 : Int) (lv : List Int), v25 = .int .i64 x25_1 ∧ Aside0 (lv.length = 7) ∧ Aside0 (view_Next.l0 kq l2 l1 (l1.length : Int) x25_1 a0_0 l0_1 lv = some (r1, r2, r3)) ∧ Aside0 (kq ≤ k) ∧ Aside0 (w'.heap[gb114]? = some (.cells #[.int .i64 a0_0, (.slice A0_1 l0_1.length c0_1)] 24 (0, 0))) ∧ Aside0 (w'.heap[gb115]? = some (.cells #[.int .i64 x116000_1, (.slice none 0 0)] 24 (0, 0))) ∧ Aside0 (w'.heap[gb117]? = some (.cells (lv.map (Value.int .i64)).toArray 61 (0, 0))) ∧ Aside0 (Below w.heap.size w w'))
   case atStart => exact ⟨(0), (0), [0, 0, 0, 0, 0, 0, 0], (by first | rfl | (simp; done) | (simp [*]; done)), ⟨rfl⟩, H', ⟨Nat.le_refl _⟩, ⟨by (with_reducible repeat (first | refine blk_drewN ?_ _ | refine blk_drew ?_ | refine blk_alloc ?_ _)); exact BK114.out⟩, ⟨by (with_reducible repeat (first | refine blk_drewN ?_ _ | refine blk_drew ?_ | refine blk_alloc ?_ _)); exact BK115.out⟩, ⟨by (with_reducible repeat (first | refine blk_drewN ?_ _ | refine blk_drew ?_ | refine blk_alloc ?_ _)); exact BK117.out⟩, ⟨bw⟩⟩
   case round =>
    clear H'
    try clear c1
    try clear c2
    try clear p2
    try clear c5
    try clear c6
    try clear c6b0
    try clear c6b1
    try clear c9
    try clear c12
    try clear c16
    try clear c17
    try clear hcz10_0
    try clear hcz10_1
    try clear hcz12_0
    try clear hcz12_1
    try clear hcz13_0
    try clear hcz13_1
    try clear hcz17_0
    try clear hcz17_1
    try clear hcz19_0
    try clear hcz19_1
    try clear hfz10_0
    try clear hfz10_1
    try clear hfz12_0
    try clear hfz12_1
    try clear hfz13_0
    try clear hfz13_1
    try clear hfz17_0
    try clear hfz17_1
    try clear hfz19_0
    try clear hfz19_1
    obtain ⟨x25_1, x116000_1, lv, rfl, HLV, HA, HK1, BK114, BK115, BK117, HB⟩ := hrel
    cases gk with
    | zero => exact absurd HA.out (by simp [view_Next.l0])
    | succ k1 =>
     have H := HA.out
     clear HA
     simp only [view_Next.l0] at H
     by_cases c21 : x25_1 < (l1.length : Int)
     ·rw [if_pos c21] at H
      have c21b0 : decide (x25_1 < (l1.length : Int)) = true := decide_eq_true c21
      clear c21
      by_cases c22 : 0 ≤ x25_1
      ·rw [if_pos c22] at H
       have c22b0 : decide (0 ≤ x25_1) = true := decide_eq_true c22
       clear c22
       by_cases c23 : x25_1 < (l1.length : Int)
       ·rw [if_pos c23] at H
        have c23b0 : decide (x25_1 < (l1.length : Int)) = true := decide_eq_true c23
        clear c23
        replace H := Option.bind_eq_some_iff.mp H
        obtain ⟨t120, A240, H⟩ := H
        replace H : (if t120 = true then ((slices_Contains_int_int.f k1 l2 ((rd_T38 l1 x25_1).f0)).bind fun t121 => (if t121 = true then (if 0 ≤ ((rd_T38 l1 x25_1).f0) then (if ((rd_T38 l1 x25_1).f0) < 7 then (view_Next.l0 k1 l2 l1 (l1.length : Int) (wrap64 (x25_1 + 1)) a0_0 l0_1 (lv.set ((rd_T38 l1 x25_1).f0).toNat (nmx (lv.getD ((rd_T38 l1 x25_1).f0).toNat 0) ((rd_T38 l1 x25_1).f1)))) else (none)) else (none)) else (view_Next.l0 k1 l2 l1 (l1.length : Int) (wrap64 (x25_1 + 1)) a0_0 l0_1 lv))) else (some (0, ([] : List (S38)), 1))) = some (r1, r2, r3) := H
        have A24 := Aside0.mk A240
        clear A240
        by_cases c25 : t120 = true
        ·subst c25
         have H1 : ((slices_Contains_int_int.f k1 l2 ((rd_T38 l1 x25_1).f0)).bind fun t121 => (if t121 = true then (if 0 ≤ ((rd_T38 l1 x25_1).f0) then (if ((rd_T38 l1 x25_1).f0) < 7 then (view_Next.l0 k1 l2 l1 (l1.length : Int) (wrap64 (x25_1 + 1)) a0_0 l0_1 (lv.set ((rd_T38 l1 x25_1).f0).toNat (nmx (lv.getD ((rd_T38 l1 x25_1).f0).toNat 0) ((rd_T38 l1 x25_1).f1)))) else (none)) else (none)) else (view_Next.l0 k1 l2 l1 (l1.length : Int) (wrap64 (x25_1 + 1)) a0_0 l0_1 lv))) = some (r1, r2, r3) := by rw [if_pos rfl] at H; exact H
         clear H
         have H := H1
         clear H1
         replace H := Option.bind_eq_some_iff.mp H
         obtain ⟨t121, A260, H⟩ := H
         replace H : (if t121 = true then (if 0 ≤ ((rd_T38 l1 x25_1).f0) then (if ((rd_T38 l1 x25_1).f0) < 7 then (view_Next.l0 k1 l2 l1 (l1.length : Int) (wrap64 (x25_1 + 1)) a0_0 l0_1 (lv.set ((rd_T38 l1 x25_1).f0).toNat (nmx (lv.getD ((rd_T38 l1 x25_1).f0).toNat 0) ((rd_T38 l1 x25_1).f1)))) else (none)) else (none)) else (view_Next.l0 k1 l2 l1 (l1.length : Int) (wrap64 (x25_1 + 1)) a0_0 l0_1 lv)) = some (r1, r2, r3) := H
         have A26 := Aside0.mk A260
         clear A260
         by_cases c27 : t121 = true
         ·subst c27
          have H1 : (if 0 ≤ ((rd_T38 l1 x25_1).f0) then (if ((rd_T38 l1 x25_1).f0) < 7 then (view_Next.l0 k1 l2 l1 (l1.length : Int) (wrap64 (x25_1 + 1)) a0_0 l0_1 (lv.set ((rd_T38 l1 x25_1).f0).toNat (nmx (lv.getD ((rd_T38 l1 x25_1).f0).toNat 0) ((rd_T38 l1 x25_1).f1)))) else (none)) else (none)) = some (r1, r2, r3) := by rw [if_pos rfl] at H; exact H
          clear H
          have H := H1
          clear H1
          by_cases c128 : 0 ≤ ((rd_T38 l1 x25_1).f0)
          case neg => rw [if_neg c128] at H; exact absurd H (by simp)
          rw [if_pos c128] at H
          by_cases c129 : ((rd_T38 l1 x25_1).f0) < 7
          case neg => rw [if_neg c129] at H; exact absurd H (by simp)
          rw [if_pos c129] at H
          have H' := Aside0.mk H
          clear H
          have p118 : 0 ≤ (x25_1 : Int) := of_decide_eq_true (by first | (with_reducible assumption) | assumption)
          have q118 : x25_1 < (l1.length : Int) := of_decide_eq_true (by first | (with_reducible assumption) | assumption)
          obtain ⟨ad118, e118, hx118_0, hx118_1⟩ := at_T38 HR1.out x25_1 p118 q118
          cases e118
          replace hx118_0 := (HB.out.cell (World.block_lt_of_cell? w _ hx118_0)).trans hx118_0
          replace hx118_1 := (HB.out.cell (World.block_lt_of_cell? w _ hx118_1)).trans hx118_1
          replace p118 := eq_true p118
          replace q118 := eq_true q118
          obtain ⟨q, hq⟩ : ∃ q : Nat, ((rd_T38 l1 x25_1).f0) = (q : Int) := ⟨((rd_T38 l1 x25_1).f0).toNat, (Int.toNat_of_nonneg c128).symm⟩
          have hq7 : q < 7 := by rw [hq] at c129; omega
          have HQ := Aside0.mk hq
          clear hq c128 c129
          go_wp2_with (first | ((with_reducible refine gate_dst (N := 10) rfl ?_); refine box_event ?hg (N := 10) ?hd (cs := #[.int .i64 0, .int .i64 0]) (t := 38) ?hr ?_; (case hd => rfl); (case hg => rfl); (case hr => first | (go_simp; done) | (go_simp; rfl)); intro gb119 hg w29 hbox hb; have n0_ := Aside0.mk (nb BK114.out hb); have n1_ := Aside0.mk (nb BK115.out hb); have n2_ := Aside0.mk (blk_below (g := gb117) (o := .cells (lv.map (Value.int .i64)).toArray 61 (0, 0)) (bk BK117.out) hb); have n3_ := Aside0.mk (below_step bw hb); have n4_ := Aside0.mk (hbox); have n5_ := Aside0.mk ((g1 hg bw : w.heap.size ≤ gb119)); have n6_ := Aside0.mk ((g1 hg bw : w.heap.size ≤ gb119)); have n7_ := Aside0.mk ((n1 hg BK114.out : gb114 ≠ gb119)); have n8_ := Aside0.mk ((n2 hg BK114.out : gb119 ≠ gb114)); have n9_ := Aside0.mk ((n1 hg BK115.out : gb115 ≠ gb119)); have n10_ := Aside0.mk ((n2 hg BK115.out : gb119 ≠ gb115)); have n11_ := Aside0.mk ((by rw [hg]; exact Nat.ne_of_lt (blk_lt (g := gb117) (o := .cells (lv.map (Value.int .i64)).toArray 61 (0, 0)) (bk BK117.out)) : gb117 ≠ gb119)); have n12_ := Aside0.mk ((by rw [hg]; exact Nat.ne_of_gt (blk_lt (g := gb117) (o := .cells (lv.map (Value.int .i64)).toArray 61 (0, 0)) (bk BK117.out)) : gb119 ≠ gb117)); clear BK114; clear BK115; clear BK117; clear HB; have BK114 := n0_; have BK115 := n1_; have BK117 := n2_; have HB := n3_; have BK119 := n4_; have GW119 := n5_; have GE119 := n6_; have NB114_119 := n7_; have NB119_114 := n8_; have NB115_119 := n9_; have NB119_115 := n10_; have NB117_119 := n11_; have NB119_117 := n12_; clear n0_ n1_ n2_ n3_ n4_ n5_ n6_ n7_ n8_ n9_ n10_ n11_ n12_; clear hb hbox hg; have hnb30 := NB119_114.out; have hnc30 := NB114_119.out; have hnb31 := NB119_115.out; have hnc31 := NB115_119.out; have hnb32 := NB119_117.out; have hnc32 := NB117_119.out; have hcz33_0 := bc2_0 BK119.out; have hcz33_1 := bc2_1 BK119.out; have hfz33_0 := blk_frozen BK119.out 0; have hfz33_1 := blk_frozen BK119.out 1) | ((with_reducible refine gate_callee (f := 25) rfl ?_); refine goesL_ (some 30) rfl rfl Tryd.func25 (by kernel_rfl) rfl #[.agg #[.int .i64 ((rd_T38 l1 x25_1).f0), .int .i64 ((rd_T38 l1 x25_1).f1)]] rfl am ?_; (with_reducible refine (view_RightMember.calls ((rd_T38 l1 x25_1).f0) ((rd_T38 l1 x25_1).f1) true _ A24.out).mono ?_); rintro e w34 ⟨rfl, hb⟩; refine ⟨_, rfl, ?_⟩; have n0_ := Aside0.mk (blk_below (g := gb114) (o := .cells #[.int .i64 a0_0, .slice A0_1 l0_1.length c0_1] 24 (0, 0)) (by (with_reducible repeat (first | refine blk_drewN ?_ _ | refine blk_drew ?_ | refine blk_alloc ?_ _ | refine blk_far ?_ NB114_119.out _)); exact BK114.out) hb); have n1_ := Aside0.mk (blk_below (g := gb115) (o := .cells #[.int .i64 x116000_1, .slice none 0 0] 24 (0, 0)) (by (with_reducible repeat (first | refine blk_drewN ?_ _ | refine blk_drew ?_ | refine blk_alloc ?_ _ | refine blk_far ?_ NB115_119.out _)); exact BK115.out) hb); have n2_ := Aside0.mk (blk_below (g := gb117) (o := .cells (lv.map (Value.int .i64)).toArray 61 (0, 0)) (by (with_reducible repeat (first | refine blk_drewN ?_ _ | refine blk_drew ?_ | refine blk_alloc ?_ _ | refine blk_far ?_ NB117_119.out _)); exact BK117.out) hb); have n3_ := Aside0.mk (blk_below (g := gb119) (o := .cells #[.int .i64 ((rd_T38 l1 x25_1).f0), .int .i64 ((rd_T38 l1 x25_1).f1)] 38 (0, 0)) (by (with_reducible repeat (first | refine blk_drewN ?_ _ | refine blk_drew ?_ | refine blk_alloc ?_ _)); refine blk_put (cs := #[.int .i64 ((rd_T38 l1 x25_1).f0), .int .i64 0]) ?_ 1 _ rfl; (with_reducible repeat (first | refine blk_drewN ?_ _ | refine blk_drew ?_ | refine blk_alloc ?_ _)); refine blk_put (cs := #[.int .i64 0, .int .i64 0]) ?_ 0 _ rfl; (with_reducible repeat (first | refine blk_drewN ?_ _ | refine blk_drew ?_ | refine blk_alloc ?_ _)); exact BK119.out) hb); have n4_ := Aside0.mk (below_step bw hb); clear BK114; clear BK115; clear BK117; clear BK119; clear HB; have BK114 := n0_; have BK115 := n1_; have BK117 := n2_; have BK119 := n3_; have HB := n4_; clear n0_ n1_ n2_ n3_ n4_; (try clear hb); (try clear hb2); (try clear hk); (try clear hi); have hcz35_0 := bc2_0 BK119.out; have hcz35_1 := bc2_1 BK119.out; have hfz35_0 := blk_frozen BK119.out 0; have hfz35_1 := blk_frozen BK119.out 1) | ((with_reducible refine gate_callee (f := 26) rfl ?_); refine goesL_ (some 36) rfl rfl Tryd.func26 (by kernel_rfl) rfl #[.slice A2 l2.length c2, .int .i64 ((rd_T38 l1 x25_1).f0)] rfl am ?_; (with_reducible refine (slices_Contains_int_int.calls k1 _ _ l2 ((rd_T38 l1 x25_1).f0) true _ ?side1 ?side2 A26.out).mono ?_); (case side1 => repeat (first | exact (Kd.C_below HR2.out HB.out) | (with_reducible refine Kd.C_alloc ?_ _) | (with_reducible refine Kd.C_drewN ?_ _) | (with_reducible refine Kd.C_drew ?_))); (case side2 => exact HC2.out); rintro e w' ⟨rfl, ⟨nd, rfl⟩⟩; refine ⟨_, rfl, ?_⟩; (try (rw [drewN_self w34]; generalize hq_ : World.drewN w34 _ = w34; have n0_ : Aside0 (w34.heap[gb114]? = some (.cells #[.int .i64 a0_0, .slice A0_1 l0_1.length c0_1] 24 (0, 0))) := ⟨by rw [← hq_]; exact (bk BK114.out)⟩; have n1_ : Aside0 (w34.heap[gb115]? = some (.cells #[.int .i64 x116000_1, .slice none 0 0] 24 (0, 0))) := ⟨by rw [← hq_]; exact (bk BK115.out)⟩; have n2_ : Aside0 (w34.heap[gb117]? = some (.cells (lv.map (Value.int .i64)).toArray 61 (0, 0))) := ⟨by rw [← hq_]; exact (bk BK117.out)⟩; have n3_ : Aside0 (w34.heap[gb119]? = some (.cells #[.int .i64 ((rd_T38 l1 x25_1).f0), .int .i64 ((rd_T38 l1 x25_1).f1)] 38 (0, 0))) := ⟨by rw [← hq_]; exact (bk BK119.out)⟩; have n4_ : Aside0 (Below w.heap.size w w34) := ⟨by rw [← hq_]; exact bw⟩; clear BK114 BK115 BK117 BK119 HB hq_; have BK114 := n0_; have BK115 := n1_; have BK117 := n2_; have BK119 := n3_; have HB := n4_; clear n0_ n1_ n2_ n3_ n4_))))
          (try rw [drewN_self w34])
          obtain ⟨V, hV⟩ : ∃ V : Int, lv.getD q 0 = V := ⟨_, rfl⟩
          obtain ⟨mv, hmv⟩ : ∃ m : Int, (if V < (rd_T38 l1 x25_1).f1 then (rd_T38 l1 x25_1).f1 else V) = m := ⟨_, rfl⟩
          have hcA : w34.cell? ⟨gb119, 0, none⟩ = some (.int .i64 (q : Int)) := by rw [← HQ.out]; exact (blk_cell BK119.out 0).trans rfl
          have hcB : w34.cell? ⟨gb119, 1, none⟩ = some (.int .i64 (rd_T38 l1 x25_1).f1) := (blk_cell BK119.out 1).trans rfl
          have hcC : w34.cell? ⟨gb117, q, none⟩ = some (.int .i64 V) := (blk_cell BK117.out q).trans (by rw [← hV]; have := HLV.out; simp [List.getD_eq_getElem?_getD, List.getElem?_eq_getElem (show q < lv.length by omega)])
          have hfC : w34.frozen? ⟨gb117, q, none⟩ = false := blk_frozen BK117.out q
          have q1 : (0 : Int) ≤ (q : Int) := by omega
          have q2 : (q : Int) < 7 := by omega
          have HNW : Aside0 (lv.set ((rd_T38 l1 x25_1).f0).toNat (nmx (lv.getD ((rd_T38 l1 x25_1).f0).toNat 0) ((rd_T38 l1 x25_1).f1)) = lv.set q mv) := ⟨by rw [HQ.out, Int.toNat_natCast, hV, ← hmv]; rfl⟩
          have HL2 : Aside0 ((lv.set q mv).length = 7) := ⟨by rw [List.length_set]; exact HLV.out⟩
          clear hV
          go_still_tail 9, (by kernel_rfl)
          change wpList _ _ _ _ _ w34.drew
          go_wp2
          go_roundg k1
          case measure => have := HK1.out; omega
          case rel => exact ⟨(wrap64 (x25_1 + 1)), (x116000_1), lv.set q mv, (by first | rfl | (simp; done) | (simp [*]; done)), HL2, ⟨by rw [← HNW.out]; exact H'.out⟩, ⟨by have := HK1.out; omega⟩, ⟨blk_drew (blk_far (blk_drew BK114.out) NB114_117.out _)⟩, ⟨blk_drew (blk_far (blk_drew BK115.out) NB115_117.out _)⟩, ⟨blk_drew (blk_put (blk_drew BK117.out) q (.int .i64 mv) (by simp))⟩, ⟨(below_set HB.out (j := q) (v := .int .i64 mv) GE117.out).drew⟩⟩
         ·replace c27 := Bool.eq_false_iff.mpr c27
          subst c27
          have H1 : (view_Next.l0 k1 l2 l1 (l1.length : Int) (wrap64 (x25_1 + 1)) a0_0 l0_1 lv) = some (r1, r2, r3) := by rw [if_neg (show ¬ (false = true) by decide)] at H; exact H
          clear H
          have H := H1
          clear H1
          have H' := Aside0.mk H
          clear H
          have p118 : 0 ≤ (x25_1 : Int) := of_decide_eq_true (by first | (with_reducible assumption) | assumption)
          have q118 : x25_1 < (l1.length : Int) := of_decide_eq_true (by first | (with_reducible assumption) | assumption)
          obtain ⟨ad118, e118, hx118_0, hx118_1⟩ := at_T38 HR1.out x25_1 p118 q118
          cases e118
          replace hx118_0 := (HB.out.cell (World.block_lt_of_cell? w _ hx118_0)).trans hx118_0
          replace hx118_1 := (HB.out.cell (World.block_lt_of_cell? w _ hx118_1)).trans hx118_1
          replace p118 := eq_true p118
          replace q118 := eq_true q118
          go_wp2_with (first | ((with_reducible refine gate_dst (N := 10) rfl ?_); refine box_event ?hg (N := 10) ?hd (cs := #[.int .i64 0, .int .i64 0]) (t := 38) ?hr ?_; (case hd => rfl); (case hg => rfl); (case hr => first | (go_simp; done) | (go_simp; rfl)); intro gb119 hg w38 hbox hb; have n0_ := Aside0.mk (nb BK114.out hb); have n1_ := Aside0.mk (nb BK115.out hb); have n2_ := Aside0.mk (blk_below (g := gb117) (o := .cells (lv.map (Value.int .i64)).toArray 61 (0, 0)) (bk BK117.out) hb); have n3_ := Aside0.mk (below_step bw hb); have n4_ := Aside0.mk (hbox); have n5_ := Aside0.mk ((g1 hg bw : w.heap.size ≤ gb119)); have n6_ := Aside0.mk ((g1 hg bw : w.heap.size ≤ gb119)); have n7_ := Aside0.mk ((n1 hg BK114.out : gb114 ≠ gb119)); have n8_ := Aside0.mk ((n2 hg BK114.out : gb119 ≠ gb114)); have n9_ := Aside0.mk ((n1 hg BK115.out : gb115 ≠ gb119)); have n10_ := Aside0.mk ((n2 hg BK115.out : gb119 ≠ gb115)); have n11_ := Aside0.mk ((by rw [hg]; exact Nat.ne_of_lt (blk_lt (g := gb117) (o := .cells (lv.map (Value.int .i64)).toArray 61 (0, 0)) (bk BK117.out)) : gb117 ≠ gb119)); have n12_ := Aside0.mk ((by rw [hg]; exact Nat.ne_of_gt (blk_lt (g := gb117) (o := .cells (lv.map (Value.int .i64)).toArray 61 (0, 0)) (bk BK117.out)) : gb119 ≠ gb117)); clear BK114; clear BK115; clear BK117; clear HB; have BK114 := n0_; have BK115 := n1_; have BK117 := n2_; have HB := n3_; have BK119 := n4_; have GW119 := n5_; have GE119 := n6_; have NB114_119 := n7_; have NB119_114 := n8_; have NB115_119 := n9_; have NB119_115 := n10_; have NB117_119 := n11_; have NB119_117 := n12_; clear n0_ n1_ n2_ n3_ n4_ n5_ n6_ n7_ n8_ n9_ n10_ n11_ n12_; clear hb hbox hg; have hnb39 := NB119_114.out; have hnc39 := NB114_119.out; have hnb40 := NB119_115.out; have hnc40 := NB115_119.out; have hnb41 := NB119_117.out; have hnc41 := NB117_119.out; have hcz42_0 := bc2_0 BK119.out; have hcz42_1 := bc2_1 BK119.out; have hfz42_0 := blk_frozen BK119.out 0; have hfz42_1 := blk_frozen BK119.out 1) | ((with_reducible refine gate_callee (f := 25) rfl ?_); refine goesL_ (some 30) rfl rfl Tryd.func25 (by kernel_rfl) rfl #[.agg #[.int .i64 ((rd_T38 l1 x25_1).f0), .int .i64 ((rd_T38 l1 x25_1).f1)]] rfl am ?_; (with_reducible refine (view_RightMember.calls ((rd_T38 l1 x25_1).f0) ((rd_T38 l1 x25_1).f1) true _ A24.out).mono ?_); rintro e w43 ⟨rfl, hb⟩; refine ⟨_, rfl, ?_⟩; have n0_ := Aside0.mk (blk_below (g := gb114) (o := .cells #[.int .i64 a0_0, .slice A0_1 l0_1.length c0_1] 24 (0, 0)) (by (with_reducible repeat (first | refine blk_drewN ?_ _ | refine blk_drew ?_ | refine blk_alloc ?_ _ | refine blk_far ?_ NB114_119.out _)); exact BK114.out) hb); have n1_ := Aside0.mk (blk_below (g := gb115) (o := .cells #[.int .i64 x116000_1, .slice none 0 0] 24 (0, 0)) (by (with_reducible repeat (first | refine blk_drewN ?_ _ | refine blk_drew ?_ | refine blk_alloc ?_ _ | refine blk_far ?_ NB115_119.out _)); exact BK115.out) hb); have n2_ := Aside0.mk (blk_below (g := gb117) (o := .cells (lv.map (Value.int .i64)).toArray 61 (0, 0)) (by (with_reducible repeat (first | refine blk_drewN ?_ _ | refine blk_drew ?_ | refine blk_alloc ?_ _ | refine blk_far ?_ NB117_119.out _)); exact BK117.out) hb); have n3_ := Aside0.mk (blk_below (g := gb119) (o := .cells #[.int .i64 ((rd_T38 l1 x25_1).f0), .int .i64 ((rd_T38 l1 x25_1).f1)] 38 (0, 0)) (by (with_reducible repeat (first | refine blk_drewN ?_ _ | refine blk_drew ?_ | refine blk_alloc ?_ _)); refine blk_put (cs := #[.int .i64 ((rd_T38 l1 x25_1).f0), .int .i64 0]) ?_ 1 _ rfl; (with_reducible repeat (first | refine blk_drewN ?_ _ | refine blk_drew ?_ | refine blk_alloc ?_ _)); refine blk_put (cs := #[.int .i64 0, .int .i64 0]) ?_ 0 _ rfl; (with_reducible repeat (first | refine blk_drewN ?_ _ | refine blk_drew ?_ | refine blk_alloc ?_ _)); exact BK119.out) hb); have n4_ := Aside0.mk (below_step bw hb); clear BK114; clear BK115; clear BK117; clear BK119; clear HB; have BK114 := n0_; have BK115 := n1_; have BK117 := n2_; have BK119 := n3_; have HB := n4_; clear n0_ n1_ n2_ n3_ n4_; (try clear hb); (try clear hb2); (try clear hk); (try clear hi); have hcz44_0 := bc2_0 BK119.out; have hcz44_1 := bc2_1 BK119.out; have hfz44_0 := blk_frozen BK119.out 0; have hfz44_1 := blk_frozen BK119.out 1) | ((with_reducible refine gate_callee (f := 26) rfl ?_); refine goesL_ (some 36) rfl rfl Tryd.func26 (by kernel_rfl) rfl #[.slice A2 l2.length c2, .int .i64 ((rd_T38 l1 x25_1).f0)] rfl am ?_; (with_reducible refine (slices_Contains_int_int.calls k1 _ _ l2 ((rd_T38 l1 x25_1).f0) false _ ?side1 ?side2 A26.out).mono ?_); (case side1 => repeat (first | exact (Kd.C_below HR2.out HB.out) | (with_reducible refine Kd.C_alloc ?_ _) | (with_reducible refine Kd.C_drewN ?_ _) | (with_reducible refine Kd.C_drew ?_))); (case side2 => exact HC2.out); rintro e w' ⟨rfl, ⟨nd, rfl⟩⟩; refine ⟨_, rfl, ?_⟩))
          go_roundg k1
          case measure => have := HK1.out; omega
          case rel => exact ⟨(wrap64 (x25_1 + 1)), (x116000_1), lv, (by first | rfl | (simp; done) | (simp [*]; done)), HLV, H', ⟨by have := HK1.out; omega⟩, ⟨by (with_reducible repeat (first | refine blk_drewN ?_ _ | refine blk_drew ?_ | refine blk_alloc ?_ _)); exact BK114.out⟩, ⟨by (with_reducible repeat (first | refine blk_drewN ?_ _ | refine blk_drew ?_ | refine blk_alloc ?_ _)); exact BK115.out⟩, ⟨by (with_reducible repeat (first | refine blk_drewN ?_ _ | refine blk_drew ?_ | refine blk_alloc ?_ _)); exact BK117.out⟩, ⟨bw⟩⟩
        ·replace c25 := Bool.eq_false_iff.mpr c25
         subst c25
         have H1 : (some (0, ([] : List (S38)), 1)) = some (r1, r2, r3) := by rw [if_neg (show ¬ (false = true) by decide)] at H; exact H
         clear H
         have H := H1
         clear H1
         simp only [Option.some.injEq, Prod.mk.injEq] at H
         obtain ⟨rfl, rfl, rfl⟩ := H
         have p118 : 0 ≤ (x25_1 : Int) := of_decide_eq_true (by first | (with_reducible assumption) | assumption)
         have q118 : x25_1 < (l1.length : Int) := of_decide_eq_true (by first | (with_reducible assumption) | assumption)
         obtain ⟨ad118, e118, hx118_0, hx118_1⟩ := at_T38 HR1.out x25_1 p118 q118
         cases e118
         replace hx118_0 := (HB.out.cell (World.block_lt_of_cell? w _ hx118_0)).trans hx118_0
         replace hx118_1 := (HB.out.cell (World.block_lt_of_cell? w _ hx118_1)).trans hx118_1
         replace p118 := eq_true p118
         replace q118 := eq_true q118
         go_wp2_with (first | ((with_reducible refine gate_dst (N := 10) rfl ?_); refine box_event ?hg (N := 10) ?hd (cs := #[.int .i64 0, .int .i64 0]) (t := 38) ?hr ?_; (case hd => rfl); (case hg => rfl); (case hr => first | (go_simp; done) | (go_simp; rfl)); intro gb119 hg w45 hbox hb; have n0_ := Aside0.mk (nb BK114.out hb); have n1_ := Aside0.mk (nb BK115.out hb); have n2_ := Aside0.mk (blk_below (g := gb117) (o := .cells (lv.map (Value.int .i64)).toArray 61 (0, 0)) (bk BK117.out) hb); have n3_ := Aside0.mk (below_step bw hb); have n4_ := Aside0.mk (hbox); have n5_ := Aside0.mk ((g1 hg bw : w.heap.size ≤ gb119)); have n6_ := Aside0.mk ((g1 hg bw : w.heap.size ≤ gb119)); have n7_ := Aside0.mk ((n1 hg BK114.out : gb114 ≠ gb119)); have n8_ := Aside0.mk ((n2 hg BK114.out : gb119 ≠ gb114)); have n9_ := Aside0.mk ((n1 hg BK115.out : gb115 ≠ gb119)); have n10_ := Aside0.mk ((n2 hg BK115.out : gb119 ≠ gb115)); have n11_ := Aside0.mk ((by rw [hg]; exact Nat.ne_of_lt (blk_lt (g := gb117) (o := .cells (lv.map (Value.int .i64)).toArray 61 (0, 0)) (bk BK117.out)) : gb117 ≠ gb119)); have n12_ := Aside0.mk ((by rw [hg]; exact Nat.ne_of_gt (blk_lt (g := gb117) (o := .cells (lv.map (Value.int .i64)).toArray 61 (0, 0)) (bk BK117.out)) : gb119 ≠ gb117)); clear BK114; clear BK115; clear BK117; clear HB; have BK114 := n0_; have BK115 := n1_; have BK117 := n2_; have HB := n3_; have BK119 := n4_; have GW119 := n5_; have GE119 := n6_; have NB114_119 := n7_; have NB119_114 := n8_; have NB115_119 := n9_; have NB119_115 := n10_; have NB117_119 := n11_; have NB119_117 := n12_; clear n0_ n1_ n2_ n3_ n4_ n5_ n6_ n7_ n8_ n9_ n10_ n11_ n12_; clear hb hbox hg; have hnb46 := NB119_114.out; have hnc46 := NB114_119.out; have hnb47 := NB119_115.out; have hnc47 := NB115_119.out; have hnb48 := NB119_117.out; have hnc48 := NB117_119.out; have hcz49_0 := bc2_0 BK119.out; have hcz49_1 := bc2_1 BK119.out; have hfz49_0 := blk_frozen BK119.out 0; have hfz49_1 := blk_frozen BK119.out 1) | ((with_reducible refine gate_callee (f := 25) rfl ?_); refine goesL_ (some 30) rfl rfl Tryd.func25 (by kernel_rfl) rfl #[.agg #[.int .i64 ((rd_T38 l1 x25_1).f0), .int .i64 ((rd_T38 l1 x25_1).f1)]] rfl am ?_; (with_reducible refine (view_RightMember.calls ((rd_T38 l1 x25_1).f0) ((rd_T38 l1 x25_1).f1) false _ A24.out).mono ?_); rintro e w50 ⟨rfl, hb⟩; refine ⟨_, rfl, ?_⟩; have n0_ := Aside0.mk (blk_below (g := gb114) (o := .cells #[.int .i64 a0_0, .slice A0_1 l0_1.length c0_1] 24 (0, 0)) (by (with_reducible repeat (first | refine blk_drewN ?_ _ | refine blk_drew ?_ | refine blk_alloc ?_ _ | refine blk_far ?_ NB114_119.out _)); exact BK114.out) hb); have n1_ := Aside0.mk (blk_below (g := gb115) (o := .cells #[.int .i64 x116000_1, .slice none 0 0] 24 (0, 0)) (by (with_reducible repeat (first | refine blk_drewN ?_ _ | refine blk_drew ?_ | refine blk_alloc ?_ _ | refine blk_far ?_ NB115_119.out _)); exact BK115.out) hb); have n2_ := Aside0.mk (blk_below (g := gb117) (o := .cells (lv.map (Value.int .i64)).toArray 61 (0, 0)) (by (with_reducible repeat (first | refine blk_drewN ?_ _ | refine blk_drew ?_ | refine blk_alloc ?_ _ | refine blk_far ?_ NB117_119.out _)); exact BK117.out) hb); have n3_ := Aside0.mk (blk_below (g := gb119) (o := .cells #[.int .i64 ((rd_T38 l1 x25_1).f0), .int .i64 ((rd_T38 l1 x25_1).f1)] 38 (0, 0)) (by (with_reducible repeat (first | refine blk_drewN ?_ _ | refine blk_drew ?_ | refine blk_alloc ?_ _)); refine blk_put (cs := #[.int .i64 ((rd_T38 l1 x25_1).f0), .int .i64 0]) ?_ 1 _ rfl; (with_reducible repeat (first | refine blk_drewN ?_ _ | refine blk_drew ?_ | refine blk_alloc ?_ _)); refine blk_put (cs := #[.int .i64 0, .int .i64 0]) ?_ 0 _ rfl; (with_reducible repeat (first | refine blk_drewN ?_ _ | refine blk_drew ?_ | refine blk_alloc ?_ _)); exact BK119.out) hb); have n4_ := Aside0.mk (below_step bw hb); clear BK114; clear BK115; clear BK117; clear BK119; clear HB; have BK114 := n0_; have BK115 := n1_; have BK117 := n2_; have BK119 := n3_; have HB := n4_; clear n0_ n1_ n2_ n3_ n4_; (try clear hb); (try clear hb2); (try clear hk); (try clear hi); have hnb51 := NB115_114.out; have hnc51 := NB114_115.out; have hnb52 := NB115_117.out; have hnc52 := NB117_115.out; have hcz53_0 := bc2_0 BK115.out; have hcz53_1 := bc2_1 BK115.out; have hfz53_0 := blk_frozen BK115.out 0; have hfz53_1 := blk_frozen BK115.out 1))
         refine bodyPost_ret (results_ct rfl _ _ gb115 24 #[.int .i64 0, .slice none 0 0] (0, 0) _ rfl (by (with_reducible repeat (first | refine blk_drewN ?_ _ | refine blk_drew ?_ | refine blk_alloc ?_ _)); refine blk_put (cs := #[.int .i64 0, .slice none 0 0]) ?_ 1 _ rfl; (with_reducible repeat (first | refine blk_drewN ?_ _ | refine blk_drew ?_ | refine blk_alloc ?_ _)); refine blk_put (cs := #[.int .i64 x116000_1, .slice none 0 0]) ?_ 0 _ rfl; (with_reducible repeat (first | refine blk_drewN ?_ _ | refine blk_drew ?_ | refine blk_alloc ?_ _)); exact BK115.out) Tryd.underlying24 rfl (by kernel_rfl)) rfl ?_
         exact ⟨_, er, by first | exact Kd.R_nil _ _ _ _ _ | exact Kd.N_nil _ _ _ _ _ | exact Kd.V_nil _ _ _ _ _ | exact Kd.Q_nil _ _ _ _ _ | exact Kd.S_nil _ _ _ _ _, bw⟩
       ·rw [if_neg c23] at H
        exact absurd H (by simp)
      ·rw [if_neg c22] at H
       exact absurd H (by simp)
     ·rw [if_neg c21] at H
      have c21b0 : decide (x25_1 < (l1.length : Int)) = false := decide_eq_false c21
      clear c21
      have H' := Aside0.mk H
      clear H
      obtain ⟨d0, d1, d2, d3, d4, d5, d6, rfl⟩ : ∃ d0 d1 d2 d3 d4 d5 d6 : Int, lv = [d0, d1, d2, d3, d4, d5, d6] := by
       have := HLV.out
       match lv, this with
       | [d0, d1, d2, d3, d4, d5, d6], _ => exact ⟨_, _, _, _, _, _, _, rfl⟩
      have n0_ : Aside0 (wr.heap[gb117]? = some (.cells #[.int .i64 d0, .int .i64 d1, .int .i64 d2, .int .i64 d3, .int .i64 d4, .int .i64 d5, .int .i64 d6] 61 (0, 0))) := ⟨BK117.out⟩
      clear BK117
      have BK117 := n0_
      clear n0_
      have hnb54 := NB114_115.out
      have hnc54 := NB115_114.out
      have hnb55 := NB114_117.out
      have hnc55 := NB117_114.out
      have hcz56_0 := bc2_0 BK114.out
      have hcz56_1 := bc2_1 BK114.out
      have hfz56_0 := blk_frozen BK114.out 0
      have hfz56_1 := blk_frozen BK114.out 1
      go_wp2_with (first | ((with_reducible refine gate_dst (N := 11) rfl ?_); refine box_event ?hg (N := 11) ?hd (cs := #[.int .i64 0, .slice none 0 0]) (t := 24) ?hr ?_; (case hd => rfl); (case hg => rfl); (case hr => first | (go_simp; done) | (go_simp; rfl)); intro gb122 hg w57 hbox hb; have n0_ := Aside0.mk (nb BK114.out hb); have n1_ := Aside0.mk (nb BK115.out hb); have n2_ := Aside0.mk (nb BK117.out hb); have n3_ := Aside0.mk (below_step bw hb); have n4_ := Aside0.mk (hbox); have n5_ := Aside0.mk ((g1 hg bw : w.heap.size ≤ gb122)); have n6_ := Aside0.mk ((g1 hg bw : w.heap.size ≤ gb122)); have n7_ := Aside0.mk ((n1 hg BK114.out : gb114 ≠ gb122)); have n8_ := Aside0.mk ((n2 hg BK114.out : gb122 ≠ gb114)); have n9_ := Aside0.mk ((n1 hg BK115.out : gb115 ≠ gb122)); have n10_ := Aside0.mk ((n2 hg BK115.out : gb122 ≠ gb115)); have n11_ := Aside0.mk ((n1 hg BK117.out : gb117 ≠ gb122)); have n12_ := Aside0.mk ((n2 hg BK117.out : gb122 ≠ gb117)); clear BK114; clear BK115; clear BK117; clear HB; have BK114 := n0_; have BK115 := n1_; have BK117 := n2_; have HB := n3_; have BK122 := n4_; have GW122 := n5_; have GE122 := n6_; have NB114_122 := n7_; have NB122_114 := n8_; have NB115_122 := n9_; have NB122_115 := n10_; have NB117_122 := n11_; have NB122_117 := n12_; clear n0_ n1_ n2_ n3_ n4_ n5_ n6_ n7_ n8_ n9_ n10_ n11_ n12_; clear hb hbox hg; have hnb58 := NB122_114.out; have hnc58 := NB114_122.out; have hnb59 := NB122_115.out; have hnc59 := NB115_122.out; have hnb60 := NB122_117.out; have hnc60 := NB117_122.out; have hcz61_0 := bc2_0 BK122.out; have hcz61_1 := bc2_1 BK122.out; have hfz61_0 := blk_frozen BK122.out 0; have hfz61_1 := blk_frozen BK122.out 1; have hnb62 := NB117_115.out; have hnc62 := NB115_117.out; have hcz63_0 := bc7_0 BK117.out; have hcz63_1 := bc7_1 BK117.out; have hcz63_2 := bc7_2 BK117.out; have hcz63_3 := bc7_3 BK117.out; have hcz63_4 := bc7_4 BK117.out; have hcz63_5 := bc7_5 BK117.out; have hcz63_6 := bc7_6 BK117.out; have hfz63_0 := blk_frozen BK117.out 0; have hfz63_1 := blk_frozen BK117.out 1; have hfz63_2 := blk_frozen BK117.out 2; have hfz63_3 := blk_frozen BK117.out 3; have hfz63_4 := blk_frozen BK117.out 4; have hfz63_5 := blk_frozen BK117.out 5; have hfz63_6 := blk_frozen BK117.out 6))
      go_loopg [53] k1 (fun kq v53 w' => ∃ (x53_2 : Int) (x123001_2 : List (S38)) (u123001 : Value), v53 = .int .i64 x53_2 ∧ Aside0 (view_Next.l1 kq x53_2 [d0, d1, d2, d3, d4, d5, d6] a0_0 l0_1 (wrap64 (a0_0 + 1)) x123001_2 = some (r1, r2, r3)) ∧ Aside0 (kq ≤ k1) ∧ Aside0 (Kd.R k38 38 w' w.heap.size (fun _ => True) u123001 x123001_2) ∧ Aside0 (w'.heap[gb114]? = some (.cells #[.int .i64 a0_0, (.slice A0_1 l0_1.length c0_1)] 24 (0, 0))) ∧ Aside0 (w'.heap[gb115]? = some (.cells #[.int .i64 x116000_1, (.slice none 0 0)] 24 (0, 0))) ∧ Aside0 (w'.heap[gb117]? = some (.cells #[.int .i64 d0, .int .i64 d1, .int .i64 d2, .int .i64 d3, .int .i64 d4, .int .i64 d5, .int .i64 d6] 61 (0, 0))) ∧ Aside0 (w'.heap[gb122]? = some (.cells #[.int .i64 (wrap64 (a0_0 + 1)), u123001] 24 (0, 0))) ∧ Aside0 (Below w.heap.size w w'))
      case atStart => exact ⟨(0), (([] : List (S38))), (.slice none 0 0), (by first | rfl | (simp; done) | (simp [*]; done)), H', ⟨Nat.le_refl _⟩, ⟨by first | exact Kd.R_nil _ _ _ _ _ | exact Kd.N_nil _ _ _ _ _ | exact Kd.V_nil _ _ _ _ _ | exact Kd.Q_nil _ _ _ _ _ | exact Kd.S_nil _ _ _ _ _⟩, ⟨by (with_reducible repeat (first | refine blk_drewN ?_ _ | refine blk_drew ?_ | refine blk_alloc ?_ _ | refine blk_far ?_ NB114_122.out _)); exact BK114.out⟩, ⟨by (with_reducible repeat (first | refine blk_drewN ?_ _ | refine blk_drew ?_ | refine blk_alloc ?_ _ | refine blk_far ?_ NB115_122.out _)); exact BK115.out⟩, ⟨by (with_reducible repeat (first | refine blk_drewN ?_ _ | refine blk_drew ?_ | refine blk_alloc ?_ _ | refine blk_far ?_ NB117_122.out _)); exact BK117.out⟩, ⟨by (with_reducible repeat (first | refine blk_drewN ?_ _ | refine blk_drew ?_ | refine blk_alloc ?_ _)); refine blk_put (cs := #[.int .i64 (wrap64 (a0_0 + 1)), .slice none 0 0]) ?_ 1 _ rfl; (with_reducible repeat (first | refine blk_drewN ?_ _ | refine blk_drew ?_ | refine blk_alloc ?_ _)); refine blk_put (cs := #[.int .i64 0, .slice none 0 0]) ?_ 0 _ rfl; (with_reducible repeat (first | refine blk_drewN ?_ _ | refine blk_drew ?_ | refine blk_alloc ?_ _)); exact BK122.out⟩, ⟨bw⟩⟩
      case round =>
       clear H'
       try clear c1
       try clear p1
       try clear q1
       try clear hx1
       try clear c2
       try clear p2
       try clear c3
       try clear c4
       try clear c5
       try clear c6
       try clear c6b0
       try clear c6b1
       try clear p6
       try clear c9
       try clear p11
       try clear q11
       try clear hx11
       try clear c12
       try clear c16
       try clear c17
       try clear c21
       try clear c21b0
       try clear c22
       try clear c22b0
       try clear c23
       try clear c23b0
       try clear c25
       try clear c26
       try clear c27
       try clear c30
       try clear c31
       try clear c32
       try clear c39
       try clear c40
       try clear c41
       try clear c46
       try clear c47
       try clear c48
       try clear c51
       try clear c52
       try clear c54
       try clear c55
       try clear c58
       try clear c59
       try clear c60
       try clear c62
       try clear hcz10_0
       try clear hcz10_1
       try clear hcz12_0
       try clear hcz12_1
       try clear hcz13_0
       try clear hcz13_1
       try clear hcz17_0
       try clear hcz17_1
       try clear hcz19_0
       try clear hcz19_1
       try clear hcz33_0
       try clear hcz33_1
       try clear hcz35_0
       try clear hcz35_1
       try clear hcz42_0
       try clear hcz42_1
       try clear hcz44_0
       try clear hcz44_1
       try clear hcz49_0
       try clear hcz49_1
       try clear hcz53_0
       try clear hcz53_1
       try clear hcz56_0
       try clear hcz56_1
       try clear hcz61_0
       try clear hcz61_1
       try clear hcz63_0
       try clear hcz63_1
       try clear hcz63_2
       try clear hcz63_3
       try clear hcz63_4
       try clear hcz63_5
       try clear hcz63_6
       try clear hfz10_0
       try clear hfz10_1
       try clear hfz12_0
       try clear hfz12_1
       try clear hfz13_0
       try clear hfz13_1
       try clear hfz17_0
       try clear hfz17_1
       try clear hfz19_0
       try clear hfz19_1
       try clear hfz33_0
       try clear hfz33_1
       try clear hfz35_0
       try clear hfz35_1
       try clear hfz42_0
       try clear hfz42_1
       try clear hfz44_0
       try clear hfz44_1
       try clear hfz49_0
       try clear hfz49_1
       try clear hfz53_0
       try clear hfz53_1
       try clear hfz56_0
       try clear hfz56_1
       try clear hfz61_0
       try clear hfz61_1
       try clear hfz63_0
       try clear hfz63_1
       try clear hfz63_2
       try clear hfz63_3
       try clear hfz63_4
       try clear hfz63_5
       try clear hfz63_6
       try clear hx118_0
       try clear hx118_1
       try clear p118
       try clear p2
       try clear q118
       obtain ⟨x53_2, x123001_2, u123001, rfl, HA, HK2, HO_123001, BK114, BK115, BK117, BK122, HB⟩ := hrel
       cases gk with
       | zero => exact absurd HA.out (by simp [view_Next.l1])
       | succ k2 =>
        have H := HA.out
        clear HA
        simp only [view_Next.l1] at H
        by_cases c64 : x53_2 < 7
        ·rw [if_pos c64] at H
         have c64b0 : decide (x53_2 < 7) = true := decide_eq_true c64
         clear c64
         by_cases c164 : 0 ≤ x53_2
         case neg => rw [if_neg c164] at H; exact absurd H (by simp)
         rw [if_pos c164] at H
         obtain ⟨V, hV⟩ : ∃ V : Int, [d0, d1, d2, d3, d4, d5, d6].getD x53_2.toNat 0 = V := ⟨_, rfl⟩
         rw [hV] at H
         have hix : ∀ w_ : World, (Instr.index 61 (.agg #[.int .i64 d0, .int .i64 d1, .int .i64 d2, .int .i64 d3, .int .i64 d4, .int .i64 d5, .int .i64 d6]) (.int .i64 x53_2)).run Tryd.prog w_ = .ok (.int .i64 V) w_ := fun w_ => by rw [← hV]; exact ix61 d0 d1 d2 d3 d4 d5 d6 x53_2 c164 (of_decide_eq_true c64b0) w_
         clear hV c164
         by_cases c65 : V > 0
         ·rw [if_pos c65] at H
          have c65b0 : decide (0 < V) = true := decide_eq_true c65
          clear c65
          by_cases c66 : x123001_2.length < 8796093022208
          ·rw [if_pos c66] at H
           have LMc66 := Aside0.mk c66
           clear c66
           obtain ⟨y123, hy123⟩ : ∃ y_ : List (S38), y_ = (x123001_2 ++ [(⟨x53_2, V⟩ : S38)]) := ⟨_, rfl⟩
           replace H : (view_Next.l1 k2 (wrap64 (x53_2 + 1)) [d0, d1, d2, d3, d4, d5, d6] a0_0 l0_1 (wrap64 (a0_0 + 1)) y123) = some (r1, r2, r3) := by first | (rw [hy123]; with_reducible exact H) | (have H2_ := (Option.bind_some _ _).symm.trans H; rw [hy123]; with_reducible exact H2_) | (have H2_ := (Option.bind_some _ _).symm.trans H; with_reducible exact H2_) | with_reducible exact H | (rw [hy123]; exact H) | exact H
           have Ny123 := Aside0.mk hy123
           clear hy123
           have H' := Aside0.mk H
           clear H
           have hnb67 := NB122_114.out
           have hnc67 := NB114_122.out
           have hnb68 := NB122_115.out
           have hnc68 := NB115_122.out
           have hnb69 := NB122_117.out
           have hnc69 := NB117_122.out
           have hcz70_0 := bc2_0 BK122.out
           have hcz70_1 := bc2_1 BK122.out
           have hfz70_0 := blk_frozen BK122.out 0
           have hfz70_1 := blk_frozen BK122.out 1
           go_wp2_with (first | ((with_reducible refine gate_builtin (b := .append) (xs := #[.tmp 60, .tmp 64]) rfl ?_); at_builtin; refine Kd.R_append k38 (w0 := w) w.heap.size rfl (.tmp 60) (.tmp 64) 22 38 (.agg #[(.int .i64 0), (.int .i64 0)]) 16 rfl Tryd.underlying22 info38 rfl (by decide) (by omega) u123001 x123001_2 (⟨x53_2, V⟩ : S38) [.int .i64 x53_2, .int .i64 V] (fun _ => True) (fun _ => False) rfl rfl ?aP (fun _ hk => hk.elim) ?aF ?aO ?aB ?aS ?aL ?_; (case aP => exact k38_mkM _ _ _ (⟨x53_2, V⟩ : S38)); (case aB => exact bw); (case aF => exact (fun _ _ => trivial)); (case aO => exact (by (with_reducible repeat (first | apply Kd.R_alloc | apply Kd.R_drewN | apply Kd.R_drew)); exact HO_123001.out)); (case aS => exact (below_size bw)); (case aL => have := LMc66.out; omega); intro v124 w71 ho hb hg hat; rw [← Ny123.out] at ho; have n0_ := Aside0.mk (blk_grown (g := gb114) (o := .cells #[.int .i64 a0_0, .slice A0_1 l0_1.length c0_1] 24 (0, 0)) (bk BK114.out) hg (Kd.R_ne HO_123001.out BK114.out (by decide))); have n1_ := Aside0.mk (blk_grown (g := gb115) (o := .cells #[.int .i64 x116000_1, .slice none 0 0] 24 (0, 0)) (bk BK115.out) hg (Kd.R_ne HO_123001.out BK115.out (by decide))); have n2_ := Aside0.mk (blk_grown (g := gb117) (o := .cells #[.int .i64 d0, .int .i64 d1, .int .i64 d2, .int .i64 d3, .int .i64 d4, .int .i64 d5, .int .i64 d6] 61 (0, 0)) (bk BK117.out) hg (Kd.R_ne HO_123001.out BK117.out (by decide))); have n3_ := Aside0.mk (blk_grown (g := gb122) (o := .cells #[.int .i64 (wrap64 (a0_0 + 1)), u123001] 24 (0, 0)) (bk BK122.out) hg (Kd.R_ne HO_123001.out BK122.out (by decide))); have n4_ := Aside0.mk (hb); have n5_ := Aside0.mk (ho); clear BK114; clear BK115; clear BK117; clear BK122; clear HB; clear HO_123001; have BK114 := n0_; have BK115 := n1_; have BK117 := n2_; have BK122 := n3_; have HB := n4_; have HO125 := n5_; clear n0_ n1_ n2_ n3_ n4_ n5_; clear ho hb hg hat; obtain ⟨Ao72, co72, eo72⟩ := Kd.R_slice HO125.out; subst eo72; have hcz73_0 := bc2_0 BK122.out; have hcz73_1 := bc2_1 BK122.out; have hfz73_0 := blk_frozen BK122.out 0; have hfz73_1 := blk_frozen BK122.out 1))
           go_roundg k2
           case measure => have := HK1.out; have := HK2.out; omega
           case rel => exact ⟨(wrap64 (x53_2 + 1)), (y123), (.slice Ao72 y123.length co72), (by first | rfl | (simp; done) | (simp [*]; done)), H', ⟨by have := HK1.out; have := HK2.out; omega⟩, ⟨by (with_reducible repeat (first | apply Kd.R_alloc | apply Kd.R_drewN | apply Kd.R_drew)); exact Kd.R_mono (Kd.R_far (p := ⟨gb122, 1, none⟩) (Kd.R_types HO125.out BK122.out (by decide)) (fun _ hk => hk.2) (.slice Ao72 y123.length co72)) (fun _ hk => trivial)⟩, ⟨by (with_reducible repeat (first | refine blk_drewN ?_ _ | refine blk_drew ?_ | refine blk_alloc ?_ _)); refine blk_far ?_ NB114_122.out _; (with_reducible repeat (first | refine blk_drewN ?_ _ | refine blk_drew ?_ | refine blk_alloc ?_ _)); exact BK114.out⟩, ⟨by (with_reducible repeat (first | refine blk_drewN ?_ _ | refine blk_drew ?_ | refine blk_alloc ?_ _)); refine blk_far ?_ NB115_122.out _; (with_reducible repeat (first | refine blk_drewN ?_ _ | refine blk_drew ?_ | refine blk_alloc ?_ _)); exact BK115.out⟩, ⟨by (with_reducible repeat (first | refine blk_drewN ?_ _ | refine blk_drew ?_ | refine blk_alloc ?_ _)); refine blk_far ?_ NB117_122.out _; (with_reducible repeat (first | refine blk_drewN ?_ _ | refine blk_drew ?_ | refine blk_alloc ?_ _)); exact BK117.out⟩, ⟨by (with_reducible repeat (first | refine blk_drewN ?_ _ | refine blk_drew ?_ | refine blk_alloc ?_ _)); refine blk_put (cs := #[.int .i64 (wrap64 (a0_0 + 1)), u123001]) ?_ 1 _ rfl; (with_reducible repeat (first | refine blk_drewN ?_ _ | refine blk_drew ?_ | refine blk_alloc ?_ _)); exact BK122.out⟩, ⟨bw⟩⟩
          ·rw [if_neg c66] at H
           exact absurd H (by simp)
         ·rw [if_neg c65] at H
          have c65b0 : decide (0 < V) = false := decide_eq_false c65
          clear c65
          have H' := Aside0.mk H
          clear H
          go_wp2
          go_roundg k2
          case measure => have := HK1.out; have := HK2.out; omega
          case rel => exact ⟨(wrap64 (x53_2 + 1)), (x123001_2), (u123001), (by first | rfl | (simp; done) | (simp [*]; done)), H', ⟨by have := HK1.out; have := HK2.out; omega⟩, ⟨by (with_reducible repeat (first | apply Kd.R_alloc | apply Kd.R_drewN | apply Kd.R_drew)); exact HO_123001.out⟩, ⟨by (with_reducible repeat (first | refine blk_drewN ?_ _ | refine blk_drew ?_ | refine blk_alloc ?_ _)); exact BK114.out⟩, ⟨by (with_reducible repeat (first | refine blk_drewN ?_ _ | refine blk_drew ?_ | refine blk_alloc ?_ _)); exact BK115.out⟩, ⟨by (with_reducible repeat (first | refine blk_drewN ?_ _ | refine blk_drew ?_ | refine blk_alloc ?_ _)); exact BK117.out⟩, ⟨by (with_reducible repeat (first | refine blk_drewN ?_ _ | refine blk_drew ?_ | refine blk_alloc ?_ _)); exact BK122.out⟩, ⟨bw⟩⟩
        ·rw [if_neg c64] at H
         have c64b0 : decide (x53_2 < 7) = false := decide_eq_false c64
         clear c64
         replace H := Option.bind_eq_some_iff.mp H
         obtain ⟨t126, A740, H⟩ := H
         replace H : ((view_Majority.f a0_0 l0_1).bind fun t127 => (if t126 < t127 then (some (0, ([] : List (S38)), 12)) else (some ((wrap64 (a0_0 + 1)), x123001_2, 0)))) = some (r1, r2, r3) := H
         have A74 := Aside0.mk A740
         clear A740
         replace H := Option.bind_eq_some_iff.mp H
         obtain ⟨t127, A750, H⟩ := H
         replace H : (if t126 < t127 then (some (0, ([] : List (S38)), 12)) else (some ((wrap64 (a0_0 + 1)), x123001_2, 0))) = some (r1, r2, r3) := H
         have A75 := Aside0.mk A750
         clear A750
         by_cases c76 : t126 < t127
         ·rw [if_pos c76] at H
          have c76b0 : decide (t126 < t127) = true := decide_eq_true c76
          clear c76
          simp only [Option.some.injEq, Prod.mk.injEq] at H
          obtain ⟨rfl, rfl, rfl⟩ := H
          try go_wp2
          have n0_ := Aside0.mk (Kd.R_drew HO_123001.out)
          have n1_ := Aside0.mk (blk_drew BK114.out)
          have n2_ := Aside0.mk (blk_drew BK115.out)
          have n3_ := Aside0.mk (blk_drew BK117.out)
          have n4_ := Aside0.mk (blk_drew BK122.out)
          have n5_ := Aside0.mk (below_drew1 HB.out)
          clear HO_123001
          clear BK114
          clear BK115
          clear BK117
          clear BK122
          clear HB
          have HO_123001 := n0_
          have BK114 := n1_
          have BK115 := n2_
          have BK117 := n3_
          have BK122 := n4_
          have HB := n5_
          clear n0_ n1_ n2_ n3_ n4_ n5_
          obtain ⟨Ao78, co78, eo78⟩ := Kd.R_slice HO_123001.out
          (first | subst eo78 | (injection eo78 with f1_ f2_ f3_; have f4_ := f1_.symm; have f5_ := f3_.symm; clear f1_ f2_ f3_; subst f4_; subst f5_))
          refine start_ (n := 6) (S := fun w' => w'.cell? ⟨gb114, 0, none⟩ = some (.int .i64 a0_0) ∧ w'.cell? ⟨gb114, 1, none⟩ = some (.slice A0_1 l0_1.length c0_1) ∧ w'.cell? ⟨gb122, 0, none⟩ = some (.int .i64 (wrap64 (a0_0 + 1))) ∧ w'.cell? ⟨gb122, 1, none⟩ = some (.slice Ao78 x123001_2.length co78)) (ds := []) #[false, false, false, false, false, false] (by kernel_rfl) rfl rfl ⟨(blk_cell BK114.out 0).trans rfl, (blk_cell BK114.out 1).trans rfl, (blk_cell BK122.out 0).trans rfl, (blk_cell BK122.out 1).trans rfl⟩ (fun hHeld => ?_)
          generalize wr.drew = w77 at HO_123001 BK114 BK115 BK117 BK122 HB hHeld ⊢
          refine take_ (i := 0) (N := some 68) (v := ?_) (a' := ?_) #[true, false, false, false, false, false] rfl rfl (by kernel_rfl) (fun _ _ _ h => h) (Or.inl ⟨by rfl, ?_⟩) hHeld ?_ ?_
          rotate_left
          ·rintro w' ⟨s0, s1, s2, s3⟩
           go_simp
           with_reducible rfl
          rotate_left
          ·simp only [Act.put, sl1, sl2, sl3, i64_w, i32_w]
           rfl
          refine take_ (i := 1) (N := some 69) (v := ?_) (a' := ?_) #[true, true, false, false, false, false] rfl rfl (by kernel_rfl) (fun _ _ _ h => h) (Or.inl ⟨by rfl, ?_⟩) hHeld ?_ ?_
          rotate_left
          ·rintro w' ⟨s0, s1, s2, s3⟩
           go_simp
           with_reducible rfl
          rotate_left
          ·simp only [Act.put, sl1, sl2, sl3, i64_w, i32_w]
           rfl
          refine take_ (i := 3) (N := some 71) (v := ?_) (a' := ?_) #[true, true, false, true, false, false] rfl rfl (by kernel_rfl) (fun _ _ _ h => h) (Or.inl ⟨by rfl, ?_⟩) hHeld ?_ ?_
          rotate_left
          ·rintro w' ⟨s0, s1, s2, s3⟩
           go_simp
           with_reducible rfl
          rotate_left
          ·simp only [Act.put, sl1, sl2, sl3, i64_w, i32_w]
           rfl
          refine one_ (i := 2) (N := some 70) #[true, true, true, true, false, false] rfl rfl (by kernel_rfl) (by decide) (fun K hK => ?_)
          refine goes_ Tryd.func15 (by kernel_rfl) rfl #[.agg #[.int .i64 a0_0, .slice A0_1 l0_1.length c0_1], .agg #[.int .i64 (wrap64 (a0_0 + 1)), .slice Ao78 x123001_2.length co78]] (by rfl) rfl rfl am ?_
          with_reducible refine (view_Common.calls a0_0 _ _ l0_1 (wrap64 (a0_0 + 1)) _ _ x123001_2 t126 _ ?side1 ?side2 ?side3 ?side4 A74.out).mono ?_
          (case side1 => repeat (first | exact (Kd.C_below HR0_1.out HB.out) | (with_reducible refine Kd.C_alloc ?_ _) | (with_reducible refine Kd.C_drewN ?_ _) | (with_reducible refine Kd.C_drew ?_)))
          (case side2 => exact HC0_1.out)
          (case side3 => repeat (first | exact (Kd.R_reads' HO_123001.out).2.2 | (with_reducible refine Kd.C_alloc ?_ _) | (with_reducible refine Kd.C_drewN ?_ _) | (with_reducible refine Kd.C_drew ?_)))
          (case side4 => exact (Kd.R_reads' HO_123001.out).2.1)
          rintro e w79 ⟨rfl, hb⟩
          refine ⟨_, rfl, ?_⟩
          have n0_ := Aside0.mk (Kd.R_below (by (with_reducible repeat (first | apply Kd.R_alloc | apply Kd.R_drewN | apply Kd.R_drew)); exact HO_123001.out) hb)
          have n1_ := Aside0.mk (nb BK114.out hb)
          have n2_ := Aside0.mk (nb BK115.out hb)
          have n3_ := Aside0.mk (nb BK117.out hb)
          have n4_ := Aside0.mk (nb BK122.out hb)
          have n5_ := Aside0.mk (below_step bw hb)
          clear HO_123001
          clear BK114
          clear BK115
          clear BK117
          clear BK122
          clear HB
          have HO_123001 := n0_
          have BK114 := n1_
          have BK115 := n2_
          have BK117 := n3_
          have BK122 := n4_
          have HB := n5_
          clear n0_ n1_ n2_ n3_ n4_ n5_
          (try clear hb)
          (try clear hb2)
          (try clear hk)
          (try clear hi)
          refine hK.out _ _ ⟨(blk_cell BK114.out 0).trans rfl, (blk_cell BK114.out 1).trans rfl, (blk_cell BK122.out 0).trans rfl, (blk_cell BK122.out 1).trans rfl⟩ (fun hHeld => ?_)
          clear hK K
          refine norm_ (a' := ?_) ?_ ?_
          rotate_left
          ·show Act.put _ (some 70) _ = _
           simp only [Act.put, sl1, sl2, sl3, i64_w, i32_w]
           rfl
          refine one_ (i := 4) (N := some 72) #[true, true, true, true, true, false] rfl rfl (by kernel_rfl) (by decide) (fun K hK => ?_)
          refine goes_ Tryd.func14 (by kernel_rfl) rfl #[.agg #[.int .i64 a0_0, .slice A0_1 l0_1.length c0_1]] (by rfl) rfl rfl am ?_
          with_reducible refine (view_Majority.calls a0_0 _ _ l0_1 t127 _ ?side1 ?side2 A75.out).mono ?_
          (case side1 => repeat (first | exact (Kd.C_below HR0_1.out HB.out) | (with_reducible refine Kd.C_alloc ?_ _) | (with_reducible refine Kd.C_drewN ?_ _) | (with_reducible refine Kd.C_drew ?_)))
          (case side2 => exact HC0_1.out)
          rintro e w80 ⟨rfl, hb⟩
          refine ⟨_, rfl, ?_⟩
          have n0_ := Aside0.mk (Kd.R_below (by (with_reducible repeat (first | apply Kd.R_alloc | apply Kd.R_drewN | apply Kd.R_drew)); exact HO_123001.out) hb)
          have n1_ := Aside0.mk (nb BK114.out hb)
          have n2_ := Aside0.mk (nb BK115.out hb)
          have n3_ := Aside0.mk (nb BK117.out hb)
          have n4_ := Aside0.mk (nb BK122.out hb)
          have n5_ := Aside0.mk (below_step bw hb)
          clear HO_123001
          clear BK114
          clear BK115
          clear BK117
          clear BK122
          clear HB
          have HO_123001 := n0_
          have BK114 := n1_
          have BK115 := n2_
          have BK117 := n3_
          have BK122 := n4_
          have HB := n5_
          clear n0_ n1_ n2_ n3_ n4_ n5_
          (try clear hb)
          (try clear hb2)
          (try clear hk)
          (try clear hi)
          refine hK.out _ _ ⟨(blk_cell BK114.out 0).trans rfl, (blk_cell BK114.out 1).trans rfl, (blk_cell BK122.out 0).trans rfl, (blk_cell BK122.out 1).trans rfl⟩ (fun hHeld => ?_)
          clear hK K
          refine norm_ (a' := ?_) ?_ ?_
          rotate_left
          ·show Act.put _ (some 72) _ = _
           simp only [Act.put, sl1, sl2, sl3, i64_w, i32_w]
           rfl
          refine pure_ (i := 5) (N := some 73) (v := ?_) (a' := ?_) #[true, true, true, true, true, true] rfl rfl (by kernel_rfl) (fun _ _ _ h => h) (Or.inl ⟨by rfl, ?_⟩) ?_ ?_
          rotate_left
          ·intro w'
           go_simp
           with_reducible rfl
          rotate_left
          ·simp only [Act.put, sl1, sl2, sl3, i64_w, i32_w]
           rfl
          refine done_ (by kernel_rfl) ?_
          have hnb81 := NB115_114.out
          have hnc81 := NB114_115.out
          have hnb82 := NB115_117.out
          have hnc82 := NB117_115.out
          have hnb83 := NB115_122.out
          have hnc83 := NB122_115.out
          have hcz84_0 := bc2_0 BK115.out
          have hcz84_1 := bc2_1 BK115.out
          have hfz84_0 := blk_frozen BK115.out 0
          have hfz84_1 := blk_frozen BK115.out 1
          try go_wp2
          refine bodyPost_ret (results_ct rfl _ _ gb115 24 #[.int .i64 0, .slice none 0 0] (0, 0) _ rfl (by (with_reducible repeat (first | refine blk_drewN ?_ _ | refine blk_drew ?_ | refine blk_alloc ?_ _)); refine blk_put (cs := #[.int .i64 0, .slice none 0 0]) ?_ 1 _ rfl; (with_reducible repeat (first | refine blk_drewN ?_ _ | refine blk_drew ?_ | refine blk_alloc ?_ _)); refine blk_put (cs := #[.int .i64 x116000_1, .slice none 0 0]) ?_ 0 _ rfl; (with_reducible repeat (first | refine blk_drewN ?_ _ | refine blk_drew ?_ | refine blk_alloc ?_ _)); exact BK115.out) Tryd.underlying24 rfl (by kernel_rfl)) rfl ?_
          exact ⟨_, er, by first | exact Kd.R_nil _ _ _ _ _ | exact Kd.N_nil _ _ _ _ _ | exact Kd.V_nil _ _ _ _ _ | exact Kd.Q_nil _ _ _ _ _ | exact Kd.S_nil _ _ _ _ _, bw⟩
         ·rw [if_neg c76] at H
          have c76b0 : decide (t126 < t127) = false := decide_eq_false c76
          clear c76
          simp only [Option.some.injEq, Prod.mk.injEq] at H
          obtain ⟨rfl, rfl, rfl⟩ := H
          try go_wp2
          have n0_ := Aside0.mk (Kd.R_drew HO_123001.out)
          have n1_ := Aside0.mk (blk_drew BK114.out)
          have n2_ := Aside0.mk (blk_drew BK115.out)
          have n3_ := Aside0.mk (blk_drew BK117.out)
          have n4_ := Aside0.mk (blk_drew BK122.out)
          have n5_ := Aside0.mk (below_drew1 HB.out)
          clear HO_123001
          clear BK114
          clear BK115
          clear BK117
          clear BK122
          clear HB
          have HO_123001 := n0_
          have BK114 := n1_
          have BK115 := n2_
          have BK117 := n3_
          have BK122 := n4_
          have HB := n5_
          clear n0_ n1_ n2_ n3_ n4_ n5_
          obtain ⟨Ao86, co86, eo86⟩ := Kd.R_slice HO_123001.out
          (first | subst eo86 | (injection eo86 with f1_ f2_ f3_; have f4_ := f1_.symm; have f5_ := f3_.symm; clear f1_ f2_ f3_; subst f4_; subst f5_))
          refine start_ (n := 6) (S := fun w' => w'.cell? ⟨gb114, 0, none⟩ = some (.int .i64 a0_0) ∧ w'.cell? ⟨gb114, 1, none⟩ = some (.slice A0_1 l0_1.length c0_1) ∧ w'.cell? ⟨gb122, 0, none⟩ = some (.int .i64 (wrap64 (a0_0 + 1))) ∧ w'.cell? ⟨gb122, 1, none⟩ = some (.slice Ao86 x123001_2.length co86)) (ds := []) #[false, false, false, false, false, false] (by kernel_rfl) rfl rfl ⟨(blk_cell BK114.out 0).trans rfl, (blk_cell BK114.out 1).trans rfl, (blk_cell BK122.out 0).trans rfl, (blk_cell BK122.out 1).trans rfl⟩ (fun hHeld => ?_)
          generalize wr.drew = w85 at HO_123001 BK114 BK115 BK117 BK122 HB hHeld ⊢
          refine take_ (i := 0) (N := some 68) (v := ?_) (a' := ?_) #[true, false, false, false, false, false] rfl rfl (by kernel_rfl) (fun _ _ _ h => h) (Or.inl ⟨by rfl, ?_⟩) hHeld ?_ ?_
          rotate_left
          ·rintro w' ⟨s0, s1, s2, s3⟩
           go_simp
           with_reducible rfl
          rotate_left
          ·simp only [Act.put, sl1, sl2, sl3, i64_w, i32_w]
           rfl
          refine take_ (i := 1) (N := some 69) (v := ?_) (a' := ?_) #[true, true, false, false, false, false] rfl rfl (by kernel_rfl) (fun _ _ _ h => h) (Or.inl ⟨by rfl, ?_⟩) hHeld ?_ ?_
          rotate_left
          ·rintro w' ⟨s0, s1, s2, s3⟩
           go_simp
           with_reducible rfl
          rotate_left
          ·simp only [Act.put, sl1, sl2, sl3, i64_w, i32_w]
           rfl
          refine take_ (i := 3) (N := some 71) (v := ?_) (a' := ?_) #[true, true, false, true, false, false] rfl rfl (by kernel_rfl) (fun _ _ _ h => h) (Or.inl ⟨by rfl, ?_⟩) hHeld ?_ ?_
          rotate_left
          ·rintro w' ⟨s0, s1, s2, s3⟩
           go_simp
           with_reducible rfl
          rotate_left
          ·simp only [Act.put, sl1, sl2, sl3, i64_w, i32_w]
           rfl
          refine one_ (i := 2) (N := some 70) #[true, true, true, true, false, false] rfl rfl (by kernel_rfl) (by decide) (fun K hK => ?_)
          refine goes_ Tryd.func15 (by kernel_rfl) rfl #[.agg #[.int .i64 a0_0, .slice A0_1 l0_1.length c0_1], .agg #[.int .i64 (wrap64 (a0_0 + 1)), .slice Ao86 x123001_2.length co86]] (by rfl) rfl rfl am ?_
          with_reducible refine (view_Common.calls a0_0 _ _ l0_1 (wrap64 (a0_0 + 1)) _ _ x123001_2 t126 _ ?side1 ?side2 ?side3 ?side4 A74.out).mono ?_
          (case side1 => repeat (first | exact (Kd.C_below HR0_1.out HB.out) | (with_reducible refine Kd.C_alloc ?_ _) | (with_reducible refine Kd.C_drewN ?_ _) | (with_reducible refine Kd.C_drew ?_)))
          (case side2 => exact HC0_1.out)
          (case side3 => repeat (first | exact (Kd.R_reads' HO_123001.out).2.2 | (with_reducible refine Kd.C_alloc ?_ _) | (with_reducible refine Kd.C_drewN ?_ _) | (with_reducible refine Kd.C_drew ?_)))
          (case side4 => exact (Kd.R_reads' HO_123001.out).2.1)
          rintro e w87 ⟨rfl, hb⟩
          refine ⟨_, rfl, ?_⟩
          have n0_ := Aside0.mk (Kd.R_below (by (with_reducible repeat (first | apply Kd.R_alloc | apply Kd.R_drewN | apply Kd.R_drew)); exact HO_123001.out) hb)
          have n1_ := Aside0.mk (nb BK114.out hb)
          have n2_ := Aside0.mk (nb BK115.out hb)
          have n3_ := Aside0.mk (nb BK117.out hb)
          have n4_ := Aside0.mk (nb BK122.out hb)
          have n5_ := Aside0.mk (below_step bw hb)
          clear HO_123001
          clear BK114
          clear BK115
          clear BK117
          clear BK122
          clear HB
          have HO_123001 := n0_
          have BK114 := n1_
          have BK115 := n2_
          have BK117 := n3_
          have BK122 := n4_
          have HB := n5_
          clear n0_ n1_ n2_ n3_ n4_ n5_
          (try clear hb)
          (try clear hb2)
          (try clear hk)
          (try clear hi)
          refine hK.out _ _ ⟨(blk_cell BK114.out 0).trans rfl, (blk_cell BK114.out 1).trans rfl, (blk_cell BK122.out 0).trans rfl, (blk_cell BK122.out 1).trans rfl⟩ (fun hHeld => ?_)
          clear hK K
          refine norm_ (a' := ?_) ?_ ?_
          rotate_left
          ·show Act.put _ (some 70) _ = _
           simp only [Act.put, sl1, sl2, sl3, i64_w, i32_w]
           rfl
          refine one_ (i := 4) (N := some 72) #[true, true, true, true, true, false] rfl rfl (by kernel_rfl) (by decide) (fun K hK => ?_)
          refine goes_ Tryd.func14 (by kernel_rfl) rfl #[.agg #[.int .i64 a0_0, .slice A0_1 l0_1.length c0_1]] (by rfl) rfl rfl am ?_
          with_reducible refine (view_Majority.calls a0_0 _ _ l0_1 t127 _ ?side1 ?side2 A75.out).mono ?_
          (case side1 => repeat (first | exact (Kd.C_below HR0_1.out HB.out) | (with_reducible refine Kd.C_alloc ?_ _) | (with_reducible refine Kd.C_drewN ?_ _) | (with_reducible refine Kd.C_drew ?_)))
          (case side2 => exact HC0_1.out)
          rintro e w88 ⟨rfl, hb⟩
          refine ⟨_, rfl, ?_⟩
          have n0_ := Aside0.mk (Kd.R_below (by (with_reducible repeat (first | apply Kd.R_alloc | apply Kd.R_drewN | apply Kd.R_drew)); exact HO_123001.out) hb)
          have n1_ := Aside0.mk (nb BK114.out hb)
          have n2_ := Aside0.mk (nb BK115.out hb)
          have n3_ := Aside0.mk (nb BK117.out hb)
          have n4_ := Aside0.mk (nb BK122.out hb)
          have n5_ := Aside0.mk (below_step bw hb)
          clear HO_123001
          clear BK114
          clear BK115
          clear BK117
          clear BK122
          clear HB
          have HO_123001 := n0_
          have BK114 := n1_
          have BK115 := n2_
          have BK117 := n3_
          have BK122 := n4_
          have HB := n5_
          clear n0_ n1_ n2_ n3_ n4_ n5_
          (try clear hb)
          (try clear hb2)
          (try clear hk)
          (try clear hi)
          refine hK.out _ _ ⟨(blk_cell BK114.out 0).trans rfl, (blk_cell BK114.out 1).trans rfl, (blk_cell BK122.out 0).trans rfl, (blk_cell BK122.out 1).trans rfl⟩ (fun hHeld => ?_)
          clear hK K
          refine norm_ (a' := ?_) ?_ ?_
          rotate_left
          ·show Act.put _ (some 72) _ = _
           simp only [Act.put, sl1, sl2, sl3, i64_w, i32_w]
           rfl
          refine pure_ (i := 5) (N := some 73) (v := ?_) (a' := ?_) #[true, true, true, true, true, true] rfl rfl (by kernel_rfl) (fun _ _ _ h => h) (Or.inl ⟨by rfl, ?_⟩) ?_ ?_
          rotate_left
          ·intro w'
           go_simp
           with_reducible rfl
          rotate_left
          ·simp only [Act.put, sl1, sl2, sl3, i64_w, i32_w]
           rfl
          refine done_ (by kernel_rfl) ?_
          have hnb89 := NB122_114.out
          have hnc89 := NB114_122.out
          have hnb90 := NB122_115.out
          have hnc90 := NB115_122.out
          have hnb91 := NB122_117.out
          have hnc91 := NB117_122.out
          have hcz92_0 := bc2_0 BK122.out
          have hcz92_1 := bc2_1 BK122.out
          have hfz92_0 := blk_frozen BK122.out 0
          have hfz92_1 := blk_frozen BK122.out 1
          have hnb93 := NB115_114.out
          have hnc93 := NB114_115.out
          have hnb94 := NB115_117.out
          have hnc94 := NB117_115.out
          have hcz95_0 := bc2_0 BK115.out
          have hcz95_1 := bc2_1 BK115.out
          have hfz95_0 := blk_frozen BK115.out 0
          have hfz95_1 := blk_frozen BK115.out 1
          try go_wp2
          refine bodyPost_ret (results_ct rfl _ _ gb115 24 #[.int .i64 (wrap64 (a0_0 + 1)), .slice Ao86 x123001_2.length co86] (0, 0) _ rfl (by (with_reducible repeat (first | refine blk_drewN ?_ _ | refine blk_drew ?_ | refine blk_alloc ?_ _)); refine blk_put (cs := #[.int .i64 (wrap64 (a0_0 + 1)), .slice none 0 0]) ?_ 1 _ rfl; (with_reducible repeat (first | refine blk_drewN ?_ _ | refine blk_drew ?_ | refine blk_alloc ?_ _)); refine blk_put (cs := #[.int .i64 x116000_1, .slice none 0 0]) ?_ 0 _ rfl; (with_reducible repeat (first | refine blk_drewN ?_ _ | refine blk_drew ?_ | refine blk_alloc ?_ _)); exact BK115.out) Tryd.underlying24 rfl (by kernel_rfl)) rfl ?_
          exact ⟨_, er, by (with_reducible repeat (first | apply Kd.R_alloc | apply Kd.R_drewN | apply Kd.R_drew)); exact Kd.R_mono (Kd.R_far (p := ⟨gb115, 1, none⟩) (Kd.R_far (p := ⟨gb115, 0, none⟩) (Kd.R_types HO_123001.out BK115.out (by decide)) (fun _ hk => hk.2) (.int .i64 (wrap64 (a0_0 + 1)))) (fun _ hk => hk.2) (.slice Ao86 x123001_2.length co86)) (fun _ hk => trivial), bw⟩
 ·replace c5 := Bool.eq_false_iff.mpr c5
  subst c5
  have H1 : (some (0, ([] : List (S38)), 1)) = some (r1, r2, r3) := by rw [if_neg (show ¬ (false = true) by decide)] at H; exact H
  clear H
  have H := H1
  clear H1
  simp only [Option.some.injEq, Prod.mk.injEq] at H
  obtain ⟨rfl, rfl, rfl⟩ := H
  go_enter Tryd.func12, Tryd.ntmps12
  go_wp2_with (first | ((with_reducible refine gate_dst (N := 3) rfl ?_); refine box_event ?hg (N := 3) ?hd (cs := #[.int .i64 a0_0, .slice A0_1 l0_1.length c0_1]) (t := 24) ?hr ?_; (case hd => rfl); (case hg => rfl); (case hr => first | (go_simp; done) | (go_simp; rfl)); intro gb114 hg w96 hbox hb; have n0_ := Aside0.mk (below_step bw hb); have n1_ := Aside0.mk (hbox); have n2_ := Aside0.mk ((g1 hg bw : w.heap.size ≤ gb114)); have n3_ := Aside0.mk ((g1 hg bw : w.heap.size ≤ gb114)); clear HB; have HB := n0_; have BK114 := n1_; have GW114 := n2_; have GE114 := n3_; clear n0_ n1_ n2_ n3_; clear hb hbox hg) | ((with_reducible refine gate_dst (N := 6) rfl ?_); refine box_event ?hg (N := 6) ?hd (cs := #[.int .i64 0, .slice none 0 0]) (t := 24) ?hr ?_; (case hd => rfl); (case hg => rfl); (case hr => first | (go_simp; done) | (go_simp; rfl)); intro gb115 hg w97 hbox hb; have n0_ := Aside0.mk (nb BK114.out hb); have n1_ := Aside0.mk (below_step bw hb); have n2_ := Aside0.mk (hbox); have n3_ := Aside0.mk ((g1 hg bw : w.heap.size ≤ gb115)); have n4_ := Aside0.mk ((g1 hg bw : w.heap.size ≤ gb115)); have n5_ := Aside0.mk ((n1 hg BK114.out : gb114 ≠ gb115)); have n6_ := Aside0.mk ((n2 hg BK114.out : gb115 ≠ gb114)); clear BK114; clear HB; have BK114 := n0_; have HB := n1_; have BK115 := n2_; have GW115 := n3_; have GE115 := n4_; have NB114_115 := n5_; have NB115_114 := n6_; clear n0_ n1_ n2_ n3_ n4_ n5_ n6_; clear hb hbox hg; have hnb98 := NB114_115.out; have hnc98 := NB115_114.out; have hcz99_0 := bc2_0 BK114.out; have hcz99_1 := bc2_1 BK114.out; have hfz99_0 := blk_frozen BK114.out 0; have hfz99_1 := blk_frozen BK114.out 1) | ((with_reducible refine gate_callee (f := 17) rfl ?_); refine goesL_ (some 15) rfl rfl Tryd.func17 (by kernel_rfl) rfl #[.agg #[.int .i64 a0_0, .slice A0_1 l0_1.length c0_1]] rfl am ?_; (with_reducible refine (view_Right.calls k a0_0 _ _ l0_1 false _ ?side1 ?side2 A4.out).mono ?_); (case side1 => repeat (first | exact (Kd.C_below HR0_1.out HB.out) | (with_reducible refine Kd.C_alloc ?_ _) | (with_reducible refine Kd.C_drewN ?_ _) | (with_reducible refine Kd.C_drew ?_))); (case side2 => exact HC0_1.out); rintro e w100 ⟨rfl, hb⟩; refine ⟨_, rfl, ?_⟩; have n0_ := Aside0.mk (nb BK114.out hb); have n1_ := Aside0.mk (nb BK115.out hb); have n2_ := Aside0.mk (below_step bw hb); clear BK114; clear BK115; clear HB; have BK114 := n0_; have BK115 := n1_; have HB := n2_; clear n0_ n1_ n2_; (try clear hb); (try clear hb2); (try clear hk); (try clear hi); have hcz101_0 := bc2_0 BK115.out; have hcz101_1 := bc2_1 BK115.out; have hfz101_0 := blk_frozen BK115.out 0; have hfz101_1 := blk_frozen BK115.out 1))
  refine bodyPost_ret (results_ct rfl _ _ gb115 24 #[.int .i64 0, .slice none 0 0] (0, 0) _ rfl (by (with_reducible repeat (first | refine blk_drewN ?_ _ | refine blk_drew ?_ | refine blk_alloc ?_ _)); refine blk_put (cs := #[.int .i64 0, .slice none 0 0]) ?_ 1 _ rfl; (with_reducible repeat (first | refine blk_drewN ?_ _ | refine blk_drew ?_ | refine blk_alloc ?_ _)); refine blk_put (cs := #[.int .i64 0, .slice none 0 0]) ?_ 0 _ rfl; (with_reducible repeat (first | refine blk_drewN ?_ _ | refine blk_drew ?_ | refine blk_alloc ?_ _)); exact BK115.out) Tryd.underlying24 rfl (by kernel_rfl)) rfl ?_
  exact ⟨_, er, by first | exact Kd.R_nil _ _ _ _ _ | exact Kd.N_nil _ _ _ _ _ | exact Kd.V_nil _ _ _ _ _ | exact Kd.Q_nil _ _ _ _ _ | exact Kd.S_nil _ _ _ _ _, bw⟩


/-! ### view_First: function 13 -/
def view_First.f (k : Nat) (a0_0 : Int) (l0_1 : List (S38)) : Option (Int × Int × Int) := (view_Right.f k a0_0 l0_1).bind fun t116 => (if t116 = true then (if 0 < (l0_1.length : Int) then (some ((rd_T38 l0_1 0).f0, (rd_T38 l0_1 0).f1, 0)) else (none)) else (some (0, 0, 1)))
theorem view_First.mono : ∀ a0 a1 k, LeO (view_First.f k a0 a1) (view_First.f (k + 1) a0 a1) := by
 intro a0 a1 k
 unfold view_First.f
 repeat' first
   | (with_reducible exact view_Right.mono _ _ _)
   | (with_reducible exact LeO.refl _)
   | (with_reducible exact LeO.none _)
   | (with_reducible refine LeO.ite ?_ ?_)
   | (with_reducible refine LeO.bind ?_ (fun _ => ?_))
   | exact view_Right.mono _ _ _
   | exact LeO.none _
   | refine LeO.ite ?_ ?_
   | refine LeO.bind ?_ (fun _ => ?_)
set_option maxHeartbeats 8000000 in
set_option maxRecDepth 100000 in
theorem view_First.calls (k : Nat) (a0_0 : Int) (A0_1 : Option Addr) (c0_1 : Nat) (l0_1 : List (S38)) (r1 : Int) (r2 : Int) (r3 : Int) (w : World) (hr0_1 : Kd.C k38 w A0_1 l0_1.length l0_1) (hc0_1 : l0_1.length ≤ c0_1) (h : view_First.f k a0_0 l0_1 = some (r1, r2, r3)) :
  Calls Tryd.prog 13 #[.agg #[.int .i64 a0_0, .slice A0_1 l0_1.length c0_1]] w fun e w' => e = .returned (.tuple #[.agg #[.int .i64 r1, .int .i64 r2], .int .i64 r3]) ∧ Below w.heap.size w w' := by
 have hu24 := Tryd.underlying24
 have hu38 := Tryd.underlying38
 have HR0_1 := Aside0.mk hr0_1
 have HC0_1 := Aside0.mk hc0_1
 clear hr0_1 hc0_1
 have HB := Aside0.mk (Below.refl w.heap.size w)
 have H : ((view_Right.f k a0_0 l0_1).bind fun t116 => (if t116 = true then (if 0 < (l0_1.length : Int) then (some ((rd_T38 l0_1 0).f0, (rd_T38 l0_1 0).f1, 0)) else (none)) else (some (0, 0, 1)))) = some (r1, r2, r3) := h
 clear h
 replace H := Option.bind_eq_some_iff.mp H
 obtain ⟨t116, A20, H⟩ := H
 replace H : (if t116 = true then (if 0 < (l0_1.length : Int) then (some ((rd_T38 l0_1 0).f0, (rd_T38 l0_1 0).f1, 0)) else (none)) else (some (0, 0, 1))) = some (r1, r2, r3) := H
 have A2 := Aside0.mk A20
 clear A20
 by_cases c3 : t116 = true
 ·subst c3
  have H1 : (if 0 < (l0_1.length : Int) then (some ((rd_T38 l0_1 0).f0, (rd_T38 l0_1 0).f1, 0)) else (none)) = some (r1, r2, r3) := by rw [if_pos rfl] at H; exact H
  clear H
  have H := H1
  clear H1
  by_cases c4 : 0 < (l0_1.length : Int)
  ·rw [if_pos c4] at H
   have c4b0 : decide (0 < (l0_1.length : Int)) = true := decide_eq_true c4
   have c4b1 : decide (0 < l0_1.length) = true := decide_eq_true (by omega)
   clear c4
   simp only [Option.some.injEq, Prod.mk.injEq] at H
   obtain ⟨rfl, rfl, rfl⟩ := H
   go_enter Tryd.func13, Tryd.ntmps13
   go_wp2_with (first | ((with_reducible refine gate_dst (N := 1) rfl ?_); refine box_event ?hg (N := 1) ?hd (cs := #[.int .i64 a0_0, .slice A0_1 l0_1.length c0_1]) (t := 24) ?hr ?_; (case hd => rfl); (case hg => rfl); (case hr => first | (go_simp; done) | (go_simp; rfl)); intro gb114 hg w5 hbox hb; have n0_ := Aside0.mk (below_step bw hb); have n1_ := Aside0.mk (hbox); have n2_ := Aside0.mk ((g1 hg bw : w.heap.size ≤ gb114)); have n3_ := Aside0.mk ((g1 hg bw : w.heap.size ≤ gb114)); clear HB; have HB := n0_; have BK114 := n1_; have GW114 := n2_; have GE114 := n3_; clear n0_ n1_ n2_ n3_; clear hb hbox hg) | ((with_reducible refine gate_dst (N := 2) rfl ?_); refine box_event ?hg (N := 2) ?hd (cs := #[.int .i64 0, .int .i64 0]) (t := 38) ?hr ?_; (case hd => rfl); (case hg => rfl); (case hr => first | (go_simp; done) | (go_simp; rfl)); intro gb115 hg w6 hbox hb; have n0_ := Aside0.mk (nb BK114.out hb); have n1_ := Aside0.mk (below_step bw hb); have n2_ := Aside0.mk (hbox); have n3_ := Aside0.mk ((g1 hg bw : w.heap.size ≤ gb115)); have n4_ := Aside0.mk ((g1 hg bw : w.heap.size ≤ gb115)); have n5_ := Aside0.mk ((n1 hg BK114.out : gb114 ≠ gb115)); have n6_ := Aside0.mk ((n2 hg BK114.out : gb115 ≠ gb114)); clear BK114; clear HB; have BK114 := n0_; have HB := n1_; have BK115 := n2_; have GW115 := n3_; have GE115 := n4_; have NB114_115 := n5_; have NB115_114 := n6_; clear n0_ n1_ n2_ n3_ n4_ n5_ n6_; clear hb hbox hg; have hnb7 := NB114_115.out; have hnc7 := NB115_114.out; have hcz8_0 := bc2_0 BK114.out; have hcz8_1 := bc2_1 BK114.out; have hfz8_0 := blk_frozen BK114.out 0; have hfz8_1 := blk_frozen BK114.out 1) | ((with_reducible refine gate_callee (f := 17) rfl ?_); refine goesL_ (some 5) rfl rfl Tryd.func17 (by kernel_rfl) rfl #[.agg #[.int .i64 a0_0, .slice A0_1 l0_1.length c0_1]] rfl am ?_; (with_reducible refine (view_Right.calls k a0_0 _ _ l0_1 true _ ?side1 ?side2 A2.out).mono ?_); (case side1 => repeat (first | exact (Kd.C_below HR0_1.out HB.out) | (with_reducible refine Kd.C_alloc ?_ _) | (with_reducible refine Kd.C_drewN ?_ _) | (with_reducible refine Kd.C_drew ?_))); (case side2 => exact HC0_1.out); rintro e w9 ⟨rfl, hb⟩; refine ⟨_, rfl, ?_⟩; have n0_ := Aside0.mk (nb BK114.out hb); have n1_ := Aside0.mk (nb BK115.out hb); have n2_ := Aside0.mk (below_step bw hb); clear BK114; clear BK115; clear HB; have BK114 := n0_; have BK115 := n1_; have HB := n2_; clear n0_ n1_ n2_; (try clear hb); (try clear hb2); (try clear hk); (try clear hi); have hcz10_0 := bc2_0 BK114.out; have hcz10_1 := bc2_1 BK114.out; have hfz10_0 := blk_frozen BK114.out 0; have hfz10_1 := blk_frozen BK114.out 1; have p117 : 0 ≤ (0 : Int) := (by omega); have q117 : 0 < (l0_1.length : Int) := of_decide_eq_true (by first | (with_reducible assumption) | assumption); obtain ⟨ad117, e117, hx117_0, hx117_1⟩ := at_T38 HR0_1.out 0 p117 q117; cases e117; have qi117 : (0 < l0_1.length) = True := eq_true (by omega); (try rw [show ((0 : Int)).toNat = 0 from rfl] at hx117_0); (try rw [show 0 * 2 = 0 from rfl] at hx117_0); (try rw [Addr.add_zero'] at hx117_0); (try rw [show ((0 : Int)).toNat = 0 from rfl] at hx117_1); (try rw [show 0 * 2 = 0 from rfl] at hx117_1); (try rw [Addr.add_zero'] at hx117_1); replace hx117_0 := (HB.out.cell (World.block_lt_of_cell? w _ hx117_0)).trans hx117_0; replace hx117_1 := (HB.out.cell (World.block_lt_of_cell? w _ hx117_1)).trans hx117_1; replace p117 := eq_true p117; replace q117 := eq_true q117; have hcz11_0 := bc2_0 BK115.out; have hcz11_1 := bc2_1 BK115.out; have hfz11_0 := blk_frozen BK115.out 0; have hfz11_1 := blk_frozen BK115.out 1))
   refine bodyPost_ret (results_ct rfl _ _ gb115 38 #[.int .i64 ((rd_T38 l0_1 0).f0), .int .i64 ((rd_T38 l0_1 0).f1)] (0, 0) _ rfl (by (with_reducible repeat (first | refine blk_drewN ?_ _ | refine blk_drew ?_ | refine blk_alloc ?_ _)); refine blk_put (cs := #[.int .i64 ((rd_T38 l0_1 0).f0), .int .i64 0]) ?_ 1 _ rfl; (with_reducible repeat (first | refine blk_drewN ?_ _ | refine blk_drew ?_ | refine blk_alloc ?_ _)); refine blk_put (cs := #[.int .i64 0, .int .i64 0]) ?_ 0 _ rfl; (with_reducible repeat (first | refine blk_drewN ?_ _ | refine blk_drew ?_ | refine blk_alloc ?_ _)); exact BK115.out) Tryd.underlying38 rfl (by kernel_rfl)) rfl ?_
   exact ⟨er, bw⟩
  ·rw [if_neg c4] at H
   exact absurd H (by simp)
 ·replace c3 := Bool.eq_false_iff.mpr c3
  subst c3
  have H1 : (some (0, 0, 1)) = some (r1, r2, r3) := by rw [if_neg (show ¬ (false = true) by decide)] at H; exact H
  clear H
  have H := H1
  clear H1
  simp only [Option.some.injEq, Prod.mk.injEq] at H
  obtain ⟨rfl, rfl, rfl⟩ := H
  go_enter Tryd.func13, Tryd.ntmps13
  go_wp2_with (first | ((with_reducible refine gate_dst (N := 1) rfl ?_); refine box_event ?hg (N := 1) ?hd (cs := #[.int .i64 a0_0, .slice A0_1 l0_1.length c0_1]) (t := 24) ?hr ?_; (case hd => rfl); (case hg => rfl); (case hr => first | (go_simp; done) | (go_simp; rfl)); intro gb114 hg w12 hbox hb; have n0_ := Aside0.mk (below_step bw hb); have n1_ := Aside0.mk (hbox); have n2_ := Aside0.mk ((g1 hg bw : w.heap.size ≤ gb114)); have n3_ := Aside0.mk ((g1 hg bw : w.heap.size ≤ gb114)); clear HB; have HB := n0_; have BK114 := n1_; have GW114 := n2_; have GE114 := n3_; clear n0_ n1_ n2_ n3_; clear hb hbox hg) | ((with_reducible refine gate_dst (N := 2) rfl ?_); refine box_event ?hg (N := 2) ?hd (cs := #[.int .i64 0, .int .i64 0]) (t := 38) ?hr ?_; (case hd => rfl); (case hg => rfl); (case hr => first | (go_simp; done) | (go_simp; rfl)); intro gb115 hg w13 hbox hb; have n0_ := Aside0.mk (nb BK114.out hb); have n1_ := Aside0.mk (below_step bw hb); have n2_ := Aside0.mk (hbox); have n3_ := Aside0.mk ((g1 hg bw : w.heap.size ≤ gb115)); have n4_ := Aside0.mk ((g1 hg bw : w.heap.size ≤ gb115)); have n5_ := Aside0.mk ((n1 hg BK114.out : gb114 ≠ gb115)); have n6_ := Aside0.mk ((n2 hg BK114.out : gb115 ≠ gb114)); clear BK114; clear HB; have BK114 := n0_; have HB := n1_; have BK115 := n2_; have GW115 := n3_; have GE115 := n4_; have NB114_115 := n5_; have NB115_114 := n6_; clear n0_ n1_ n2_ n3_ n4_ n5_ n6_; clear hb hbox hg; have hnb14 := NB114_115.out; have hnc14 := NB115_114.out; have hcz15_0 := bc2_0 BK114.out; have hcz15_1 := bc2_1 BK114.out; have hfz15_0 := blk_frozen BK114.out 0; have hfz15_1 := blk_frozen BK114.out 1) | ((with_reducible refine gate_callee (f := 17) rfl ?_); refine goesL_ (some 5) rfl rfl Tryd.func17 (by kernel_rfl) rfl #[.agg #[.int .i64 a0_0, .slice A0_1 l0_1.length c0_1]] rfl am ?_; (with_reducible refine (view_Right.calls k a0_0 _ _ l0_1 false _ ?side1 ?side2 A2.out).mono ?_); (case side1 => repeat (first | exact (Kd.C_below HR0_1.out HB.out) | (with_reducible refine Kd.C_alloc ?_ _) | (with_reducible refine Kd.C_drewN ?_ _) | (with_reducible refine Kd.C_drew ?_))); (case side2 => exact HC0_1.out); rintro e w16 ⟨rfl, hb⟩; refine ⟨_, rfl, ?_⟩; have n0_ := Aside0.mk (nb BK114.out hb); have n1_ := Aside0.mk (nb BK115.out hb); have n2_ := Aside0.mk (below_step bw hb); clear BK114; clear BK115; clear HB; have BK114 := n0_; have BK115 := n1_; have HB := n2_; clear n0_ n1_ n2_; (try clear hb); (try clear hb2); (try clear hk); (try clear hi); have hcz17_0 := bc2_0 BK115.out; have hcz17_1 := bc2_1 BK115.out; have hfz17_0 := blk_frozen BK115.out 0; have hfz17_1 := blk_frozen BK115.out 1))
  refine bodyPost_ret (results_ct rfl _ _ gb115 38 #[.int .i64 0, .int .i64 0] (0, 0) _ rfl (by (with_reducible repeat (first | refine blk_drewN ?_ _ | refine blk_drew ?_ | refine blk_alloc ?_ _)); refine blk_put (cs := #[.int .i64 0, .int .i64 0]) ?_ 1 _ rfl; (with_reducible repeat (first | refine blk_drewN ?_ _ | refine blk_drew ?_ | refine blk_alloc ?_ _)); refine blk_put (cs := #[.int .i64 0, .int .i64 0]) ?_ 0 _ rfl; (with_reducible repeat (first | refine blk_drewN ?_ _ | refine blk_drew ?_ | refine blk_alloc ?_ _)); exact BK115.out) Tryd.underlying38 rfl (by kernel_rfl)) rfl ?_
  exact ⟨er, bw⟩

end Go.Proofs.YtbcpjegakjcmgaaDoor.P
