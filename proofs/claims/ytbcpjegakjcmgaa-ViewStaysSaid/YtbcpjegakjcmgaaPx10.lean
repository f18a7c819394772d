-- Printed by this session's program wip/xp.py (a turned copy of the kit's printer): functions, their contracts.
import Derived.Test.YtbcpjegakjcmgaaPx0
import Derived.Test.YtbcpjegakjcmgaaPx1
import Derived.Test.YtbcpjegakjcmgaaPx2
import Derived.Test.YtbcpjegakjcmgaaPx3
import Derived.Test.YtbcpjegakjcmgaaPx4
namespace Go.Proofs.Ytbcpjegakjcmgaa.P
open Go.RowKit Go.Proofs.YtbcpjegakjcmgaaW.PrintWords Go.Proofs.YtbcpjegakjcmgaaW.PrintLast Go.Proofs.YtbcpjegakjcmgaaW.PrintMore
attribute [local go_sem] max2_int min2_int max_two min_two max_three min_three max_four min_four   -- for this text's walks alone
set_option linter.unusedVariables false
set_option linter.unusedSimpArgs false

attribute [local go_sem high] eqA26
/-! ### carillonlaw12_ViewStays: function 6 -/
mutual
def carillonlaw12_ViewStays.l0 : Nat → Bool → List Int → Int → Int → List (S26) → Option (Bool)
 | 0, _, _, _, _, _ => none
 | k + 1, x5, x6, x7, x280000, x280001 => if x7 < (x280001.length : Int) then (if 0 ≤ x7 then (if x6.length < 17592186044416 then (carillonlaw12_ViewStays.l0 k x5 (x6 ++ [(rd_T26 x280001 x7).f0]) (wrap64 (x7 + 1)) x280000 x280001) else (none)) else (none)) else ((view_Next.f k x280000 x280001 x280001 x6).bind fun bt289 => (if bt289.2.2 = 0 then (if (bt289.2.1.length : Int) = (x280001.length : Int) then (carillonlaw12_ViewStays.l1 k x5 0 x280000 x280001 bt289.1 bt289.2.1) else (some false)) else (some false)))
def carillonlaw12_ViewStays.l1 : Nat → Bool → Int → Int → List (S26) → Int → List (S26) → Option (Bool)
 | 0, _, _, _, _, _, _ => none
 | k + 1, x5, x10, x280000, x280001, x295000, x295001 => if x10 < (x295001.length : Int) then (if 0 ≤ x10 then (if x10 < (x280001.length : Int) then (if (!(((rd_T26 x295001 x10).f0) == ((rd_T26 x280001 x10).f0)) || (!(((rd_T26 x295001 x10).f1) == ((rd_T26 x280001 x10).f1)))) = true then (some false) else (carillonlaw12_ViewStays.l1 k x5 (wrap64 (x10 + 1)) x280000 x280001 x295000 x295001)) else (none)) else (none)) else (some x5)
end
def carillonlaw12_ViewStays.f (k : Nat) (a0_0 : Int) (l0_1 : List (S26)) (l1 : List Int) : Option (Bool) := (carillonlaw12_examples.f).bind fun t280 => ((view_Right.f k a0_0 l0_1).bind fun t281 => (if t281 = true then (if a0_0 ≥ 9007199254740991 then (some t280) else (if ([] : List Int).length + l1.length < 17592186044416 then (carillonlaw12_ViewStays.l0 k t280 (([] : List Int) ++ l1) 0 a0_0 l0_1) else (none))) else (some t280)))
theorem carillonlaw12_ViewStays.mono_l : ∀ k, (∀ y0 y1 y2 y3 y4, LeO (carillonlaw12_ViewStays.l0 k y0 y1 y2 y3 y4) (carillonlaw12_ViewStays.l0 (k + 1) y0 y1 y2 y3 y4)) ∧ (∀ y0 y1 y2 y3 y4 y5, LeO (carillonlaw12_ViewStays.l1 k y0 y1 y2 y3 y4 y5) (carillonlaw12_ViewStays.l1 (k + 1) y0 y1 y2 y3 y4 y5))
 | 0 => ⟨fun _ _ _ _ _ r h => by simp [carillonlaw12_ViewStays.l0] at h, fun _ _ _ _ _ _ r h => by simp [carillonlaw12_ViewStays.l1] at h⟩
 | k + 1 => by
  obtain ⟨ih0, ih1⟩ := carillonlaw12_ViewStays.mono_l k
  refine ⟨?_, ?_⟩
  ·intro y0 y1 y2 y3 y4
   unfold carillonlaw12_ViewStays.l0
   repeat' first
   | (with_reducible exact ih0 _ _ _ _ _)
   | (with_reducible exact ih1 _ _ _ _ _ _)
   | (with_reducible exact view_Next.mono _ _ _ _ _)
   | (with_reducible exact view_Right.mono _ _ _)
   | (with_reducible exact LeO.refl _)
   | (with_reducible exact LeO.none _)
   | (with_reducible refine LeO.ite ?_ ?_)
   | (with_reducible refine LeO.bind ?_ (fun _ => ?_))
   | exact ih0 _ _ _ _ _
   | exact ih1 _ _ _ _ _ _
   | exact view_Next.mono _ _ _ _ _
   | exact view_Right.mono _ _ _
   | exact LeO.none _
   | refine LeO.ite ?_ ?_
   | refine LeO.bind ?_ (fun _ => ?_)
  ·intro y0 y1 y2 y3 y4 y5
   unfold carillonlaw12_ViewStays.l1
   repeat' first
   | (with_reducible exact ih0 _ _ _ _ _)
   | (with_reducible exact ih1 _ _ _ _ _ _)
   | (with_reducible exact view_Next.mono _ _ _ _ _)
   | (with_reducible exact view_Right.mono _ _ _)
   | (with_reducible exact LeO.refl _)
   | (with_reducible exact LeO.none _)
   | (with_reducible refine LeO.ite ?_ ?_)
   | (with_reducible refine LeO.bind ?_ (fun _ => ?_))
   | exact ih0 _ _ _ _ _
   | exact ih1 _ _ _ _ _ _
   | exact view_Next.mono _ _ _ _ _
   | exact view_Right.mono _ _ _
   | exact LeO.none _
   | refine LeO.ite ?_ ?_
   | refine LeO.bind ?_ (fun _ => ?_)
theorem carillonlaw12_ViewStays.mono : ∀ a0 a1 a2 k, LeO (carillonlaw12_ViewStays.f k a0 a1 a2) (carillonlaw12_ViewStays.f (k + 1) a0 a1 a2) := by
 intro a0 a1 a2 k
 obtain ⟨ih0, ih1⟩ := carillonlaw12_ViewStays.mono_l k
 unfold carillonlaw12_ViewStays.f
 repeat' first
   | (with_reducible exact ih0 _ _ _ _ _)
   | (with_reducible exact ih1 _ _ _ _ _ _)
   | (with_reducible exact view_Next.mono _ _ _ _ _)
   | (with_reducible exact view_Right.mono _ _ _)
   | (with_reducible exact LeO.refl _)
   | (with_reducible exact LeO.none _)
   | (with_reducible refine LeO.ite ?_ ?_)
   | (with_reducible refine LeO.bind ?_ (fun _ => ?_))
   | exact ih0 _ _ _ _ _
   | exact ih1 _ _ _ _ _ _
   | exact view_Next.mono _ _ _ _ _
   | exact view_Right.mono _ _ _
   | exact LeO.none _
   | refine LeO.ite ?_ ?_
   | refine LeO.bind ?_ (fun _ => ?_)
set_option maxHeartbeats 8000000 in
set_option maxRecDepth 100000 in
theorem carillonlaw12_ViewStays.calls (k : Nat) (a0_0 : Int) (A0_1 : Option Addr) (c0_1 : Nat) (l0_1 : List (S26)) (A1 : Option Addr) (c1 : Nat) (l1 : List Int) (r : Bool) (w : World) (hr0_1 : Kd.C k26 w A0_1 l0_1.length l0_1) (hc0_1 : l0_1.length ≤ c0_1) (hr1 : Kd.C (Kd.int .i64) w A1 l1.length l1) (hc1 : l1.length ≤ c1) (hr_ : Aside0 (r = true)) (h : carillonlaw12_ViewStays.f k a0_0 l0_1 l1 = some r) :
  Calls Try.prog 6 #[.agg #[.int .i64 a0_0, .slice A0_1 l0_1.length c0_1], .slice A1 l1.length c1] w fun e w' => e = .returned (.bool r) ∧ Below w.heap.size w w' := by
 have hu24 := Try.underlying24
 have hu26 := Try.underlying26
 have HR0_1 := Aside0.mk hr0_1
 have HC0_1 := Aside0.mk hc0_1
 clear hr0_1 hc0_1
 have HR1 := Aside0.mk hr1
 have HC1 := Aside0.mk hc1
 clear hr1 hc1
 have HB := Aside0.mk (Below.refl w.heap.size w)
 have H : ((carillonlaw12_examples.f).bind fun t280 => ((view_Right.f k a0_0 l0_1).bind fun t281 => (if t281 = true then (if a0_0 ≥ 9007199254740991 then (some t280) else (if ([] : List Int).length + l1.length < 17592186044416 then (carillonlaw12_ViewStays.l0 k t280 (([] : List Int) ++ l1) 0 a0_0 l0_1) else (none))) else (some t280)))) = some r := h
 clear h
 replace H := Option.bind_eq_some_iff.mp H
 obtain ⟨t280, A30, H⟩ := H
 replace H : ((view_Right.f k a0_0 l0_1).bind fun t281 => (if t281 = true then (if a0_0 ≥ 9007199254740991 then (some t280) else (if ([] : List Int).length + l1.length < 17592186044416 then (carillonlaw12_ViewStays.l0 k t280 (([] : List Int) ++ l1) 0 a0_0 l0_1) else (none))) else (some t280))) = some r := H
 have A3 := Aside0.mk A30
 clear A30
 replace H := Option.bind_eq_some_iff.mp H
 obtain ⟨t281, A40, H⟩ := H
 replace H : (if t281 = true then (if a0_0 ≥ 9007199254740991 then (some t280) else (if ([] : List Int).length + l1.length < 17592186044416 then (carillonlaw12_ViewStays.l0 k t280 (([] : List Int) ++ l1) 0 a0_0 l0_1) else (none))) else (some t280)) = some r := H
 have A4 := Aside0.mk A40
 clear A40
 by_cases c5 : t281 = true
 ·subst c5
  have H1 : (if a0_0 ≥ 9007199254740991 then (some t280) else (if ([] : List Int).length + l1.length < 17592186044416 then (carillonlaw12_ViewStays.l0 k t280 (([] : List Int) ++ l1) 0 a0_0 l0_1) else (none))) = some r := by rw [if_pos rfl] at H; exact H
  clear H
  have H := H1
  clear H1
  by_cases c6 : a0_0 ≥ 9007199254740991
  ·rw [if_pos c6] at H
   have c6b0 : decide (9007199254740991 ≤ a0_0) = true := decide_eq_true c6
   clear c6
   obtain rfl := Option.some.inj H
   go_enter Try.func6, Try.ntmps6
   go_wp2_with (first | ((with_reducible refine gate_dst (N := 2) rfl ?_); (try (refine gate_guard (by rfl) ?_; dsimp only)); refine box_event ?hg (N := 2) ?hd (cs := #[.int .i64 a0_0, .slice A0_1 l0_1.length c0_1]) (t := 24) ?hr ?_; (case hd => rfl); (case hg => rfl); (case hr => first | (go_simp; done) | (go_simp; rfl)); intro gb279 hg w7 hbox hb; have n0_ := Aside0.mk (below_step bw hb); have n1_ := Aside0.mk (hbox); have n2_ := Aside0.mk ((g1 hg bw : w.heap.size ≤ gb279)); have n3_ := Aside0.mk ((g1 hg bw : w.heap.size ≤ gb279)); clear HB; have HB := n0_; have BK279 := n1_; have GW279 := n2_; have GE279 := n3_; clear n0_ n1_ n2_ n3_; clear hb hbox hg) | (go_at_call 7; (with_reducible refine (carillonlaw12_examples.calls  t280 _ A3.out).mono ?_); rintro e w8 ⟨rfl, hb⟩; have n0_ := Aside0.mk (nb BK279.out hb); have n1_ := Aside0.mk (below_step bw hb); clear BK279; clear HB; have BK279 := n0_; have HB := n1_; clear n0_ n1_; (try clear hb); (try clear hb2); (try clear hk); (try clear hi); have hcz9_0 := bc2_0 BK279.out; have hcz9_1 := bc2_1 BK279.out; have hfz9_0 := blk_frozen BK279.out 0; have hfz9_1 := blk_frozen BK279.out 1) | (go_at_call 12; (with_reducible refine (view_Right.calls k a0_0 _ _ l0_1 true _ ?side1 ?side2 A4.out).mono ?_); (case side1 => repeat (first | exact (Kd.C_below HR0_1.out HB.out) | (with_reducible refine Kd.C_alloc ?_ _) | (with_reducible refine Kd.C_drewN ?_ _) | (with_reducible refine Kd.C_drew ?_))); (case side2 => exact HC0_1.out); rintro e w10 ⟨rfl, hb⟩; have n0_ := Aside0.mk (nb BK279.out hb); have n1_ := Aside0.mk (below_step bw hb); clear BK279; clear HB; have BK279 := n0_; have HB := n1_; clear n0_ n1_; (try clear hb); (try clear hb2); (try clear hk); (try clear hi); have hcz11_0 := bc2_0 BK279.out; have hcz11_1 := bc2_1 BK279.out; have hfz11_0 := blk_frozen BK279.out 0; have hfz11_1 := blk_frozen BK279.out 1))
   go_ret
   exact ⟨er, bw⟩
  ·rw [if_neg c6] at H
   have c6b0 : decide (9007199254740991 ≤ a0_0) = false := decide_eq_false c6
   clear c6
   by_cases c12 : ([] : List Int).length + l1.length < 17592186044416
   ·rw [if_pos c12] at H
    have LMc12 := Aside0.mk c12
    clear c12
    obtain ⟨y282, hy282⟩ : ∃ y_ : List Int, y_ = (([] : List Int) ++ l1) := ⟨_, rfl⟩
    replace H : (carillonlaw12_ViewStays.l0 k t280 y282 0 a0_0 l0_1) = some r := by first | (rw [hy282]; with_reducible exact H) | (have H2_ := (Option.bind_some _ _).symm.trans H; rw [hy282]; with_reducible exact H2_) | (have H2_ := (Option.bind_some _ _).symm.trans H; with_reducible exact H2_) | with_reducible exact H | (rw [hy282]; exact H) | exact H
    have Ny282 := Aside0.mk hy282
    clear hy282
    have H' := Aside0.mk H
    clear H
    go_enter Try.func6, Try.ntmps6
    go_wp2_with (first | ((with_reducible refine gate_dst (N := 2) rfl ?_); (try (refine gate_guard (by rfl) ?_; dsimp only)); refine box_event ?hg (N := 2) ?hd (cs := #[.int .i64 a0_0, .slice A0_1 l0_1.length c0_1]) (t := 24) ?hr ?_; (case hd => rfl); (case hg => rfl); (case hr => first | (go_simp; done) | (go_simp; rfl)); intro gb279 hg w13 hbox hb; have n0_ := Aside0.mk (below_step bw hb); have n1_ := Aside0.mk (hbox); have n2_ := Aside0.mk ((g1 hg bw : w.heap.size ≤ gb279)); have n3_ := Aside0.mk ((g1 hg bw : w.heap.size ≤ gb279)); clear HB; have HB := n0_; have BK279 := n1_; have GW279 := n2_; have GE279 := n3_; clear n0_ n1_ n2_ n3_; clear hb hbox hg) | (go_at_call 7; (with_reducible refine (carillonlaw12_examples.calls  t280 _ A3.out).mono ?_); rintro e w14 ⟨rfl, hb⟩; have n0_ := Aside0.mk (nb BK279.out hb); have n1_ := Aside0.mk (below_step bw hb); clear BK279; clear HB; have BK279 := n0_; have HB := n1_; clear n0_ n1_; (try clear hb); (try clear hb2); (try clear hk); (try clear hi); have hcz15_0 := bc2_0 BK279.out; have hcz15_1 := bc2_1 BK279.out; have hfz15_0 := blk_frozen BK279.out 0; have hfz15_1 := blk_frozen BK279.out 1) | (go_at_call 12; (with_reducible refine (view_Right.calls k a0_0 _ _ l0_1 true _ ?side1 ?side2 A4.out).mono ?_); (case side1 => repeat (first | exact (Kd.C_below HR0_1.out HB.out) | (with_reducible refine Kd.C_alloc ?_ _) | (with_reducible refine Kd.C_drewN ?_ _) | (with_reducible refine Kd.C_drew ?_))); (case side2 => exact HC0_1.out); rintro e w16 ⟨rfl, hb⟩; have n0_ := Aside0.mk (nb BK279.out hb); have n1_ := Aside0.mk (below_step bw hb); clear BK279; clear HB; have BK279 := n0_; have HB := n1_; clear n0_ n1_; (try clear hb); (try clear hb2); (try clear hk); (try clear hi); have hcz17_0 := bc2_0 BK279.out; have hcz17_1 := bc2_1 BK279.out; have hfz17_0 := blk_frozen BK279.out 0; have hfz17_1 := blk_frozen BK279.out 1) | ((with_reducible refine gate_builtin (b := .append) (xs := #[.tmp 21, .tmp 22]) rfl ?_); (try (refine gate_guard (by rfl) ?_; dsimp only)); at_builtin; refine Kd.R_append_rows (Kd.int .i64) (w0 := w) w.heap.size rfl (.tmp 21) (.tmp 22) 37 3 (.int .i64 0) 8 rfl Try.underlying37 info3 rfl (by decide) (by omega) (.slice none 0 0) ([] : List Int) l1 _ _ _ (fun _ => True) (fun _ => False) rfl rfl ?aO ?aR (fun _ _ h => h) (fun _ h => h.elim) ?aF ?aB ?aS ?aL ?_; (case aR => repeat (first | exact (Kd.C_below HR1.out HB.out) | (with_reducible refine Kd.C_alloc ?_ _) | (with_reducible refine Kd.C_drewN ?_ _) | (with_reducible refine Kd.C_drew ?_))); (case aB => exact bw); (case aF => exact (fun _ _ => trivial)); (case aO => exact ((Kd.R_nil _ _ _ _ (fun _ => True)))); (case aS => exact (below_size bw)); (case aL => have := LMc12.out; omega); intro v283 w18 ho hb hg hat; rw [← Ny282.out] at ho; have n0_ := Aside0.mk (blk_grown (g := gb279) (o := .cells #[.int .i64 a0_0, .slice A0_1 l0_1.length c0_1] 24 (0, 0)) (bk BK279.out) hg (by simp [Value.ownBlock])); have n1_ := Aside0.mk (hb); have n2_ := Aside0.mk (ho); clear BK279; clear HB; have BK279 := n0_; have HB := n1_; have HO284 := n2_; clear n0_ n1_ n2_; clear ho hb hg hat))
    go_loopg [6, 7] k (fun kq v6 v7 w' => ∃ (x6_1 : List Int) (x7_1 : Int), v7 = .int .i64 x7_1 ∧ Aside0 (carillonlaw12_ViewStays.l0 kq t280 x6_1 x7_1 a0_0 l0_1 = some r) ∧ Aside0 (kq ≤ k) ∧ Aside0 (Kd.R (Kd.int .i64) 3 w' w.heap.size (fun _ => True) v6 x6_1) ∧ Aside0 (w'.heap[gb279]? = some (.cells #[.int .i64 a0_0, (.slice A0_1 l0_1.length c0_1)] 24 (0, 0))) ∧ Aside0 (Below w.heap.size w w'))
    case atStart => exact ⟨(y282), (0), (by first | rfl | (simp; done) | (simp [*]; done)), H', ⟨Nat.le_refl _⟩, ⟨by (with_reducible repeat (first | apply Kd.R_alloc | apply Kd.R_drewN | apply Kd.R_drew)); exact HO284.out⟩, ⟨by (with_reducible repeat (first | refine blk_drewN ?_ _ | refine blk_drew ?_ | refine blk_alloc ?_ _)); exact BK279.out⟩, ⟨bw⟩⟩
    case round =>
     clear H'
     try clear c1
     try clear p2
     try clear c5
     try clear c6
     try clear c6b0
     try clear c12
     try clear hcz11_0
     try clear hcz11_1
     try clear hcz15_0
     try clear hcz15_1
     try clear hcz17_0
     try clear hcz17_1
     try clear hcz9_0
     try clear hcz9_1
     try clear hfz11_0
     try clear hfz11_1
     try clear hfz15_0
     try clear hfz15_1
     try clear hfz17_0
     try clear hfz17_1
     try clear hfz9_0
     try clear hfz9_1
     obtain ⟨x6_1, x7_1, rfl, HA, HK1, HO_6, BK279, HB⟩ := hrel
     cases gk with
     | zero => exact absurd HA.out (by simp [carillonlaw12_ViewStays.l0])
     | succ k1 =>
      have H := HA.out
      clear HA
      simp only [carillonlaw12_ViewStays.l0] at H
      by_cases c19 : x7_1 < (l0_1.length : Int)
      ·rw [if_pos c19] at H
       have c19b0 : decide (x7_1 < (l0_1.length : Int)) = true := decide_eq_true c19
       clear c19
       by_cases c20 : 0 ≤ x7_1
       ·rw [if_pos c20] at H
        have c20b0 : decide (0 ≤ x7_1) = true := decide_eq_true c20
        clear c20
        by_cases c21 : x6_1.length < 17592186044416
        ·rw [if_pos c21] at H
         have LMc21 := Aside0.mk c21
         clear c21
         obtain ⟨y286, hy286⟩ : ∃ y_ : List Int, y_ = (x6_1 ++ [(rd_T26 l0_1 x7_1).f0]) := ⟨_, rfl⟩
         replace H : (carillonlaw12_ViewStays.l0 k1 t280 y286 (wrap64 (x7_1 + 1)) a0_0 l0_1) = some r := by first | (rw [hy286]; with_reducible exact H) | (have H2_ := (Option.bind_some _ _).symm.trans H; rw [hy286]; with_reducible exact H2_) | (have H2_ := (Option.bind_some _ _).symm.trans H; with_reducible exact H2_) | with_reducible exact H | (rw [hy286]; exact H) | exact H
         have Ny286 := Aside0.mk hy286
         clear hy286
         have H' := Aside0.mk H
         clear H
         have hcz22_0 := bc2_0 BK279.out
         have hcz22_1 := bc2_1 BK279.out
         have hfz22_0 := blk_frozen BK279.out 0
         have hfz22_1 := blk_frozen BK279.out 1
         have p285 : 0 ≤ (x7_1 : Int) := of_decide_eq_true (by first | (with_reducible assumption) | assumption)
         have q285 : x7_1 < (l0_1.length : Int) := of_decide_eq_true (by first | (with_reducible assumption) | assumption)
         obtain ⟨ad285, e285, hx285_0, hx285_1⟩ := at_T26 HR0_1.out x7_1 p285 q285
         cases e285
         replace hx285_0 := (HB.out.cell (World.block_lt_of_cell? w _ hx285_0)).trans hx285_0
         replace hx285_1 := (HB.out.cell (World.block_lt_of_cell? w _ hx285_1)).trans hx285_1
         replace p285 := eq_true p285
         replace q285 := eq_true q285
         go_wp2_with (first | ((with_reducible refine gate_builtin (b := .append) (xs := #[.tmp 31, .tmp 38]) rfl ?_); (try (refine gate_guard (by rfl) ?_; dsimp only)); at_builtin; refine Kd.R_append (Kd.int .i64) (w0 := w) w.heap.size rfl (.tmp 31) (.tmp 38) 37 3 (.int .i64 0) 8 rfl Try.underlying37 info3 rfl (by decide) (by omega) u6 x6_1 ((rd_T26 l0_1 x7_1).f0) [.int .i64 ((rd_T26 l0_1 x7_1).f0)] (fun _ => True) (fun _ => False) rfl rfl ?aP (fun _ hk => hk.elim) ?aF ?aO ?aB ?aS ?aL ?_; (case aP => exact rfl); (case aB => exact bw); (case aF => exact (fun _ _ => trivial)); (case aO => exact (by (with_reducible repeat (first | apply Kd.R_alloc | apply Kd.R_drewN | apply Kd.R_drew)); exact HO_6.out)); (case aS => exact (below_size bw)); (case aL => have := LMc21.out; omega); intro v287 w23 ho hb hg hat; rw [← Ny286.out] at ho; have n0_ := Aside0.mk (blk_grown (g := gb279) (o := .cells #[.int .i64 a0_0, .slice (some ad285) l0_1.length c0_1] 24 (0, 0)) (bk BK279.out) hg (Kd.R_ne HO_6.out BK279.out (by decide))); have n1_ := Aside0.mk (hb); have n2_ := Aside0.mk (ho); clear BK279; clear HB; clear HO_6; have BK279 := n0_; have HB := n1_; have HO288 := n2_; clear n0_ n1_ n2_; clear ho hb hg hat))
         go_roundg k1
         case measure => have := HK1.out; omega
         case rel => exact ⟨(y286), (wrap64 (x7_1 + 1)), (by first | rfl | (simp; done) | (simp [*]; done)), H', ⟨by have := HK1.out; omega⟩, ⟨by (with_reducible repeat (first | apply Kd.R_alloc | apply Kd.R_drewN | apply Kd.R_drew)); exact HO288.out⟩, ⟨by (with_reducible repeat (first | refine blk_drewN ?_ _ | refine blk_drew ?_ | refine blk_alloc ?_ _)); exact BK279.out⟩, ⟨bw⟩⟩
        ·rw [if_neg c21] at H
         exact absurd H (by simp)
       ·rw [if_neg c20] at H
        exact absurd H (by simp)
      ·rw [if_neg c19] at H
       have c19b0 : decide (x7_1 < (l0_1.length : Int)) = false := decide_eq_false c19
       clear c19
       replace H := Option.bind_eq_some_iff.mp H
       obtain ⟨⟨t289, t290, t293⟩, A240, H⟩ := H
       replace H : (if t293 = 0 then (if (t290.length : Int) = (l0_1.length : Int) then (carillonlaw12_ViewStays.l1 k1 t280 0 a0_0 l0_1 t289 t290) else (some false)) else (some false)) = some r := H
       have A24 := Aside0.mk A240
       clear A240
       by_cases c25 : t293 = 0
       ·rw [if_pos c25] at H
        have c25b0 : (t293 == 0) = true := beq_iff_eq.mpr c25
        have c25b1 : (t293 != 0) = false := bne_eq_false_iff_eq.mpr c25
        clear c25
        by_cases c26 : (t290.length : Int) = (l0_1.length : Int)
        ·rw [if_pos c26] at H
         have c26b0 : ((t290.length : Int) == (l0_1.length : Int)) = true := beq_iff_eq.mpr c26
         have c26b1 : ((t290.length : Int) != (l0_1.length : Int)) = false := bne_eq_false_iff_eq.mpr c26
         have c26b2 : (t290.length == l0_1.length) = true := by first | simpa using c26 | (simp at c26 ⊢; omega)
         clear c26
         have H' := Aside0.mk H
         clear H
         have hcz27_0 := bc2_0 BK279.out
         have hcz27_1 := bc2_1 BK279.out
         have hfz27_0 := blk_frozen BK279.out 0
         have hfz27_1 := blk_frozen BK279.out 1
         obtain ⟨Ao28, co28, eo28⟩ := Kd.R_slice HO_6.out
         subst eo28
         go_wp2_with (first | (go_at_call 20; (with_reducible refine (view_Next.calls k1 a0_0 _ _ l0_1 _ _ l0_1 _ _ x6_1 t289 t290 t293 _ ?side1 ?side2 ?side3 ?side4 ?side5 ?side6 A24.out).mono ?_); (case side1 => repeat (first | exact (Kd.C_below HR0_1.out HB.out) | (with_reducible refine Kd.C_alloc ?_ _) | (with_reducible refine Kd.C_drewN ?_ _) | (with_reducible refine Kd.C_drew ?_))); (case side2 => exact HC0_1.out); (case side3 => repeat (first | exact (Kd.C_below HR0_1.out HB.out) | (with_reducible refine Kd.C_alloc ?_ _) | (with_reducible refine Kd.C_drewN ?_ _) | (with_reducible refine Kd.C_drew ?_))); (case side4 => exact HC0_1.out); (case side5 => repeat (first | exact (Kd.R_reads' HO_6.out).2.2 | (with_reducible refine Kd.C_alloc ?_ _) | (with_reducible refine Kd.C_drewN ?_ _) | (with_reducible refine Kd.C_drew ?_))); (case side6 => exact (Kd.R_reads' HO_6.out).2.1); rintro e w29 ⟨v291, rfl, ho0, hb⟩; have n0_ := Aside0.mk (Kd.R_below (by (with_reducible repeat (first | apply Kd.R_alloc | apply Kd.R_drewN | apply Kd.R_drew)); exact HO_6.out) hb); have n1_ := Aside0.mk (Kd.R_lower ho0 (below_size bw)); have n2_ := Aside0.mk (nb BK279.out hb); have n3_ := Aside0.mk (below_step bw hb); clear HO_6; clear BK279; clear HB; have HO_6 := n0_; have HO292 := n1_; have BK279 := n2_; have HB := n3_; clear n0_ n1_ n2_ n3_; (try clear hb); (try clear hb2); (try clear hk); (try clear hi); (try clear ho0)) | ((with_reducible refine gate_dst (N := 8) rfl ?_); (try (refine gate_guard (by rfl) ?_; dsimp only)); refine box_event ?hg (N := 8) ?hd (cs := #[.int .i64 0, .slice none 0 0]) (t := 24) ?hr ?_; (case hd => rfl); (case hg => rfl); (case hr => first | (go_simp; done) | (go_simp; rfl)); intro gb294 hg w30 hbox hb; have n0_ := Aside0.mk (Kd.R_below (by (with_reducible repeat (first | apply Kd.R_alloc | apply Kd.R_drewN | apply Kd.R_drew)); exact HO_6.out) hb); have n1_ := Aside0.mk (Kd.R_below (by (with_reducible repeat (first | apply Kd.R_alloc | apply Kd.R_drewN | apply Kd.R_drew)); exact HO292.out) hb); have n2_ := Aside0.mk (nb BK279.out hb); have n3_ := Aside0.mk (below_step bw hb); have n4_ := Aside0.mk (hbox); have n5_ := Aside0.mk ((g1 hg bw : w.heap.size ≤ gb294)); have n6_ := Aside0.mk ((g1 hg bw : w.heap.size ≤ gb294)); have n7_ := Aside0.mk ((n1 hg BK279.out : gb279 ≠ gb294)); have n8_ := Aside0.mk ((n2 hg BK279.out : gb294 ≠ gb279)); clear HO_6; clear HO292; clear BK279; clear HB; have HO_6 := n0_; have HO292 := n1_; have BK279 := n2_; have HB := n3_; have BK294 := n4_; have GW294 := n5_; have GE294 := n6_; have NB279_294 := n7_; have NB294_279 := n8_; clear n0_ n1_ n2_ n3_ n4_ n5_ n6_ n7_ n8_; clear hb hbox hg; have hnb31 := NB294_279.out; have hnc31 := NB279_294.out; have hcz32_0 := bc2_0 BK294.out; have hcz32_1 := bc2_1 BK294.out; have hfz32_0 := blk_frozen BK294.out 0; have hfz32_1 := blk_frozen BK294.out 1; obtain ⟨Ao33, co33, eo33⟩ := Kd.R_slice HO292.out; subst eo33; have hcz34_0 := bc2_0 BK279.out; have hcz34_1 := bc2_1 BK279.out; have hfz34_0 := blk_frozen BK279.out 0; have hfz34_1 := blk_frozen BK279.out 1))
         go_loopg [10] k1 (fun kq v10 w' => ∃ (x10_2 : Int), v10 = .int .i64 x10_2 ∧ Aside0 (carillonlaw12_ViewStays.l1 kq t280 x10_2 a0_0 l0_1 t289 t290 = some r) ∧ Aside0 (kq ≤ k1) ∧ Aside0 (Kd.R k26 26 w' w.heap.size (fun _ => True) (.slice Ao33 t290.length co33) t290) ∧ Aside0 (w'.heap[gb279]? = some (.cells #[.int .i64 a0_0, (.slice A0_1 l0_1.length c0_1)] 24 (0, 0))) ∧ Aside0 (w'.heap[gb294]? = some (.cells #[.int .i64 t289, (.slice Ao33 t290.length co33)] 24 (0, 0))) ∧ Aside0 (Below w.heap.size w w'))
         case atStart => exact ⟨(0), (by first | rfl | (simp; done) | (simp [*]; done)), H', ⟨Nat.le_refl _⟩, ⟨by (with_reducible repeat (first | apply Kd.R_alloc | apply Kd.R_drewN | apply Kd.R_drew)); exact Kd.R_mono (Kd.R_far (p := ⟨gb294, 1, none⟩) (Kd.R_far (p := ⟨gb294, 0, none⟩) (Kd.R_types HO292.out BK294.out (by decide)) (fun _ hk => hk.2) (.int .i64 t289)) (fun _ hk => hk.2) (.slice Ao33 t290.length co33)) (fun _ hk => trivial)⟩, ⟨by (with_reducible repeat (first | refine blk_drewN ?_ _ | refine blk_drew ?_ | refine blk_alloc ?_ _ | refine blk_far ?_ NB279_294.out _)); exact BK279.out⟩, ⟨by (with_reducible repeat (first | refine blk_drewN ?_ _ | refine blk_drew ?_ | refine blk_alloc ?_ _)); refine blk_put (cs := #[.int .i64 t289, .slice none 0 0]) ?_ 1 _ rfl; (with_reducible repeat (first | refine blk_drewN ?_ _ | refine blk_drew ?_ | refine blk_alloc ?_ _)); refine blk_put (cs := #[.int .i64 0, .slice none 0 0]) ?_ 0 _ rfl; (with_reducible repeat (first | refine blk_drewN ?_ _ | refine blk_drew ?_ | refine blk_alloc ?_ _)); exact BK294.out⟩, ⟨bw⟩⟩
         case round =>
          clear H'
          try clear c1
          try clear c2
          try clear p2
          try clear q2
          try clear hx2
          try clear c3
          try clear c5
          try clear c6
          try clear c6b0
          try clear p6
          try clear c12
          try clear c19
          try clear c19b0
          try clear c20
          try clear c20b0
          try clear c21
          try clear c25
          try clear c25b0
          try clear c25b1
          try clear c26
          try clear c26b0
          try clear c26b1
          try clear c26b2
          try clear p28
          try clear q28
          try clear hx28
          try clear c31
          try clear hcz11_0
          try clear hcz11_1
          try clear hcz15_0
          try clear hcz15_1
          try clear hcz17_0
          try clear hcz17_1
          try clear hcz22_0
          try clear hcz22_1
          try clear hcz27_0
          try clear hcz27_1
          try clear hcz32_0
          try clear hcz32_1
          try clear hcz34_0
          try clear hcz34_1
          try clear hcz9_0
          try clear hcz9_1
          try clear hfz11_0
          try clear hfz11_1
          try clear hfz15_0
          try clear hfz15_1
          try clear hfz17_0
          try clear hfz17_1
          try clear hfz22_0
          try clear hfz22_1
          try clear hfz27_0
          try clear hfz27_1
          try clear hfz32_0
          try clear hfz32_1
          try clear hfz34_0
          try clear hfz34_1
          try clear hfz9_0
          try clear hfz9_1
          try clear hx285_0
          try clear hx285_1
          try clear p2
          try clear p285
          try clear q285
          obtain ⟨x10_2, rfl, HA, HK2, HO_295001, BK279, BK294, HB⟩ := hrel
          cases gk with
          | zero => exact absurd HA.out (by simp [carillonlaw12_ViewStays.l1])
          | succ k2 =>
           have H := HA.out
           clear HA
           simp only [carillonlaw12_ViewStays.l1] at H
           by_cases c35 : x10_2 < (t290.length : Int)
           ·rw [if_pos c35] at H
            have c35b0 : decide (x10_2 < (t290.length : Int)) = true := decide_eq_true c35
            clear c35
            by_cases c36 : 0 ≤ x10_2
            ·rw [if_pos c36] at H
             have c36b0 : decide (0 ≤ x10_2) = true := decide_eq_true c36
             clear c36
             by_cases c37 : x10_2 < (l0_1.length : Int)
             ·rw [if_pos c37] at H
              have c37b0 : decide (x10_2 < (l0_1.length : Int)) = true := decide_eq_true c37
              clear c37
              by_cases c38 : (!(((rd_T26 t290 x10_2).f0) == ((rd_T26 l0_1 x10_2).f0)) || (!(((rd_T26 t290 x10_2).f1) == ((rd_T26 l0_1 x10_2).f1)))) = true
              ·rw [if_pos c38] at H
               have c38b0 : (!(((rd_T26 t290 x10_2).f0) == ((rd_T26 l0_1 x10_2).f0)) || (!(((rd_T26 t290 x10_2).f1) == ((rd_T26 l0_1 x10_2).f1)))) = true := c38
               clear c38
               exact absurd ((Option.some.inj H).trans hr_.out) (by decide)
              ·rw [if_neg c38] at H
               have c38b0 : (!(((rd_T26 t290 x10_2).f0) == ((rd_T26 l0_1 x10_2).f0)) || (!(((rd_T26 t290 x10_2).f1) == ((rd_T26 l0_1 x10_2).f1)))) = false := by simpa using c38
               clear c38
               have H' := Aside0.mk H
               clear H
               have hnb39 := NB294_279.out
               have hnc39 := NB279_294.out
               have hcz40_0 := bc2_0 BK294.out
               have hcz40_1 := bc2_1 BK294.out
               have hfz40_0 := blk_frozen BK294.out 0
               have hfz40_1 := blk_frozen BK294.out 1
               have p295 : 0 ≤ (x10_2 : Int) := of_decide_eq_true (by first | (with_reducible assumption) | assumption)
               have q295 : x10_2 < (t290.length : Int) := of_decide_eq_true (by first | (with_reducible assumption) | assumption)
               obtain ⟨ad295, e295, hx295_0, hx295_1⟩ := at_T26 (Kd.R_reads' HO_295001.out).2.2 x10_2 p295 q295
               cases e295
               replace p295 := eq_true p295
               replace q295 := eq_true q295
               have hcz41_0 := bc2_0 BK279.out
               have hcz41_1 := bc2_1 BK279.out
               have hfz41_0 := blk_frozen BK279.out 0
               have hfz41_1 := blk_frozen BK279.out 1
               have p296 : 0 ≤ (x10_2 : Int) := of_decide_eq_true (by first | (with_reducible assumption) | assumption)
               have q296 : x10_2 < (l0_1.length : Int) := of_decide_eq_true (by first | (with_reducible assumption) | assumption)
               obtain ⟨ad296, e296, hx296_0, hx296_1⟩ := at_T26 HR0_1.out x10_2 p296 q296
               cases e296
               replace hx296_0 := (HB.out.cell (World.block_lt_of_cell? w _ hx296_0)).trans hx296_0
               replace hx296_1 := (HB.out.cell (World.block_lt_of_cell? w _ hx296_1)).trans hx296_1
               replace p296 := eq_true p296
               replace q296 := eq_true q296
               go_wp2
               repeat (go_quiet (fail); try go_wp2)
               go_roundg k2
               case measure => have := HK1.out; have := HK2.out; omega
               case rel => exact ⟨(wrap64 (x10_2 + 1)), (by first | rfl | (simp; done) | (simp [*]; done)), H', ⟨by have := HK1.out; have := HK2.out; omega⟩, ⟨by (with_reducible repeat (first | apply Kd.R_alloc | apply Kd.R_drewN | apply Kd.R_drew)); exact HO_295001.out⟩, ⟨by (with_reducible repeat (first | refine blk_drewN ?_ _ | refine blk_drew ?_ | refine blk_alloc ?_ _)); exact BK279.out⟩, ⟨by (with_reducible repeat (first | refine blk_drewN ?_ _ | refine blk_drew ?_ | refine blk_alloc ?_ _)); exact BK294.out⟩, ⟨bw⟩⟩
             ·rw [if_neg c37] at H
              exact absurd H (by simp)
            ·rw [if_neg c36] at H
             exact absurd H (by simp)
           ·rw [if_neg c35] at H
            have c35b0 : decide (x10_2 < (t290.length : Int)) = false := decide_eq_false c35
            clear c35
            obtain rfl := Option.some.inj H
            have hnb42 := NB294_279.out
            have hnc42 := NB279_294.out
            have hcz43_0 := bc2_0 BK294.out
            have hcz43_1 := bc2_1 BK294.out
            have hfz43_0 := blk_frozen BK294.out 0
            have hfz43_1 := blk_frozen BK294.out 1
            go_wp2
            go_ret
            exact ⟨er, bw⟩
        ·rw [if_neg c26] at H
         have c26b0 : ((t290.length : Int) == (l0_1.length : Int)) = false := beq_eq_false_iff_ne.mpr c26
         have c26b1 : ((t290.length : Int) != (l0_1.length : Int)) = true := bne_iff_ne.mpr c26
         have c26b2 : (t290.length == l0_1.length) = false := by first | simpa using c26 | (simp at c26 ⊢; omega)
         exact absurd ((Option.some.inj H).trans hr_.out) (by decide)
       ·rw [if_neg c25] at H
        have c25b0 : (t293 == 0) = false := beq_eq_false_iff_ne.mpr c25
        have c25b1 : (t293 != 0) = true := bne_iff_ne.mpr c25
        exact absurd ((Option.some.inj H).trans hr_.out) (by decide)
   ·rw [if_neg c12] at H
    exact absurd H (by simp)
 ·replace c5 := Bool.eq_false_iff.mpr c5
  subst c5
  have H1 : (some t280) = some r := by rw [if_neg (show ¬ (false = true) by decide)] at H; exact H
  clear H
  have H := H1
  clear H1
  obtain rfl := Option.some.inj H
  go_enter Try.func6, Try.ntmps6
  go_wp2_with (first | ((with_reducible refine gate_dst (N := 2) rfl ?_); (try (refine gate_guard (by rfl) ?_; dsimp only)); refine box_event ?hg (N := 2) ?hd (cs := #[.int .i64 a0_0, .slice A0_1 l0_1.length c0_1]) (t := 24) ?hr ?_; (case hd => rfl); (case hg => rfl); (case hr => first | (go_simp; done) | (go_simp; rfl)); intro gb279 hg w44 hbox hb; have n0_ := Aside0.mk (below_step bw hb); have n1_ := Aside0.mk (hbox); have n2_ := Aside0.mk ((g1 hg bw : w.heap.size ≤ gb279)); have n3_ := Aside0.mk ((g1 hg bw : w.heap.size ≤ gb279)); clear HB; have HB := n0_; have BK279 := n1_; have GW279 := n2_; have GE279 := n3_; clear n0_ n1_ n2_ n3_; clear hb hbox hg) | (go_at_call 7; (with_reducible refine (carillonlaw12_examples.calls  t280 _ A3.out).mono ?_); rintro e w45 ⟨rfl, hb⟩; have n0_ := Aside0.mk (nb BK279.out hb); have n1_ := Aside0.mk (below_step bw hb); clear BK279; clear HB; have BK279 := n0_; have HB := n1_; clear n0_ n1_; (try clear hb); (try clear hb2); (try clear hk); (try clear hi); have hcz46_0 := bc2_0 BK279.out; have hcz46_1 := bc2_1 BK279.out; have hfz46_0 := blk_frozen BK279.out 0; have hfz46_1 := blk_frozen BK279.out 1) | (go_at_call 12; (with_reducible refine (view_Right.calls k a0_0 _ _ l0_1 false _ ?side1 ?side2 A4.out).mono ?_); (case side1 => repeat (first | exact (Kd.C_below HR0_1.out HB.out) | (with_reducible refine Kd.C_alloc ?_ _) | (with_reducible refine Kd.C_drewN ?_ _) | (with_reducible refine Kd.C_drew ?_))); (case side2 => exact HC0_1.out); rintro e w47 ⟨rfl, hb⟩; have n0_ := Aside0.mk (nb BK279.out hb); have n1_ := Aside0.mk (below_step bw hb); clear BK279; clear HB; have BK279 := n0_; have HB := n1_; clear n0_ n1_; (try clear hb); (try clear hb2); (try clear hk); (try clear hi)))
  go_ret
  exact ⟨er, bw⟩

end Go.Proofs.Ytbcpjegakjcmgaa.P
