-- Printed by this session's program wip/xp.py (a turned copy of the kit's printer): functions, their contracts.
import Derived.Test.YtmjgifhgodgghaaDoorPx0
import Derived.Test.YtmjgifhgodgghaaDoorPx2
import Derived.Test.YtmjgifhgodgghaaDoorPx3
namespace Go.Proofs.YtmjgifhgodgghaaDoor.P
open Go.RowKit Go.Proofs.YtmjgifhgodgghaaDoorW.PrintWords Go.Proofs.YtmjgifhgodgghaaDoorW.PrintLast Go.Proofs.YtmjgifhgodgghaaDoorW.PrintMore
attribute [local go_sem] max2_int min2_int max_two min_two max_three min_three max_four min_four   -- for this text's walks alone
set_option linter.unusedVariables false
set_option linter.unusedSimpArgs false

attribute [local go_sem high] eqA44
/-! ### carillonlaw06_rising: function 23 -/
def carillonlaw06_rising.l0 : Nat → List (S23) → List (S23) → Int → Int → Option ((List (S23)))
 | 0, _, _, _, _ => none
 | k + 1, x0, x3, x4, x5 => if x5 < (x0.length : Int) then (if x5 < 30 then (if 0 ≤ x5 then (if ((rd_T23 x0 x5).f0) < 0 then ((segment_Right.f (wrap64 (x4 + (Int.tmod (wrap64 (-(wrap64 (((rd_T23 x0 x5).f0) + 1)))) 5))) ((rd_T23 x0 x5).f1) ((rd_T23 x0 x5).f2) ((rd_T23 x0 x5).f3) ((rd_T23 x0 x5).f4)).bind fun t439 => (if t439 = true then (if x3.length < 2199023255552 then (carillonlaw06_rising.l0 k x0 (x3 ++ [(⟨wrap64 (x4 + (Int.tmod (wrap64 (-(wrap64 (((rd_T23 x0 x5).f0) + 1)))) 5)), (rd_T23 x0 x5).f1, (rd_T23 x0 x5).f2, (rd_T23 x0 x5).f3, (rd_T23 x0 x5).f4⟩ : S23)]) (wrap64 ((wrap64 (x4 + (Int.tmod (wrap64 (-(wrap64 (((rd_T23 x0 x5).f0) + 1)))) 5))) + 1)) (wrap64 (x5 + 1))) else (none)) else (carillonlaw06_rising.l0 k x0 x3 x4 (wrap64 (x5 + 1))))) else ((segment_Right.f (wrap64 (x4 + (Int.tmod ((rd_T23 x0 x5).f0) 5))) ((rd_T23 x0 x5).f1) ((rd_T23 x0 x5).f2) ((rd_T23 x0 x5).f3) ((rd_T23 x0 x5).f4)).bind fun t443 => (if t443 = true then (if x3.length < 2199023255552 then (carillonlaw06_rising.l0 k x0 (x3 ++ [(⟨wrap64 (x4 + (Int.tmod ((rd_T23 x0 x5).f0) 5)), (rd_T23 x0 x5).f1, (rd_T23 x0 x5).f2, (rd_T23 x0 x5).f3, (rd_T23 x0 x5).f4⟩ : S23)]) (wrap64 ((wrap64 (x4 + (Int.tmod ((rd_T23 x0 x5).f0) 5))) + 1)) (wrap64 (x5 + 1))) else (none)) else (carillonlaw06_rising.l0 k x0 x3 x4 (wrap64 (x5 + 1)))))) else (none)) else (some x3)) else (some x3)
def carillonlaw06_rising.f (k : Nat) (l0 : List (S23)) : Option ((List (S23))) := carillonlaw06_rising.l0 k l0 ([] : List (S23)) 0 0
theorem carillonlaw06_rising.mono_l : ∀ k, (∀ y0 y1 y2 y3, LeO (carillonlaw06_rising.l0 k y0 y1 y2 y3) (carillonlaw06_rising.l0 (k + 1) y0 y1 y2 y3))
 | 0 => fun _ _ _ _ r h => by simp [carillonlaw06_rising.l0] at h
 | k + 1 => by
  have ih0 := carillonlaw06_rising.mono_l k
  ·intro y0 y1 y2 y3
   unfold carillonlaw06_rising.l0
   repeat' first
   | (with_reducible exact ih0 _ _ _ _)
   | (with_reducible exact LeO.refl _)
   | (with_reducible exact LeO.none _)
   | (with_reducible refine LeO.ite ?_ ?_)
   | (with_reducible refine LeO.bind ?_ (fun _ => ?_))
   | exact ih0 _ _ _ _
   | exact LeO.none _
   | refine LeO.ite ?_ ?_
   | refine LeO.bind ?_ (fun _ => ?_)
theorem carillonlaw06_rising.mono : ∀ a0 k, LeO (carillonlaw06_rising.f k a0) (carillonlaw06_rising.f (k + 1) a0) := by
 intro a0 k
 have ih0 := carillonlaw06_rising.mono_l k
 unfold carillonlaw06_rising.f
 repeat' first
   | (with_reducible exact ih0 _ _ _ _)
   | (with_reducible exact LeO.refl _)
   | (with_reducible exact LeO.none _)
   | (with_reducible refine LeO.ite ?_ ?_)
   | (with_reducible refine LeO.bind ?_ (fun _ => ?_))
   | exact ih0 _ _ _ _
   | exact LeO.none _
   | refine LeO.ite ?_ ?_
   | refine LeO.bind ?_ (fun _ => ?_)
set_option maxHeartbeats 8000000 in
set_option maxRecDepth 100000 in
theorem carillonlaw06_rising.calls (k : Nat) (A0 : Option Addr) (c0 : Nat) (l0 : List (S23)) (r : List (S23)) (w : World) (hr0 : Kd.C k23 w A0 l0.length l0) (hc0 : l0.length ≤ c0) (h : carillonlaw06_rising.f k l0 = some r) :
  Calls Tryd.prog 23 #[.slice A0 l0.length c0] w fun e w' => ∃ v0_ : Value, e = .returned (v0_) ∧ Kd.R k23 23 w' w.heap.size (fun _ => True) v0_ r ∧ Below w.heap.size w w' := by
 have hu23 := Tryd.underlying23
 have HR0 := Aside0.mk hr0
 have HC0 := Aside0.mk hc0
 clear hr0 hc0
 have HB := Aside0.mk (Below.refl w.heap.size w)
 have H : (carillonlaw06_rising.l0 k l0 ([] : List (S23)) 0 0) = some r := h
 clear h
 have H' := Aside0.mk H
 clear H
 go_enter Tryd.func23, Tryd.ntmps23
 go_wp2
 go_loopg [3, 4, 5] k (fun kq v3 v4 v5 w' => ∃ (x3_1 : List (S23)) (x4_1 : Int) (x5_1 : Int), v4 = .int .i64 x4_1 ∧ v5 = .int .i64 x5_1 ∧ Aside0 (carillonlaw06_rising.l0 kq l0 x3_1 x4_1 x5_1 = some r) ∧ Aside0 (kq ≤ k) ∧ Aside0 (Kd.R k23 23 w' w.heap.size (fun _ => True) v3 x3_1) ∧ Aside0 (Below w.heap.size w w'))
 case atStart => exact ⟨(([] : List (S23))), (0), (0), (by first | rfl | (simp; done) | (simp [*]; done)), (by first | rfl | (simp; done) | (simp [*]; done)), H', ⟨Nat.le_refl _⟩, ⟨by first | exact Kd.R_nil _ _ _ _ _ | exact Kd.N_nil _ _ _ _ _ | exact Kd.V_nil _ _ _ _ _ | exact Kd.Q_nil _ _ _ _ _ | exact Kd.S_nil _ _ _ _ _⟩, ⟨bw⟩⟩
 case round =>
  clear H'
  obtain ⟨x3_1, x4_1, x5_1, rfl, rfl, HA, HK1, HO_3, HB⟩ := hrel
  cases gk with
  | zero => exact absurd HA.out (by simp [carillonlaw06_rising.l0])
  | succ k1 =>
   have H := HA.out
   clear HA
   simp only [carillonlaw06_rising.l0] at H
   by_cases c2 : x5_1 < (l0.length : Int)
   ·rw [if_pos c2] at H
    have c2b0 : decide (x5_1 < (l0.length : Int)) = true := decide_eq_true c2
    clear c2
    by_cases c3 : x5_1 < 30
    ·rw [if_pos c3] at H
     have c3b0 : decide (x5_1 < 30) = true := decide_eq_true c3
     clear c3
     by_cases c4 : 0 ≤ x5_1
     ·rw [if_pos c4] at H
      have c4b0 : decide (0 ≤ x5_1) = true := decide_eq_true c4
      clear c4
      by_cases c5 : ((rd_T23 l0 x5_1).f0) < 0
      ·rw [if_pos c5] at H
       have c5b0 : decide (((rd_T23 l0 x5_1).f0) < 0) = true := decide_eq_true c5
       clear c5
       replace H := Option.bind_eq_some_iff.mp H
       obtain ⟨t439, A60, H⟩ := H
       replace H : (if t439 = true then (if x3_1.length < 2199023255552 then (carillonlaw06_rising.l0 k1 l0 (x3_1 ++ [(⟨wrap64 (x4_1 + (Int.tmod (wrap64 (-(wrap64 (((rd_T23 l0 x5_1).f0) + 1)))) 5)), (rd_T23 l0 x5_1).f1, (rd_T23 l0 x5_1).f2, (rd_T23 l0 x5_1).f3, (rd_T23 l0 x5_1).f4⟩ : S23)]) (wrap64 ((wrap64 (x4_1 + (Int.tmod (wrap64 (-(wrap64 (((rd_T23 l0 x5_1).f0) + 1)))) 5))) + 1)) (wrap64 (x5_1 + 1))) else (none)) else (carillonlaw06_rising.l0 k1 l0 x3_1 x4_1 (wrap64 (x5_1 + 1)))) = some r := H
       have A6 := Aside0.mk A60
       clear A60
       by_cases c7 : t439 = true
       ·subst c7
        have H1 : (if x3_1.length < 2199023255552 then (carillonlaw06_rising.l0 k1 l0 (x3_1 ++ [(⟨wrap64 (x4_1 + (Int.tmod (wrap64 (-(wrap64 (((rd_T23 l0 x5_1).f0) + 1)))) 5)), (rd_T23 l0 x5_1).f1, (rd_T23 l0 x5_1).f2, (rd_T23 l0 x5_1).f3, (rd_T23 l0 x5_1).f4⟩ : S23)]) (wrap64 ((wrap64 (x4_1 + (Int.tmod (wrap64 (-(wrap64 (((rd_T23 l0 x5_1).f0) + 1)))) 5))) + 1)) (wrap64 (x5_1 + 1))) else (none)) = some r := by rw [if_pos rfl] at H; exact H
        clear H
        have H := H1
        clear H1
        by_cases c8 : x3_1.length < 2199023255552
        ·rw [if_pos c8] at H
         have LMc8 := Aside0.mk c8
         clear c8
         obtain ⟨y440, hy440⟩ : ∃ y_ : List (S23), y_ = (x3_1 ++ [(⟨wrap64 (x4_1 + (Int.tmod (wrap64 (-(wrap64 (((rd_T23 l0 x5_1).f0) + 1)))) 5)), (rd_T23 l0 x5_1).f1, (rd_T23 l0 x5_1).f2, (rd_T23 l0 x5_1).f3, (rd_T23 l0 x5_1).f4⟩ : S23)]) := ⟨_, rfl⟩
         replace H : (carillonlaw06_rising.l0 k1 l0 y440 (wrap64 ((wrap64 (x4_1 + (Int.tmod (wrap64 (-(wrap64 (((rd_T23 l0 x5_1).f0) + 1)))) 5))) + 1)) (wrap64 (x5_1 + 1))) = some r := by first | (rw [hy440]; with_reducible exact H) | (have H2_ := (Option.bind_some _ _).symm.trans H; rw [hy440]; with_reducible exact H2_) | (have H2_ := (Option.bind_some _ _).symm.trans H; with_reducible exact H2_) | with_reducible exact H | (rw [hy440]; exact H) | exact H
         have Ny440 := Aside0.mk hy440
         clear hy440
         have H' := Aside0.mk H
         clear H
         have p437 : 0 ≤ (x5_1 : Int) := of_decide_eq_true (by first | (with_reducible assumption) | assumption)
         have q437 : x5_1 < (l0.length : Int) := of_decide_eq_true (by first | (with_reducible assumption) | assumption)
         obtain ⟨ad437, e437, hx437_0, hx437_1, hx437_2, hx437_3, hx437_4⟩ := at_T23 HR0.out x5_1 p437 q437
         cases e437
         replace hx437_0 := (HB.out.cell (World.block_lt_of_cell? w _ hx437_0)).trans hx437_0
         replace hx437_1 := (HB.out.cell (World.block_lt_of_cell? w _ hx437_1)).trans hx437_1
         replace hx437_2 := (HB.out.cell (World.block_lt_of_cell? w _ hx437_2)).trans hx437_2
         replace hx437_3 := (HB.out.cell (World.block_lt_of_cell? w _ hx437_3)).trans hx437_3
         replace hx437_4 := (HB.out.cell (World.block_lt_of_cell? w _ hx437_4)).trans hx437_4
         replace p437 := eq_true p437
         replace q437 := eq_true q437
         go_wp2_with (first | ((with_reducible refine gate_dst (N := 6) rfl ?_); refine box_event ?hg (N := 6) ?hd (cs := #[.int .i64 0, .string (⟨#[]⟩ : ByteArray), .int .i64 0, .string (⟨#[]⟩ : ByteArray), .string (⟨#[]⟩ : ByteArray)]) (t := 23) ?hr ?_; (case hd => rfl); (case hg => rfl); (case hr => first | (go_simp; done) | (go_simp; rfl)); intro gb438 hg w9 hbox hb; have n0_ := Aside0.mk (Kd.R_below (Kd.R_elderB (by (with_reducible repeat (first | apply Kd.R_alloc | apply Kd.R_drewN | apply Kd.R_drew)); exact HO_3.out) gb438 (Nat.le_of_eq hg.symm)) hb); have n1_ := Aside0.mk (below_step bw hb); have n2_ := Aside0.mk (hbox); have n3_ := Aside0.mk ((g1 hg bw : w.heap.size ≤ gb438)); have n4_ := Aside0.mk ((g1 hg bw : w.heap.size ≤ gb438)); clear HO_3; clear HB; have HO_3 := n0_; have HB := n1_; have BK438 := n2_; have GW438 := n3_; have GE438 := n4_; clear n0_ n1_ n2_ n3_ n4_; clear hb hbox hg; have hcz10_0 := bc5_0 BK438.out; have hcz10_1 := bc5_1 BK438.out; have hcz10_2 := bc5_2 BK438.out; have hcz10_3 := bc5_3 BK438.out; have hcz10_4 := bc5_4 BK438.out; have hfz10_0 := blk_frozen BK438.out 0; have hfz10_1 := blk_frozen BK438.out 1; have hfz10_2 := blk_frozen BK438.out 2; have hfz10_3 := blk_frozen BK438.out 3; have hfz10_4 := blk_frozen BK438.out 4) | ((with_reducible refine gate_callee (f := 12) rfl ?_); refine goesL_ (some 35) rfl rfl Tryd.func12 (by kernel_rfl) rfl #[.agg #[.int .i64 (wrap64 (x4_1 + (Int.tmod (wrap64 (-(wrap64 (((rd_T23 l0 x5_1).f0) + 1)))) 5))), .string ((rd_T23 l0 x5_1).f1), .int .i64 ((rd_T23 l0 x5_1).f2), .string ((rd_T23 l0 x5_1).f3), .string ((rd_T23 l0 x5_1).f4)]] rfl am ?_; (with_reducible refine (segment_Right.calls (wrap64 (x4_1 + (Int.tmod (wrap64 (-(wrap64 (((rd_T23 l0 x5_1).f0) + 1)))) 5))) ((rd_T23 l0 x5_1).f1) ((rd_T23 l0 x5_1).f2) ((rd_T23 l0 x5_1).f3) ((rd_T23 l0 x5_1).f4) true _ A6.out).mono ?_); rintro e w11 ⟨rfl, hb⟩; refine ⟨_, rfl, ?_⟩; have n0_ := Aside0.mk (Kd.R_below (by (with_reducible repeat (first | apply Kd.R_alloc | apply Kd.R_drewN | apply Kd.R_drew)); exact (Kd.R_mono (Kd.R_far (p := ⟨gb438, 0, none⟩) (Kd.R_far (p := ⟨gb438, 4, none⟩) (Kd.R_far (p := ⟨gb438, 3, none⟩) (Kd.R_far (p := ⟨gb438, 2, none⟩) (Kd.R_far (p := ⟨gb438, 1, none⟩) (Kd.R_far (p := ⟨gb438, 0, none⟩) (Kd.R_mono HO_3.out (fun k_ hk => (⟨hk, hk.2⟩ : _ ∧ k_ ≠ gb438))) (fun _ hk => hk.2) (.int .i64 ((rd_T23 l0 x5_1).f0))) (fun _ hk => hk.2) (.string ((rd_T23 l0 x5_1).f1))) (fun _ hk => hk.2) (.int .i64 ((rd_T23 l0 x5_1).f2))) (fun _ hk => hk.2) (.string ((rd_T23 l0 x5_1).f3))) (fun _ hk => hk.2) (.string ((rd_T23 l0 x5_1).f4))) (fun _ hk => hk.2) (.int .i64 (wrap64 (x4_1 + (Int.tmod (wrap64 (-(wrap64 (((rd_T23 l0 x5_1).f0) + 1)))) 5))))) (fun _ h_ => h_.1))) hb); have n1_ := Aside0.mk (blk_below (g := gb438) (o := .cells #[.int .i64 (wrap64 (x4_1 + (Int.tmod (wrap64 (-(wrap64 (((rd_T23 l0 x5_1).f0) + 1)))) 5))), .string ((rd_T23 l0 x5_1).f1), .int .i64 ((rd_T23 l0 x5_1).f2), .string ((rd_T23 l0 x5_1).f3), .string ((rd_T23 l0 x5_1).f4)] 23 (0, 0)) (by (with_reducible repeat (first | refine blk_drewN ?_ _ | refine blk_drew ?_ | refine blk_alloc ?_ _)); refine blk_put (cs := #[.int .i64 ((rd_T23 l0 x5_1).f0), .string ((rd_T23 l0 x5_1).f1), .int .i64 ((rd_T23 l0 x5_1).f2), .string ((rd_T23 l0 x5_1).f3), .string ((rd_T23 l0 x5_1).f4)]) ?_ 0 _ rfl; (with_reducible repeat (first | refine blk_drewN ?_ _ | refine blk_drew ?_ | refine blk_alloc ?_ _)); refine blk_put (cs := #[.int .i64 ((rd_T23 l0 x5_1).f0), .string ((rd_T23 l0 x5_1).f1), .int .i64 ((rd_T23 l0 x5_1).f2), .string ((rd_T23 l0 x5_1).f3), .string (⟨#[]⟩ : ByteArray)]) ?_ 4 _ rfl; (with_reducible repeat (first | refine blk_drewN ?_ _ | refine blk_drew ?_ | refine blk_alloc ?_ _)); refine blk_put (cs := #[.int .i64 ((rd_T23 l0 x5_1).f0), .string ((rd_T23 l0 x5_1).f1), .int .i64 ((rd_T23 l0 x5_1).f2), .string (⟨#[]⟩ : ByteArray), .string (⟨#[]⟩ : ByteArray)]) ?_ 3 _ rfl; (with_reducible repeat (first | refine blk_drewN ?_ _ | refine blk_drew ?_ | refine blk_alloc ?_ _)); refine blk_put (cs := #[.int .i64 ((rd_T23 l0 x5_1).f0), .string ((rd_T23 l0 x5_1).f1), .int .i64 0, .string (⟨#[]⟩ : ByteArray), .string (⟨#[]⟩ : ByteArray)]) ?_ 2 _ rfl; (with_reducible repeat (first | refine blk_drewN ?_ _ | refine blk_drew ?_ | refine blk_alloc ?_ _)); refine blk_put (cs := #[.int .i64 ((rd_T23 l0 x5_1).f0), .string (⟨#[]⟩ : ByteArray), .int .i64 0, .string (⟨#[]⟩ : ByteArray), .string (⟨#[]⟩ : ByteArray)]) ?_ 1 _ rfl; (with_reducible repeat (first | refine blk_drewN ?_ _ | refine blk_drew ?_ | refine blk_alloc ?_ _)); refine blk_put (cs := #[.int .i64 0, .string (⟨#[]⟩ : ByteArray), .int .i64 0, .string (⟨#[]⟩ : ByteArray), .string (⟨#[]⟩ : ByteArray)]) ?_ 0 _ rfl; (with_reducible repeat (first | refine blk_drewN ?_ _ | refine blk_drew ?_ | refine blk_alloc ?_ _)); exact BK438.out) hb); have n2_ := Aside0.mk (below_step bw hb); clear HO_3; clear BK438; clear HB; have HO_3 := n0_; have BK438 := n1_; have HB := n2_; clear n0_ n1_ n2_; (try clear hb); (try clear hb2); (try clear hk); (try clear hi); have hcz12_0 := bc5_0 BK438.out; have hcz12_1 := bc5_1 BK438.out; have hcz12_2 := bc5_2 BK438.out; have hcz12_3 := bc5_3 BK438.out; have hcz12_4 := bc5_4 BK438.out; have hfz12_0 := blk_frozen BK438.out 0; have hfz12_1 := blk_frozen BK438.out 1; have hfz12_2 := blk_frozen BK438.out 2; have hfz12_3 := blk_frozen BK438.out 3; have hfz12_4 := blk_frozen BK438.out 4) | ((with_reducible refine gate_builtin (b := .append) (xs := #[.tmp 36, .tmp 38]) rfl ?_); at_builtin; refine Kd.R_append k23 (w0 := w) w.heap.size rfl (.tmp 36) (.tmp 38) 31 23 (.agg #[(.int .i64 0), (.string ⟨#[]⟩), (.int .i64 0), (.string ⟨#[]⟩), (.string ⟨#[]⟩)]) 64 rfl Tryd.underlying31 info23 rfl (by decide) (by omega) u3 x3_1 (⟨wrap64 (x4_1 + (Int.tmod (wrap64 (-(wrap64 (((rd_T23 l0 x5_1).f0) + 1)))) 5)), (rd_T23 l0 x5_1).f1, (rd_T23 l0 x5_1).f2, (rd_T23 l0 x5_1).f3, (rd_T23 l0 x5_1).f4⟩ : S23) [.int .i64 (wrap64 (x4_1 + (Int.tmod (wrap64 (-(wrap64 (((rd_T23 l0 x5_1).f0) + 1)))) 5))), .string ((rd_T23 l0 x5_1).f1), .int .i64 ((rd_T23 l0 x5_1).f2), .string ((rd_T23 l0 x5_1).f3), .string ((rd_T23 l0 x5_1).f4)] (fun k_ => k_ ≠ gb438) (fun _ => False) rfl rfl ?aP (fun _ hk => hk.elim) ?aF ?aO ?aB ?aS ?aL ?_; (case aP => exact k23_mkM _ _ _ (⟨wrap64 (x4_1 + (Int.tmod (wrap64 (-(wrap64 (((rd_T23 l0 x5_1).f0) + 1)))) 5)), (rd_T23 l0 x5_1).f1, (rd_T23 l0 x5_1).f2, (rd_T23 l0 x5_1).f3, (rd_T23 l0 x5_1).f4⟩ : S23)); (case aB => exact bw); (case aF => exact (fun k_ hk => Kd.freshB (g := gb438) (o := .cells #[.int .i64 (wrap64 (x4_1 + (Int.tmod (wrap64 (-(wrap64 (((rd_T23 l0 x5_1).f0) + 1)))) 5))), .string ((rd_T23 l0 x5_1).f1), .int .i64 ((rd_T23 l0 x5_1).f2), .string ((rd_T23 l0 x5_1).f3), .string ((rd_T23 l0 x5_1).f4)] 23 (0, 0)) (bk BK438.out) k_ hk)); (case aO => exact (by (with_reducible repeat (first | apply Kd.R_alloc | apply Kd.R_drewN | apply Kd.R_drew)); exact Kd.R_mono HO_3.out (fun _ hk => hk.2))); (case aS => exact (below_size bw)); (case aL => have := LMc8.out; omega); intro v441 w13 ho hb hg hat; rw [← Ny440.out] at ho; have n0_ := Aside0.mk (blk_grown (g := gb438) (o := .cells #[.int .i64 (wrap64 (x4_1 + (Int.tmod (wrap64 (-(wrap64 (((rd_T23 l0 x5_1).f0) + 1)))) 5))), .string ((rd_T23 l0 x5_1).f1), .int .i64 ((rd_T23 l0 x5_1).f2), .string ((rd_T23 l0 x5_1).f3), .string ((rd_T23 l0 x5_1).f4)] 23 (0, 0)) (bk BK438.out) hg (Kd.R_away HO_3.out (fun _ hk => hk.2))); have n1_ := Aside0.mk (hb); have n2_ := Aside0.mk (ho); clear BK438; clear HB; clear HO_3; have BK438 := n0_; have HB := n1_; have HO442 := n2_; clear n0_ n1_ n2_; clear ho hb hg hat; have hcz14_0 := bc5_0 BK438.out; have hcz14_1 := bc5_1 BK438.out; have hcz14_2 := bc5_2 BK438.out; have hcz14_3 := bc5_3 BK438.out; have hcz14_4 := bc5_4 BK438.out; have hfz14_0 := blk_frozen BK438.out 0; have hfz14_1 := blk_frozen BK438.out 1; have hfz14_2 := blk_frozen BK438.out 2; have hfz14_3 := blk_frozen BK438.out 3; have hfz14_4 := blk_frozen BK438.out 4))
         go_roundg k1
         case measure => have := HK1.out; omega
         case rel => exact ⟨(y440), (wrap64 ((wrap64 (x4_1 + (Int.tmod (wrap64 (-(wrap64 (((rd_T23 l0 x5_1).f0) + 1)))) 5))) + 1)), (wrap64 (x5_1 + 1)), (by first | rfl | (simp; done) | (simp [*]; done)), (by first | rfl | (simp; done) | (simp [*]; done)), H', ⟨by have := HK1.out; omega⟩, ⟨by (with_reducible repeat (first | apply Kd.R_alloc | apply Kd.R_drewN | apply Kd.R_drew)); exact Kd.R_mono HO442.out (fun _ hk => trivial)⟩, ⟨bw⟩⟩
        ·rw [if_neg c8] at H
         exact absurd H (by simp)
       ·replace c7 := Bool.eq_false_iff.mpr c7
        subst c7
        have H1 : (carillonlaw06_rising.l0 k1 l0 x3_1 x4_1 (wrap64 (x5_1 + 1))) = some r := by rw [if_neg (show ¬ (false = true) by decide)] at H; exact H
        clear H
        have H := H1
        clear H1
        have H' := Aside0.mk H
        clear H
        have p437 : 0 ≤ (x5_1 : Int) := of_decide_eq_true (by first | (with_reducible assumption) | assumption)
        have q437 : x5_1 < (l0.length : Int) := of_decide_eq_true (by first | (with_reducible assumption) | assumption)
        obtain ⟨ad437, e437, hx437_0, hx437_1, hx437_2, hx437_3, hx437_4⟩ := at_T23 HR0.out x5_1 p437 q437
        cases e437
        replace hx437_0 := (HB.out.cell (World.block_lt_of_cell? w _ hx437_0)).trans hx437_0
        replace hx437_1 := (HB.out.cell (World.block_lt_of_cell? w _ hx437_1)).trans hx437_1
        replace hx437_2 := (HB.out.cell (World.block_lt_of_cell? w _ hx437_2)).trans hx437_2
        replace hx437_3 := (HB.out.cell (World.block_lt_of_cell? w _ hx437_3)).trans hx437_3
        replace hx437_4 := (HB.out.cell (World.block_lt_of_cell? w _ hx437_4)).trans hx437_4
        replace p437 := eq_true p437
        replace q437 := eq_true q437
        go_wp2_with (first | ((with_reducible refine gate_dst (N := 6) rfl ?_); refine box_event ?hg (N := 6) ?hd (cs := #[.int .i64 0, .string (⟨#[]⟩ : ByteArray), .int .i64 0, .string (⟨#[]⟩ : ByteArray), .string (⟨#[]⟩ : ByteArray)]) (t := 23) ?hr ?_; (case hd => rfl); (case hg => rfl); (case hr => first | (go_simp; done) | (go_simp; rfl)); intro gb438 hg w15 hbox hb; have n0_ := Aside0.mk (Kd.R_below (Kd.R_elderB (by (with_reducible repeat (first | apply Kd.R_alloc | apply Kd.R_drewN | apply Kd.R_drew)); exact HO_3.out) gb438 (Nat.le_of_eq hg.symm)) hb); have n1_ := Aside0.mk (below_step bw hb); have n2_ := Aside0.mk (hbox); have n3_ := Aside0.mk ((g1 hg bw : w.heap.size ≤ gb438)); have n4_ := Aside0.mk ((g1 hg bw : w.heap.size ≤ gb438)); clear HO_3; clear HB; have HO_3 := n0_; have HB := n1_; have BK438 := n2_; have GW438 := n3_; have GE438 := n4_; clear n0_ n1_ n2_ n3_ n4_; clear hb hbox hg; have hcz16_0 := bc5_0 BK438.out; have hcz16_1 := bc5_1 BK438.out; have hcz16_2 := bc5_2 BK438.out; have hcz16_3 := bc5_3 BK438.out; have hcz16_4 := bc5_4 BK438.out; have hfz16_0 := blk_frozen BK438.out 0; have hfz16_1 := blk_frozen BK438.out 1; have hfz16_2 := blk_frozen BK438.out 2; have hfz16_3 := blk_frozen BK438.out 3; have hfz16_4 := blk_frozen BK438.out 4) | ((with_reducible refine gate_callee (f := 12) rfl ?_); refine goesL_ (some 35) rfl rfl Tryd.func12 (by kernel_rfl) rfl #[.agg #[.int .i64 (wrap64 (x4_1 + (Int.tmod (wrap64 (-(wrap64 (((rd_T23 l0 x5_1).f0) + 1)))) 5))), .string ((rd_T23 l0 x5_1).f1), .int .i64 ((rd_T23 l0 x5_1).f2), .string ((rd_T23 l0 x5_1).f3), .string ((rd_T23 l0 x5_1).f4)]] rfl am ?_; (with_reducible refine (segment_Right.calls (wrap64 (x4_1 + (Int.tmod (wrap64 (-(wrap64 (((rd_T23 l0 x5_1).f0) + 1)))) 5))) ((rd_T23 l0 x5_1).f1) ((rd_T23 l0 x5_1).f2) ((rd_T23 l0 x5_1).f3) ((rd_T23 l0 x5_1).f4) false _ A6.out).mono ?_); rintro e w17 ⟨rfl, hb⟩; refine ⟨_, rfl, ?_⟩; have n0_ := Aside0.mk (Kd.R_below (by (with_reducible repeat (first | apply Kd.R_alloc | apply Kd.R_drewN | apply Kd.R_drew)); exact (Kd.R_mono (Kd.R_far (p := ⟨gb438, 0, none⟩) (Kd.R_far (p := ⟨gb438, 4, none⟩) (Kd.R_far (p := ⟨gb438, 3, none⟩) (Kd.R_far (p := ⟨gb438, 2, none⟩) (Kd.R_far (p := ⟨gb438, 1, none⟩) (Kd.R_far (p := ⟨gb438, 0, none⟩) (Kd.R_mono HO_3.out (fun k_ hk => (⟨hk, hk.2⟩ : _ ∧ k_ ≠ gb438))) (fun _ hk => hk.2) (.int .i64 ((rd_T23 l0 x5_1).f0))) (fun _ hk => hk.2) (.string ((rd_T23 l0 x5_1).f1))) (fun _ hk => hk.2) (.int .i64 ((rd_T23 l0 x5_1).f2))) (fun _ hk => hk.2) (.string ((rd_T23 l0 x5_1).f3))) (fun _ hk => hk.2) (.string ((rd_T23 l0 x5_1).f4))) (fun _ hk => hk.2) (.int .i64 (wrap64 (x4_1 + (Int.tmod (wrap64 (-(wrap64 (((rd_T23 l0 x5_1).f0) + 1)))) 5))))) (fun _ h_ => h_.1))) hb); have n1_ := Aside0.mk (blk_below (g := gb438) (o := .cells #[.int .i64 (wrap64 (x4_1 + (Int.tmod (wrap64 (-(wrap64 (((rd_T23 l0 x5_1).f0) + 1)))) 5))), .string ((rd_T23 l0 x5_1).f1), .int .i64 ((rd_T23 l0 x5_1).f2), .string ((rd_T23 l0 x5_1).f3), .string ((rd_T23 l0 x5_1).f4)] 23 (0, 0)) (by (with_reducible repeat (first | refine blk_drewN ?_ _ | refine blk_drew ?_ | refine blk_alloc ?_ _)); refine blk_put (cs := #[.int .i64 ((rd_T23 l0 x5_1).f0), .string ((rd_T23 l0 x5_1).f1), .int .i64 ((rd_T23 l0 x5_1).f2), .string ((rd_T23 l0 x5_1).f3), .string ((rd_T23 l0 x5_1).f4)]) ?_ 0 _ rfl; (with_reducible repeat (first | refine blk_drewN ?_ _ | refine blk_drew ?_ | refine blk_alloc ?_ _)); refine blk_put (cs := #[.int .i64 ((rd_T23 l0 x5_1).f0), .string ((rd_T23 l0 x5_1).f1), .int .i64 ((rd_T23 l0 x5_1).f2), .string ((rd_T23 l0 x5_1).f3), .string (⟨#[]⟩ : ByteArray)]) ?_ 4 _ rfl; (with_reducible repeat (first | refine blk_drewN ?_ _ | refine blk_drew ?_ | refine blk_alloc ?_ _)); refine blk_put (cs := #[.int .i64 ((rd_T23 l0 x5_1).f0), .string ((rd_T23 l0 x5_1).f1), .int .i64 ((rd_T23 l0 x5_1).f2), .string (⟨#[]⟩ : ByteArray), .string (⟨#[]⟩ : ByteArray)]) ?_ 3 _ rfl; (with_reducible repeat (first | refine blk_drewN ?_ _ | refine blk_drew ?_ | refine blk_alloc ?_ _)); refine blk_put (cs := #[.int .i64 ((rd_T23 l0 x5_1).f0), .string ((rd_T23 l0 x5_1).f1), .int .i64 0, .string (⟨#[]⟩ : ByteArray), .string (⟨#[]⟩ : ByteArray)]) ?_ 2 _ rfl; (with_reducible repeat (first | refine blk_drewN ?_ _ | refine blk_drew ?_ | refine blk_alloc ?_ _)); refine blk_put (cs := #[.int .i64 ((rd_T23 l0 x5_1).f0), .string (⟨#[]⟩ : ByteArray), .int .i64 0, .string (⟨#[]⟩ : ByteArray), .string (⟨#[]⟩ : ByteArray)]) ?_ 1 _ rfl; (with_reducible repeat (first | refine blk_drewN ?_ _ | refine blk_drew ?_ | refine blk_alloc ?_ _)); refine blk_put (cs := #[.int .i64 0, .string (⟨#[]⟩ : ByteArray), .int .i64 0, .string (⟨#[]⟩ : ByteArray), .string (⟨#[]⟩ : ByteArray)]) ?_ 0 _ rfl; (with_reducible repeat (first | refine blk_drewN ?_ _ | refine blk_drew ?_ | refine blk_alloc ?_ _)); exact BK438.out) hb); have n2_ := Aside0.mk (below_step bw hb); clear HO_3; clear BK438; clear HB; have HO_3 := n0_; have BK438 := n1_; have HB := n2_; clear n0_ n1_ n2_; (try clear hb); (try clear hb2); (try clear hk); (try clear hi)))
        go_roundg k1
        case measure => have := HK1.out; omega
        case rel => exact ⟨(x3_1), (x4_1), (wrap64 (x5_1 + 1)), (by first | rfl | (simp; done) | (simp [*]; done)), (by first | rfl | (simp; done) | (simp [*]; done)), H', ⟨by have := HK1.out; omega⟩, ⟨by (with_reducible repeat (first | apply Kd.R_alloc | apply Kd.R_drewN | apply Kd.R_drew)); exact Kd.R_mono HO_3.out (fun _ hk => trivial)⟩, ⟨bw⟩⟩
      ·rw [if_neg c5] at H
       have c5b0 : decide (((rd_T23 l0 x5_1).f0) < 0) = false := decide_eq_false c5
       clear c5
       replace H := Option.bind_eq_some_iff.mp H
       obtain ⟨t443, A180, H⟩ := H
       replace H : (if t443 = true then (if x3_1.length < 2199023255552 then (carillonlaw06_rising.l0 k1 l0 (x3_1 ++ [(⟨wrap64 (x4_1 + (Int.tmod ((rd_T23 l0 x5_1).f0) 5)), (rd_T23 l0 x5_1).f1, (rd_T23 l0 x5_1).f2, (rd_T23 l0 x5_1).f3, (rd_T23 l0 x5_1).f4⟩ : S23)]) (wrap64 ((wrap64 (x4_1 + (Int.tmod ((rd_T23 l0 x5_1).f0) 5))) + 1)) (wrap64 (x5_1 + 1))) else (none)) else (carillonlaw06_rising.l0 k1 l0 x3_1 x4_1 (wrap64 (x5_1 + 1)))) = some r := H
       have A18 := Aside0.mk A180
       clear A180
       by_cases c19 : t443 = true
       ·subst c19
        have H1 : (if x3_1.length < 2199023255552 then (carillonlaw06_rising.l0 k1 l0 (x3_1 ++ [(⟨wrap64 (x4_1 + (Int.tmod ((rd_T23 l0 x5_1).f0) 5)), (rd_T23 l0 x5_1).f1, (rd_T23 l0 x5_1).f2, (rd_T23 l0 x5_1).f3, (rd_T23 l0 x5_1).f4⟩ : S23)]) (wrap64 ((wrap64 (x4_1 + (Int.tmod ((rd_T23 l0 x5_1).f0) 5))) + 1)) (wrap64 (x5_1 + 1))) else (none)) = some r := by rw [if_pos rfl] at H; exact H
        clear H
        have H := H1
        clear H1
        by_cases c20 : x3_1.length < 2199023255552
        ·rw [if_pos c20] at H
         have LMc20 := Aside0.mk c20
         clear c20
         obtain ⟨y444, hy444⟩ : ∃ y_ : List (S23), y_ = (x3_1 ++ [(⟨wrap64 (x4_1 + (Int.tmod ((rd_T23 l0 x5_1).f0) 5)), (rd_T23 l0 x5_1).f1, (rd_T23 l0 x5_1).f2, (rd_T23 l0 x5_1).f3, (rd_T23 l0 x5_1).f4⟩ : S23)]) := ⟨_, rfl⟩
         replace H : (carillonlaw06_rising.l0 k1 l0 y444 (wrap64 ((wrap64 (x4_1 + (Int.tmod ((rd_T23 l0 x5_1).f0) 5))) + 1)) (wrap64 (x5_1 + 1))) = some r := by first | (rw [hy444]; with_reducible exact H) | (have H2_ := (Option.bind_some _ _).symm.trans H; rw [hy444]; with_reducible exact H2_) | (have H2_ := (Option.bind_some _ _).symm.trans H; with_reducible exact H2_) | with_reducible exact H | (rw [hy444]; exact H) | exact H
         have Ny444 := Aside0.mk hy444
         clear hy444
         have H' := Aside0.mk H
         clear H
         have p437 : 0 ≤ (x5_1 : Int) := of_decide_eq_true (by first | (with_reducible assumption) | assumption)
         have q437 : x5_1 < (l0.length : Int) := of_decide_eq_true (by first | (with_reducible assumption) | assumption)
         obtain ⟨ad437, e437, hx437_0, hx437_1, hx437_2, hx437_3, hx437_4⟩ := at_T23 HR0.out x5_1 p437 q437
         cases e437
         replace hx437_0 := (HB.out.cell (World.block_lt_of_cell? w _ hx437_0)).trans hx437_0
         replace hx437_1 := (HB.out.cell (World.block_lt_of_cell? w _ hx437_1)).trans hx437_1
         replace hx437_2 := (HB.out.cell (World.block_lt_of_cell? w _ hx437_2)).trans hx437_2
         replace hx437_3 := (HB.out.cell (World.block_lt_of_cell? w _ hx437_3)).trans hx437_3
         replace hx437_4 := (HB.out.cell (World.block_lt_of_cell? w _ hx437_4)).trans hx437_4
         replace p437 := eq_true p437
         replace q437 := eq_true q437
         go_wp2_with (first | ((with_reducible refine gate_dst (N := 6) rfl ?_); refine box_event ?hg (N := 6) ?hd (cs := #[.int .i64 0, .string (⟨#[]⟩ : ByteArray), .int .i64 0, .string (⟨#[]⟩ : ByteArray), .string (⟨#[]⟩ : ByteArray)]) (t := 23) ?hr ?_; (case hd => rfl); (case hg => rfl); (case hr => first | (go_simp; done) | (go_simp; rfl)); intro gb438 hg w21 hbox hb; have n0_ := Aside0.mk (Kd.R_below (Kd.R_elderB (by (with_reducible repeat (first | apply Kd.R_alloc | apply Kd.R_drewN | apply Kd.R_drew)); exact HO_3.out) gb438 (Nat.le_of_eq hg.symm)) hb); have n1_ := Aside0.mk (below_step bw hb); have n2_ := Aside0.mk (hbox); have n3_ := Aside0.mk ((g1 hg bw : w.heap.size ≤ gb438)); have n4_ := Aside0.mk ((g1 hg bw : w.heap.size ≤ gb438)); clear HO_3; clear HB; have HO_3 := n0_; have HB := n1_; have BK438 := n2_; have GW438 := n3_; have GE438 := n4_; clear n0_ n1_ n2_ n3_ n4_; clear hb hbox hg; have hcz22_0 := bc5_0 BK438.out; have hcz22_1 := bc5_1 BK438.out; have hcz22_2 := bc5_2 BK438.out; have hcz22_3 := bc5_3 BK438.out; have hcz22_4 := bc5_4 BK438.out; have hfz22_0 := blk_frozen BK438.out 0; have hfz22_1 := blk_frozen BK438.out 1; have hfz22_2 := blk_frozen BK438.out 2; have hfz22_3 := blk_frozen BK438.out 3; have hfz22_4 := blk_frozen BK438.out 4) | ((with_reducible refine gate_callee (f := 12) rfl ?_); refine goesL_ (some 35) rfl rfl Tryd.func12 (by kernel_rfl) rfl #[.agg #[.int .i64 (wrap64 (x4_1 + (Int.tmod ((rd_T23 l0 x5_1).f0) 5))), .string ((rd_T23 l0 x5_1).f1), .int .i64 ((rd_T23 l0 x5_1).f2), .string ((rd_T23 l0 x5_1).f3), .string ((rd_T23 l0 x5_1).f4)]] rfl am ?_; (with_reducible refine (segment_Right.calls (wrap64 (x4_1 + (Int.tmod ((rd_T23 l0 x5_1).f0) 5))) ((rd_T23 l0 x5_1).f1) ((rd_T23 l0 x5_1).f2) ((rd_T23 l0 x5_1).f3) ((rd_T23 l0 x5_1).f4) true _ A18.out).mono ?_); rintro e w23 ⟨rfl, hb⟩; refine ⟨_, rfl, ?_⟩; have n0_ := Aside0.mk (Kd.R_below (by (with_reducible repeat (first | apply Kd.R_alloc | apply Kd.R_drewN | apply Kd.R_drew)); exact (Kd.R_mono (Kd.R_far (p := ⟨gb438, 0, none⟩) (Kd.R_far (p := ⟨gb438, 4, none⟩) (Kd.R_far (p := ⟨gb438, 3, none⟩) (Kd.R_far (p := ⟨gb438, 2, none⟩) (Kd.R_far (p := ⟨gb438, 1, none⟩) (Kd.R_far (p := ⟨gb438, 0, none⟩) (Kd.R_mono HO_3.out (fun k_ hk => (⟨hk, hk.2⟩ : _ ∧ k_ ≠ gb438))) (fun _ hk => hk.2) (.int .i64 ((rd_T23 l0 x5_1).f0))) (fun _ hk => hk.2) (.string ((rd_T23 l0 x5_1).f1))) (fun _ hk => hk.2) (.int .i64 ((rd_T23 l0 x5_1).f2))) (fun _ hk => hk.2) (.string ((rd_T23 l0 x5_1).f3))) (fun _ hk => hk.2) (.string ((rd_T23 l0 x5_1).f4))) (fun _ hk => hk.2) (.int .i64 (wrap64 (x4_1 + (Int.tmod ((rd_T23 l0 x5_1).f0) 5))))) (fun _ h_ => h_.1))) hb); have n1_ := Aside0.mk (blk_below (g := gb438) (o := .cells #[.int .i64 (wrap64 (x4_1 + (Int.tmod ((rd_T23 l0 x5_1).f0) 5))), .string ((rd_T23 l0 x5_1).f1), .int .i64 ((rd_T23 l0 x5_1).f2), .string ((rd_T23 l0 x5_1).f3), .string ((rd_T23 l0 x5_1).f4)] 23 (0, 0)) (by (with_reducible repeat (first | refine blk_drewN ?_ _ | refine blk_drew ?_ | refine blk_alloc ?_ _)); refine blk_put (cs := #[.int .i64 ((rd_T23 l0 x5_1).f0), .string ((rd_T23 l0 x5_1).f1), .int .i64 ((rd_T23 l0 x5_1).f2), .string ((rd_T23 l0 x5_1).f3), .string ((rd_T23 l0 x5_1).f4)]) ?_ 0 _ rfl; (with_reducible repeat (first | refine blk_drewN ?_ _ | refine blk_drew ?_ | refine blk_alloc ?_ _)); refine blk_put (cs := #[.int .i64 ((rd_T23 l0 x5_1).f0), .string ((rd_T23 l0 x5_1).f1), .int .i64 ((rd_T23 l0 x5_1).f2), .string ((rd_T23 l0 x5_1).f3), .string (⟨#[]⟩ : ByteArray)]) ?_ 4 _ rfl; (with_reducible repeat (first | refine blk_drewN ?_ _ | refine blk_drew ?_ | refine blk_alloc ?_ _)); refine blk_put (cs := #[.int .i64 ((rd_T23 l0 x5_1).f0), .string ((rd_T23 l0 x5_1).f1), .int .i64 ((rd_T23 l0 x5_1).f2), .string (⟨#[]⟩ : ByteArray), .string (⟨#[]⟩ : ByteArray)]) ?_ 3 _ rfl; (with_reducible repeat (first | refine blk_drewN ?_ _ | refine blk_drew ?_ | refine blk_alloc ?_ _)); refine blk_put (cs := #[.int .i64 ((rd_T23 l0 x5_1).f0), .string ((rd_T23 l0 x5_1).f1), .int .i64 0, .string (⟨#[]⟩ : ByteArray), .string (⟨#[]⟩ : ByteArray)]) ?_ 2 _ rfl; (with_reducible repeat (first | refine blk_drewN ?_ _ | refine blk_drew ?_ | refine blk_alloc ?_ _)); refine blk_put (cs := #[.int .i64 ((rd_T23 l0 x5_1).f0), .string (⟨#[]⟩ : ByteArray), .int .i64 0, .string (⟨#[]⟩ : ByteArray), .string (⟨#[]⟩ : ByteArray)]) ?_ 1 _ rfl; (with_reducible repeat (first | refine blk_drewN ?_ _ | refine blk_drew ?_ | refine blk_alloc ?_ _)); refine blk_put (cs := #[.int .i64 0, .string (⟨#[]⟩ : ByteArray), .int .i64 0, .string (⟨#[]⟩ : ByteArray), .string (⟨#[]⟩ : ByteArray)]) ?_ 0 _ rfl; (with_reducible repeat (first | refine blk_drewN ?_ _ | refine blk_drew ?_ | refine blk_alloc ?_ _)); exact BK438.out) hb); have n2_ := Aside0.mk (below_step bw hb); clear HO_3; clear BK438; clear HB; have HO_3 := n0_; have BK438 := n1_; have HB := n2_; clear n0_ n1_ n2_; (try clear hb); (try clear hb2); (try clear hk); (try clear hi); have hcz24_0 := bc5_0 BK438.out; have hcz24_1 := bc5_1 BK438.out; have hcz24_2 := bc5_2 BK438.out; have hcz24_3 := bc5_3 BK438.out; have hcz24_4 := bc5_4 BK438.out; have hfz24_0 := blk_frozen BK438.out 0; have hfz24_1 := blk_frozen BK438.out 1; have hfz24_2 := blk_frozen BK438.out 2; have hfz24_3 := blk_frozen BK438.out 3; have hfz24_4 := blk_frozen BK438.out 4) | ((with_reducible refine gate_builtin (b := .append) (xs := #[.tmp 36, .tmp 38]) rfl ?_); at_builtin; refine Kd.R_append k23 (w0 := w) w.heap.size rfl (.tmp 36) (.tmp 38) 31 23 (.agg #[(.int .i64 0), (.string ⟨#[]⟩), (.int .i64 0), (.string ⟨#[]⟩), (.string ⟨#[]⟩)]) 64 rfl Tryd.underlying31 info23 rfl (by decide) (by omega) u3 x3_1 (⟨wrap64 (x4_1 + (Int.tmod ((rd_T23 l0 x5_1).f0) 5)), (rd_T23 l0 x5_1).f1, (rd_T23 l0 x5_1).f2, (rd_T23 l0 x5_1).f3, (rd_T23 l0 x5_1).f4⟩ : S23) [.int .i64 (wrap64 (x4_1 + (Int.tmod ((rd_T23 l0 x5_1).f0) 5))), .string ((rd_T23 l0 x5_1).f1), .int .i64 ((rd_T23 l0 x5_1).f2), .string ((rd_T23 l0 x5_1).f3), .string ((rd_T23 l0 x5_1).f4)] (fun k_ => k_ ≠ gb438) (fun _ => False) rfl rfl ?aP (fun _ hk => hk.elim) ?aF ?aO ?aB ?aS ?aL ?_; (case aP => exact k23_mkM _ _ _ (⟨wrap64 (x4_1 + (Int.tmod ((rd_T23 l0 x5_1).f0) 5)), (rd_T23 l0 x5_1).f1, (rd_T23 l0 x5_1).f2, (rd_T23 l0 x5_1).f3, (rd_T23 l0 x5_1).f4⟩ : S23)); (case aB => exact bw); (case aF => exact (fun k_ hk => Kd.freshB (g := gb438) (o := .cells #[.int .i64 (wrap64 (x4_1 + (Int.tmod ((rd_T23 l0 x5_1).f0) 5))), .string ((rd_T23 l0 x5_1).f1), .int .i64 ((rd_T23 l0 x5_1).f2), .string ((rd_T23 l0 x5_1).f3), .string ((rd_T23 l0 x5_1).f4)] 23 (0, 0)) (bk BK438.out) k_ hk)); (case aO => exact (by (with_reducible repeat (first | apply Kd.R_alloc | apply Kd.R_drewN | apply Kd.R_drew)); exact Kd.R_mono HO_3.out (fun _ hk => hk.2))); (case aS => exact (below_size bw)); (case aL => have := LMc20.out; omega); intro v445 w25 ho hb hg hat; rw [← Ny444.out] at ho; have n0_ := Aside0.mk (blk_grown (g := gb438) (o := .cells #[.int .i64 (wrap64 (x4_1 + (Int.tmod ((rd_T23 l0 x5_1).f0) 5))), .string ((rd_T23 l0 x5_1).f1), .int .i64 ((rd_T23 l0 x5_1).f2), .string ((rd_T23 l0 x5_1).f3), .string ((rd_T23 l0 x5_1).f4)] 23 (0, 0)) (bk BK438.out) hg (Kd.R_away HO_3.out (fun _ hk => hk.2))); have n1_ := Aside0.mk (hb); have n2_ := Aside0.mk (ho); clear BK438; clear HB; clear HO_3; have BK438 := n0_; have HB := n1_; have HO446 := n2_; clear n0_ n1_ n2_; clear ho hb hg hat; have hcz26_0 := bc5_0 BK438.out; have hcz26_1 := bc5_1 BK438.out; have hcz26_2 := bc5_2 BK438.out; have hcz26_3 := bc5_3 BK438.out; have hcz26_4 := bc5_4 BK438.out; have hfz26_0 := blk_frozen BK438.out 0; have hfz26_1 := blk_frozen BK438.out 1; have hfz26_2 := blk_frozen BK438.out 2; have hfz26_3 := blk_frozen BK438.out 3; have hfz26_4 := blk_frozen BK438.out 4))
         go_roundg k1
         case measure => have := HK1.out; omega
         case rel => exact ⟨(y444), (wrap64 ((wrap64 (x4_1 + (Int.tmod ((rd_T23 l0 x5_1).f0) 5))) + 1)), (wrap64 (x5_1 + 1)), (by first | rfl | (simp; done) | (simp [*]; done)), (by first | rfl | (simp; done) | (simp [*]; done)), H', ⟨by have := HK1.out; omega⟩, ⟨by (with_reducible repeat (first | apply Kd.R_alloc | apply Kd.R_drewN | apply Kd.R_drew)); exact Kd.R_mono HO446.out (fun _ hk => trivial)⟩, ⟨bw⟩⟩
        ·rw [if_neg c20] at H
         exact absurd H (by simp)
       ·replace c19 := Bool.eq_false_iff.mpr c19
        subst c19
        have H1 : (carillonlaw06_rising.l0 k1 l0 x3_1 x4_1 (wrap64 (x5_1 + 1))) = some r := by rw [if_neg (show ¬ (false = true) by decide)] at H; exact H
        clear H
        have H := H1
        clear H1
        have H' := Aside0.mk H
        clear H
        have p437 : 0 ≤ (x5_1 : Int) := of_decide_eq_true (by first | (with_reducible assumption) | assumption)
        have q437 : x5_1 < (l0.length : Int) := of_decide_eq_true (by first | (with_reducible assumption) | assumption)
        obtain ⟨ad437, e437, hx437_0, hx437_1, hx437_2, hx437_3, hx437_4⟩ := at_T23 HR0.out x5_1 p437 q437
        cases e437
        replace hx437_0 := (HB.out.cell (World.block_lt_of_cell? w _ hx437_0)).trans hx437_0
        replace hx437_1 := (HB.out.cell (World.block_lt_of_cell? w _ hx437_1)).trans hx437_1
        replace hx437_2 := (HB.out.cell (World.block_lt_of_cell? w _ hx437_2)).trans hx437_2
        replace hx437_3 := (HB.out.cell (World.block_lt_of_cell? w _ hx437_3)).trans hx437_3
        replace hx437_4 := (HB.out.cell (World.block_lt_of_cell? w _ hx437_4)).trans hx437_4
        replace p437 := eq_true p437
        replace q437 := eq_true q437
        go_wp2_with (first | ((with_reducible refine gate_dst (N := 6) rfl ?_); refine box_event ?hg (N := 6) ?hd (cs := #[.int .i64 0, .string (⟨#[]⟩ : ByteArray), .int .i64 0, .string (⟨#[]⟩ : ByteArray), .string (⟨#[]⟩ : ByteArray)]) (t := 23) ?hr ?_; (case hd => rfl); (case hg => rfl); (case hr => first | (go_simp; done) | (go_simp; rfl)); intro gb438 hg w27 hbox hb; have n0_ := Aside0.mk (Kd.R_below (Kd.R_elderB (by (with_reducible repeat (first | apply Kd.R_alloc | apply Kd.R_drewN | apply Kd.R_drew)); exact HO_3.out) gb438 (Nat.le_of_eq hg.symm)) hb); have n1_ := Aside0.mk (below_step bw hb); have n2_ := Aside0.mk (hbox); have n3_ := Aside0.mk ((g1 hg bw : w.heap.size ≤ gb438)); have n4_ := Aside0.mk ((g1 hg bw : w.heap.size ≤ gb438)); clear HO_3; clear HB; have HO_3 := n0_; have HB := n1_; have BK438 := n2_; have GW438 := n3_; have GE438 := n4_; clear n0_ n1_ n2_ n3_ n4_; clear hb hbox hg; have hcz28_0 := bc5_0 BK438.out; have hcz28_1 := bc5_1 BK438.out; have hcz28_2 := bc5_2 BK438.out; have hcz28_3 := bc5_3 BK438.out; have hcz28_4 := bc5_4 BK438.out; have hfz28_0 := blk_frozen BK438.out 0; have hfz28_1 := blk_frozen BK438.out 1; have hfz28_2 := blk_frozen BK438.out 2; have hfz28_3 := blk_frozen BK438.out 3; have hfz28_4 := blk_frozen BK438.out 4) | ((with_reducible refine gate_callee (f := 12) rfl ?_); refine goesL_ (some 35) rfl rfl Tryd.func12 (by kernel_rfl) rfl #[.agg #[.int .i64 (wrap64 (x4_1 + (Int.tmod ((rd_T23 l0 x5_1).f0) 5))), .string ((rd_T23 l0 x5_1).f1), .int .i64 ((rd_T23 l0 x5_1).f2), .string ((rd_T23 l0 x5_1).f3), .string ((rd_T23 l0 x5_1).f4)]] rfl am ?_; (with_reducible refine (segment_Right.calls (wrap64 (x4_1 + (Int.tmod ((rd_T23 l0 x5_1).f0) 5))) ((rd_T23 l0 x5_1).f1) ((rd_T23 l0 x5_1).f2) ((rd_T23 l0 x5_1).f3) ((rd_T23 l0 x5_1).f4) false _ A18.out).mono ?_); rintro e w29 ⟨rfl, hb⟩; refine ⟨_, rfl, ?_⟩; have n0_ := Aside0.mk (Kd.R_below (by (with_reducible repeat (first | apply Kd.R_alloc | apply Kd.R_drewN | apply Kd.R_drew)); exact (Kd.R_mono (Kd.R_far (p := ⟨gb438, 0, none⟩) (Kd.R_far (p := ⟨gb438, 4, none⟩) (Kd.R_far (p := ⟨gb438, 3, none⟩) (Kd.R_far (p := ⟨gb438, 2, none⟩) (Kd.R_far (p := ⟨gb438, 1, none⟩) (Kd.R_far (p := ⟨gb438, 0, none⟩) (Kd.R_mono HO_3.out (fun k_ hk => (⟨hk, hk.2⟩ : _ ∧ k_ ≠ gb438))) (fun _ hk => hk.2) (.int .i64 ((rd_T23 l0 x5_1).f0))) (fun _ hk => hk.2) (.string ((rd_T23 l0 x5_1).f1))) (fun _ hk => hk.2) (.int .i64 ((rd_T23 l0 x5_1).f2))) (fun _ hk => hk.2) (.string ((rd_T23 l0 x5_1).f3))) (fun _ hk => hk.2) (.string ((rd_T23 l0 x5_1).f4))) (fun _ hk => hk.2) (.int .i64 (wrap64 (x4_1 + (Int.tmod ((rd_T23 l0 x5_1).f0) 5))))) (fun _ h_ => h_.1))) hb); have n1_ := Aside0.mk (blk_below (g := gb438) (o := .cells #[.int .i64 (wrap64 (x4_1 + (Int.tmod ((rd_T23 l0 x5_1).f0) 5))), .string ((rd_T23 l0 x5_1).f1), .int .i64 ((rd_T23 l0 x5_1).f2), .string ((rd_T23 l0 x5_1).f3), .string ((rd_T23 l0 x5_1).f4)] 23 (0, 0)) (by (with_reducible repeat (first | refine blk_drewN ?_ _ | refine blk_drew ?_ | refine blk_alloc ?_ _)); refine blk_put (cs := #[.int .i64 ((rd_T23 l0 x5_1).f0), .string ((rd_T23 l0 x5_1).f1), .int .i64 ((rd_T23 l0 x5_1).f2), .string ((rd_T23 l0 x5_1).f3), .string ((rd_T23 l0 x5_1).f4)]) ?_ 0 _ rfl; (with_reducible repeat (first | refine blk_drewN ?_ _ | refine blk_drew ?_ | refine blk_alloc ?_ _)); refine blk_put (cs := #[.int .i64 ((rd_T23 l0 x5_1).f0), .string ((rd_T23 l0 x5_1).f1), .int .i64 ((rd_T23 l0 x5_1).f2), .string ((rd_T23 l0 x5_1).f3), .string (⟨#[]⟩ : ByteArray)]) ?_ 4 _ rfl; (with_reducible repeat (first | refine blk_drewN ?_ _ | refine blk_drew ?_ | refine blk_alloc ?_ _)); refine blk_put (cs := #[.int .i64 ((rd_T23 l0 x5_1).f0), .string ((rd_T23 l0 x5_1).f1), .int .i64 ((rd_T23 l0 x5_1).f2), .string (⟨#[]⟩ : ByteArray), .string (⟨#[]⟩ : ByteArray)]) ?_ 3 _ rfl; (with_reducible repeat (first | refine blk_drewN ?_ _ | refine blk_drew ?_ | refine blk_alloc ?_ _)); refine blk_put (cs := #[.int .i64 ((rd_T23 l0 x5_1).f0), .string ((rd_T23 l0 x5_1).f1), .int .i64 0, .string (⟨#[]⟩ : ByteArray), .string (⟨#[]⟩ : ByteArray)]) ?_ 2 _ rfl; (with_reducible repeat (first | refine blk_drewN ?_ _ | refine blk_drew ?_ | refine blk_alloc ?_ _)); refine blk_put (cs := #[.int .i64 ((rd_T23 l0 x5_1).f0), .string (⟨#[]⟩ : ByteArray), .int .i64 0, .string (⟨#[]⟩ : ByteArray), .string (⟨#[]⟩ : ByteArray)]) ?_ 1 _ rfl; (with_reducible repeat (first | refine blk_drewN ?_ _ | refine blk_drew ?_ | refine blk_alloc ?_ _)); refine blk_put (cs := #[.int .i64 0, .string (⟨#[]⟩ : ByteArray), .int .i64 0, .string (⟨#[]⟩ : ByteArray), .string (⟨#[]⟩ : ByteArray)]) ?_ 0 _ rfl; (with_reducible repeat (first | refine blk_drewN ?_ _ | refine blk_drew ?_ | refine blk_alloc ?_ _)); exact BK438.out) hb); have n2_ := Aside0.mk (below_step bw hb); clear HO_3; clear BK438; clear HB; have HO_3 := n0_; have BK438 := n1_; have HB := n2_; clear n0_ n1_ n2_; (try clear hb); (try clear hb2); (try clear hk); (try clear hi)))
        go_roundg k1
        case measure => have := HK1.out; omega
        case rel => exact ⟨(x3_1), (x4_1), (wrap64 (x5_1 + 1)), (by first | rfl | (simp; done) | (simp [*]; done)), (by first | rfl | (simp; done) | (simp [*]; done)), H', ⟨by have := HK1.out; omega⟩, ⟨by (with_reducible repeat (first | apply Kd.R_alloc | apply Kd.R_drewN | apply Kd.R_drew)); exact Kd.R_mono HO_3.out (fun _ hk => trivial)⟩, ⟨bw⟩⟩
     ·rw [if_neg c4] at H
      exact absurd H (by simp)
    ·rw [if_neg c3] at H
     have c3b0 : decide (x5_1 < 30) = false := decide_eq_false c3
     clear c3
     obtain rfl := Option.some.inj H
     go_wp2
     go_ret
     exact ⟨_, er, by (with_reducible repeat (first | apply Kd.R_alloc | apply Kd.R_drewN | apply Kd.R_drew)); exact HO_3.out, bw⟩
   ·rw [if_neg c2] at H
    have c2b0 : decide (x5_1 < (l0.length : Int)) = false := decide_eq_false c2
    clear c2
    obtain rfl := Option.some.inj H
    go_wp2
    go_ret
    exact ⟨_, er, by (with_reducible repeat (first | apply Kd.R_alloc | apply Kd.R_drewN | apply Kd.R_drew)); exact HO_3.out, bw⟩

end Go.Proofs.YtmjgifhgodgghaaDoor.P
