-- Printed by this session's program wip/xp.py (a turned copy of the kit's printer): functions, their contracts.
import Derived.Test.YtmjgifhgodgghaaDoorPx0
import Derived.Test.YtmjgifhgodgghaaDoorPx9
import Derived.Test.YtmjgifhgodgghaaDoorPx16
import Derived.Test.YtmjgifhgodgghaaDoorPx18
import Derived.Test.YtmjgifhgodgghaaDoorPx24
namespace Go.Proofs.YtmjgifhgodgghaaDoor.P
open Go.RowKit Go.Proofs.YtmjgifhgodgghaaDoorW.PrintWords Go.Proofs.YtmjgifhgodgghaaDoorW.PrintLast Go.Proofs.YtmjgifhgodgghaaDoorW.PrintMore
attribute [local go_sem] max2_int min2_int max_two min_two max_three min_three max_four min_four   -- for this text's walks alone
set_option linter.unusedVariables false
set_option linter.unusedSimpArgs false

/-! ### carillonlaw06_SegmentBack: function 6 -/
def carillonlaw06_SegmentBack.l0 : Nat → List (S23) → Int → Bool → ByteArray → List Int → Int → Option (Bool)
 | 0, _, _, _, _, _, _ => none
 | k + 1, x0, x1, x5, x6, x7, x12 => if x12 < (x7.length : Int) then (if 0 ≤ x12 then (if (rd x7 x12) ≤ x1 then (carillonlaw06_SegmentBack.l0 k x0 x1 x5 x6 x7 (wrap64 (x12 + 1))) else (if 0 ≤ x1 then (if x1 ≤ (x6.size : Int) then ((segment_Scan.f k 0 (x6.extract 0 (x1 : Int).toNat)).bind fun bt468 => (if x12 ≤ (x0.length : Int) then ((carillonlaw06_records.f k bt468.1 (x0.take (x12 : Int).toNat)).bind fun t477 => (if x5 = true then (if t477 = true then (if ((bt468.2.2 == 0) == (bt468.2.1 == x1)) = true then (if bt468.2.2 = 0 then (some true) else (some (bt468.2.2 == 2))) else (some false)) else (some false)) else (some false))) else (none))) else (none)) else (none))) else (none)) else (if 0 ≤ x1 then (if x1 ≤ (x6.size : Int) then ((segment_Scan.f k 0 (x6.extract 0 (x1 : Int).toNat)).bind fun bt478 => (if 0 ≤ x12 then (if x12 ≤ (x0.length : Int) then ((carillonlaw06_records.f k bt478.1 (x0.take (x12 : Int).toNat)).bind fun t487 => (if x5 = true then (if t487 = true then (if ((bt478.2.2 == 0) == (bt478.2.1 == x1)) = true then (if bt478.2.2 = 0 then (some true) else (some (bt478.2.2 == 2))) else (some false)) else (some false)) else (some false))) else (none)) else (none))) else (none)) else (none))
def carillonlaw06_SegmentBack.f (k : Nat) (l0 : List (S23)) (a1 : Int) : Option (Bool) := (carillonlaw06_examples.f).bind fun t453 => ((carillonlaw06_rising.f k l0).bind fun t454 => ((carillonlaw06_written.f k t454).bind fun bt457 => ((segment_Scan.f k 0 bt457.1).bind fun bt461 => ((carillonlaw06_records.f k bt461.1 t454).bind fun t466 => (if t466 = true then (if bt461.2.1 = (bt457.1.size : Int) then (if bt461.2.2 = 0 then (if a1 < 0 then (if (wrap64 ((bt457.1.size : Int) + 1)) = 0 then (none) else (carillonlaw06_SegmentBack.l0 k t454 (Int.tmod (wrap64 (-(wrap64 (a1 + 1)))) (wrap64 ((bt457.1.size : Int) + 1))) t453 bt457.1 bt457.2 0)) else (if (wrap64 ((bt457.1.size : Int) + 1)) = 0 then (none) else (carillonlaw06_SegmentBack.l0 k t454 (Int.tmod a1 (wrap64 ((bt457.1.size : Int) + 1))) t453 bt457.1 bt457.2 0))) else (some false)) else (some false)) else (some false))))))
theorem carillonlaw06_SegmentBack.mono_l : ∀ k, (∀ y0 y1 y2 y3 y4 y5, LeO (carillonlaw06_SegmentBack.l0 k y0 y1 y2 y3 y4 y5) (carillonlaw06_SegmentBack.l0 (k + 1) y0 y1 y2 y3 y4 y5))
 | 0 => fun _ _ _ _ _ _ r h => by simp [carillonlaw06_SegmentBack.l0] at h
 | k + 1 => by
  have ih0 := carillonlaw06_SegmentBack.mono_l k
  ·intro y0 y1 y2 y3 y4 y5
   unfold carillonlaw06_SegmentBack.l0
   repeat' first
   | (with_reducible exact ih0 _ _ _ _ _ _)
   | (with_reducible exact carillonlaw06_records.mono _ _ _)
   | (with_reducible exact carillonlaw06_rising.mono _ _)
   | (with_reducible exact carillonlaw06_written.mono _ _)
   | (with_reducible exact segment_Scan.mono _ _ _)
   | (with_reducible exact LeO.refl _)
   | (with_reducible exact LeO.none _)
   | (with_reducible refine LeO.ite ?_ ?_)
   | (with_reducible refine LeO.bind ?_ (fun _ => ?_))
   | exact ih0 _ _ _ _ _ _
   | exact carillonlaw06_records.mono _ _ _
   | exact carillonlaw06_rising.mono _ _
   | exact carillonlaw06_written.mono _ _
   | exact segment_Scan.mono _ _ _
   | exact LeO.none _
   | refine LeO.ite ?_ ?_
   | refine LeO.bind ?_ (fun _ => ?_)
theorem carillonlaw06_SegmentBack.mono : ∀ a0 a1 k, LeO (carillonlaw06_SegmentBack.f k a0 a1) (carillonlaw06_SegmentBack.f (k + 1) a0 a1) := by
 intro a0 a1 k
 have ih0 := carillonlaw06_SegmentBack.mono_l k
 unfold carillonlaw06_SegmentBack.f
 repeat' first
   | (with_reducible exact ih0 _ _ _ _ _ _)
   | (with_reducible exact carillonlaw06_records.mono _ _ _)
   | (with_reducible exact carillonlaw06_rising.mono _ _)
   | (with_reducible exact carillonlaw06_written.mono _ _)
   | (with_reducible exact segment_Scan.mono _ _ _)
   | (with_reducible exact LeO.refl _)
   | (with_reducible exact LeO.none _)
   | (with_reducible refine LeO.ite ?_ ?_)
   | (with_reducible refine LeO.bind ?_ (fun _ => ?_))
   | exact ih0 _ _ _ _ _ _
   | exact carillonlaw06_records.mono _ _ _
   | exact carillonlaw06_rising.mono _ _
   | exact carillonlaw06_written.mono _ _
   | exact segment_Scan.mono _ _ _
   | exact LeO.none _
   | refine LeO.ite ?_ ?_
   | refine LeO.bind ?_ (fun _ => ?_)
set_option maxHeartbeats 8000000 in
set_option maxRecDepth 100000 in
theorem carillonlaw06_SegmentBack.calls (k : Nat) (A0 : Option Addr) (c0 : Nat) (l0 : List (S23)) (a1 : Int) (r : Bool) (w : World) (hr0 : Kd.C k23 w A0 l0.length l0) (hc0 : l0.length ≤ c0) (hr_ : Aside0 (r = true)) (HT_ : TabOk w) (h : carillonlaw06_SegmentBack.f k l0 a1 = some r) :
  Calls Tryd.prog 6 #[.slice A0 l0.length c0, .int .i64 a1] w fun e w' => e = .returned (.bool r) ∧ Below w.heap.size w w' := by
 have HT := Aside0.mk HT_
 clear HT_
 have HR0 := Aside0.mk hr0
 have HC0 := Aside0.mk hc0
 clear hr0 hc0
 have HB := Aside0.mk (Below.refl w.heap.size w)
 have H : ((carillonlaw06_examples.f).bind fun t453 => ((carillonlaw06_rising.f k l0).bind fun t454 => ((carillonlaw06_written.f k t454).bind fun bt457 => ((segment_Scan.f k 0 bt457.1).bind fun bt461 => ((carillonlaw06_records.f k bt461.1 t454).bind fun t466 => (if t466 = true then (if bt461.2.1 = (bt457.1.size : Int) then (if bt461.2.2 = 0 then (if a1 < 0 then (if (wrap64 ((bt457.1.size : Int) + 1)) = 0 then (none) else (carillonlaw06_SegmentBack.l0 k t454 (Int.tmod (wrap64 (-(wrap64 (a1 + 1)))) (wrap64 ((bt457.1.size : Int) + 1))) t453 bt457.1 bt457.2 0)) else (if (wrap64 ((bt457.1.size : Int) + 1)) = 0 then (none) else (carillonlaw06_SegmentBack.l0 k t454 (Int.tmod a1 (wrap64 ((bt457.1.size : Int) + 1))) t453 bt457.1 bt457.2 0))) else (some false)) else (some false)) else (some false))))))) = some r := h
 clear h
 replace H := Option.bind_eq_some_iff.mp H
 obtain ⟨t453, A30, H⟩ := H
 replace H : ((carillonlaw06_rising.f k l0).bind fun t454 => ((carillonlaw06_written.f k t454).bind fun bt457 => ((segment_Scan.f k 0 bt457.1).bind fun bt461 => ((carillonlaw06_records.f k bt461.1 t454).bind fun t466 => (if t466 = true then (if bt461.2.1 = (bt457.1.size : Int) then (if bt461.2.2 = 0 then (if a1 < 0 then (if (wrap64 ((bt457.1.size : Int) + 1)) = 0 then (none) else (carillonlaw06_SegmentBack.l0 k t454 (Int.tmod (wrap64 (-(wrap64 (a1 + 1)))) (wrap64 ((bt457.1.size : Int) + 1))) t453 bt457.1 bt457.2 0)) else (if (wrap64 ((bt457.1.size : Int) + 1)) = 0 then (none) else (carillonlaw06_SegmentBack.l0 k t454 (Int.tmod a1 (wrap64 ((bt457.1.size : Int) + 1))) t453 bt457.1 bt457.2 0))) else (some false)) else (some false)) else (some false)))))) = some r := H
 have A3 := Aside0.mk A30
 clear A30
 replace H := Option.bind_eq_some_iff.mp H
 obtain ⟨t454, A40, H⟩ := H
 replace H : ((carillonlaw06_written.f k t454).bind fun bt457 => ((segment_Scan.f k 0 bt457.1).bind fun bt461 => ((carillonlaw06_records.f k bt461.1 t454).bind fun t466 => (if t466 = true then (if bt461.2.1 = (bt457.1.size : Int) then (if bt461.2.2 = 0 then (if a1 < 0 then (if (wrap64 ((bt457.1.size : Int) + 1)) = 0 then (none) else (carillonlaw06_SegmentBack.l0 k t454 (Int.tmod (wrap64 (-(wrap64 (a1 + 1)))) (wrap64 ((bt457.1.size : Int) + 1))) t453 bt457.1 bt457.2 0)) else (if (wrap64 ((bt457.1.size : Int) + 1)) = 0 then (none) else (carillonlaw06_SegmentBack.l0 k t454 (Int.tmod a1 (wrap64 ((bt457.1.size : Int) + 1))) t453 bt457.1 bt457.2 0))) else (some false)) else (some false)) else (some false))))) = some r := H
 have A4 := Aside0.mk A40
 clear A40
 replace H := Option.bind_eq_some_iff.mp H
 obtain ⟨⟨t457, t458⟩, A50, H⟩ := H
 replace H : ((segment_Scan.f k 0 t457).bind fun bt461 => ((carillonlaw06_records.f k bt461.1 t454).bind fun t466 => (if t466 = true then (if bt461.2.1 = (t457.size : Int) then (if bt461.2.2 = 0 then (if a1 < 0 then (if (wrap64 ((t457.size : Int) + 1)) = 0 then (none) else (carillonlaw06_SegmentBack.l0 k t454 (Int.tmod (wrap64 (-(wrap64 (a1 + 1)))) (wrap64 ((t457.size : Int) + 1))) t453 t457 t458 0)) else (if (wrap64 ((t457.size : Int) + 1)) = 0 then (none) else (carillonlaw06_SegmentBack.l0 k t454 (Int.tmod a1 (wrap64 ((t457.size : Int) + 1))) t453 t457 t458 0))) else (some false)) else (some false)) else (some false)))) = some r := H
 have A5 := Aside0.mk A50
 clear A50
 replace H := Option.bind_eq_some_iff.mp H
 obtain ⟨⟨t461, t462, t463⟩, A60, H⟩ := H
 replace H : ((carillonlaw06_records.f k t461 t454).bind fun t466 => (if t466 = true then (if t462 = (t457.size : Int) then (if t463 = 0 then (if a1 < 0 then (if (wrap64 ((t457.size : Int) + 1)) = 0 then (none) else (carillonlaw06_SegmentBack.l0 k t454 (Int.tmod (wrap64 (-(wrap64 (a1 + 1)))) (wrap64 ((t457.size : Int) + 1))) t453 t457 t458 0)) else (if (wrap64 ((t457.size : Int) + 1)) = 0 then (none) else (carillonlaw06_SegmentBack.l0 k t454 (Int.tmod a1 (wrap64 ((t457.size : Int) + 1))) t453 t457 t458 0))) else (some false)) else (some false)) else (some false))) = some r := H
 have A6 := Aside0.mk A60
 clear A60
 replace H := Option.bind_eq_some_iff.mp H
 obtain ⟨t466, A70, H⟩ := H
 replace H : (if t466 = true then (if t462 = (t457.size : Int) then (if t463 = 0 then (if a1 < 0 then (if (wrap64 ((t457.size : Int) + 1)) = 0 then (none) else (carillonlaw06_SegmentBack.l0 k t454 (Int.tmod (wrap64 (-(wrap64 (a1 + 1)))) (wrap64 ((t457.size : Int) + 1))) t453 t457 t458 0)) else (if (wrap64 ((t457.size : Int) + 1)) = 0 then (none) else (carillonlaw06_SegmentBack.l0 k t454 (Int.tmod a1 (wrap64 ((t457.size : Int) + 1))) t453 t457 t458 0))) else (some false)) else (some false)) else (some false)) = some r := H
 have A7 := Aside0.mk A70
 clear A70
 by_cases c8 : t466 = true
 ·subst c8
  have H1 : (if t462 = (t457.size : Int) then (if t463 = 0 then (if a1 < 0 then (if (wrap64 ((t457.size : Int) + 1)) = 0 then (none) else (carillonlaw06_SegmentBack.l0 k t454 (Int.tmod (wrap64 (-(wrap64 (a1 + 1)))) (wrap64 ((t457.size : Int) + 1))) t453 t457 t458 0)) else (if (wrap64 ((t457.size : Int) + 1)) = 0 then (none) else (carillonlaw06_SegmentBack.l0 k t454 (Int.tmod a1 (wrap64 ((t457.size : Int) + 1))) t453 t457 t458 0))) else (some false)) else (some false)) = some r := by rw [if_pos rfl] at H; exact H
  clear H
  have H := H1
  clear H1
  by_cases c9 : t462 = (t457.size : Int)
  ·rw [if_pos c9] at H
   have c9b0 : (t462 == (t457.size : Int)) = true := beq_iff_eq.mpr c9
   have c9b1 : (t462 != (t457.size : Int)) = false := bne_eq_false_iff_eq.mpr c9
   clear c9
   by_cases c10 : t463 = 0
   ·rw [if_pos c10] at H
    have c10b0 : (t463 == 0) = true := beq_iff_eq.mpr c10
    have c10b1 : (t463 != 0) = false := bne_eq_false_iff_eq.mpr c10
    clear c10
    by_cases c11 : a1 < 0
    ·rw [if_pos c11] at H
     have c11b0 : decide (a1 < 0) = true := decide_eq_true c11
     clear c11
     by_cases c12 : (wrap64 ((t457.size : Int) + 1)) = 0
     ·rw [if_pos c12] at H
      exact absurd H (by simp)
     ·rw [if_neg c12] at H
      have c12b0 : ((wrap64 ((t457.size : Int) + 1)) == 0) = false := beq_eq_false_iff_ne.mpr c12
      have c12b1 : ((wrap64 ((t457.size : Int) + 1)) != 0) = true := bne_iff_ne.mpr c12
      have H' := Aside0.mk H
      clear H
      go_enter Tryd.func6, Tryd.ntmps6
      go_wp2_with (first | ((with_reducible refine gate_callee (f := 9) rfl ?_); refine goesL_ (some 17) rfl rfl Tryd.func9 (by kernel_rfl) rfl #[] rfl am ?_; (with_reducible refine (carillonlaw06_examples.calls  t453 _ tbk A3.out).mono ?_); rintro e w13 ⟨rfl, hb⟩; refine ⟨_, rfl, ?_⟩; have n0_ := Aside0.mk (below_step bw hb); clear HB; have HB := n0_; clear n0_; (try clear hb); (try clear hb2); (try clear hk); (try clear hi)) | ((with_reducible refine gate_callee (f := 23) rfl ?_); refine goesL_ (some 19) rfl rfl Tryd.func23 (by kernel_rfl) rfl #[.slice A0 l0.length c0] rfl am ?_; (with_reducible refine (carillonlaw06_rising.calls k _ _ l0 t454 _ ?side1 ?side2 A4.out).mono ?_); (case side1 => repeat (first | exact (Kd.C_below HR0.out HB.out) | (with_reducible refine Kd.C_alloc ?_ _) | (with_reducible refine Kd.C_drewN ?_ _) | (with_reducible refine Kd.C_drew ?_))); (case side2 => exact HC0.out); rintro e w14 ⟨v455, rfl, ho0, hb⟩; refine ⟨_, rfl, ?_⟩; have n0_ := Aside0.mk (Kd.R_lower ho0 (below_size bw)); have n1_ := Aside0.mk (below_step bw hb); clear HB; have HO456 := n0_; have HB := n1_; clear n0_ n1_; (try clear hb); (try clear hb2); (try clear hk); (try clear hi); (try clear ho0); obtain ⟨Ao15, co15, eo15⟩ := Kd.R_slice HO456.out; subst eo15) | ((with_reducible refine gate_callee (f := 24) rfl ?_); refine goesL_ (some 22) rfl rfl Tryd.func24 (by kernel_rfl) rfl #[.slice Ao15 t454.length co15] rfl am ?_; (with_reducible refine (carillonlaw06_written.calls k _ _ t454 t457 t458 _ ?side1 ?side2 tbk A5.out).mono ?_); (case side1 => repeat (first | exact (Kd.R_reads' HO456.out).2.2 | (with_reducible refine Kd.C_alloc ?_ _) | (with_reducible refine Kd.C_drewN ?_ _) | (with_reducible refine Kd.C_drew ?_))); (case side2 => exact (Kd.R_reads' HO456.out).2.1); rintro e w16 ⟨v459, rfl, ho0, hb⟩; refine ⟨_, rfl, ?_⟩; have n0_ := Aside0.mk (Kd.R_below (by (with_reducible repeat (first | apply Kd.R_alloc | apply Kd.R_drewN | apply Kd.R_drew)); exact HO456.out) hb); have n1_ := Aside0.mk (Kd.R_lower ho0 (below_size bw)); have n2_ := Aside0.mk (below_step bw hb); clear HO456; clear HB; have HO456 := n0_; have HO460 := n1_; have HB := n2_; clear n0_ n1_ n2_; (try clear hb); (try clear hb2); (try clear hk); (try clear hi); (try clear ho0)) | ((with_reducible refine gate_callee (f := 15) rfl ?_); refine goesL_ (some 27) rfl rfl Tryd.func15 (by kernel_rfl) rfl #[.int .i64 0, .string t457] rfl am ?_; (with_reducible refine (segment_Scan.calls k 0 t457 t461 t462 t463 _ tbk A6.out).mono ?_); rintro e w17 ⟨v464, rfl, ho0, hb⟩; refine ⟨_, rfl, ?_⟩; have n0_ := Aside0.mk (Kd.R_elder' (by (with_reducible repeat (first | apply Kd.R_alloc | apply Kd.R_drewN | apply Kd.R_drew)); exact HO456.out) (Kd.R_base ho0) hb); have n1_ := Aside0.mk (Kd.R_below (by (with_reducible repeat (first | apply Kd.R_alloc | apply Kd.R_drewN | apply Kd.R_drew)); exact HO460.out) hb); have n2_ := Aside0.mk (Kd.R_lower (Kd.R_new' ho0 (Kd.R_lt (by (with_reducible repeat (first | apply Kd.R_alloc | apply Kd.R_drewN | apply Kd.R_drew)); exact HO456.out))) (below_size bw)); have n3_ := Aside0.mk (below_step bw hb); clear HO456; clear HO460; clear HB; have HO456 := n0_; have HO460 := n1_; have HO465 := n2_; have HB := n3_; clear n0_ n1_ n2_ n3_; (try clear hb); (try clear hb2); (try clear hk); (try clear hi); (try clear ho0); obtain ⟨Ao18, co18, eo18⟩ := Kd.R_slice HO465.out; subst eo18) | ((with_reducible refine gate_callee (f := 16) rfl ?_); refine goesL_ (some 33) rfl rfl Tryd.func16 (by kernel_rfl) rfl #[.slice Ao18 t461.length co18, .slice Ao15 t454.length co15] rfl am ?_; (with_reducible refine (carillonlaw06_records.calls k _ _ t461 _ _ t454 true _ ?side1 ?side2 ?side3 ?side4 A7.out).mono ?_); (case side1 => repeat (first | exact (Kd.R_reads' HO465.out).2.2 | (with_reducible refine Kd.C_alloc ?_ _) | (with_reducible refine Kd.C_drewN ?_ _) | (with_reducible refine Kd.C_drew ?_))); (case side2 => exact (Kd.R_reads' HO465.out).2.1); (case side3 => repeat (first | exact (Kd.R_reads' HO456.out).2.2 | (with_reducible refine Kd.C_alloc ?_ _) | (with_reducible refine Kd.C_drewN ?_ _) | (with_reducible refine Kd.C_drew ?_))); (case side4 => exact (Kd.R_reads' HO456.out).2.1); rintro e w' ⟨rfl, ⟨nd, rfl⟩⟩; refine ⟨_, rfl, ?_⟩))
      go_loopg [12] k (fun kq v12 w' => ∃ (x12_1 : Int), v12 = .int .i64 x12_1 ∧ Aside0 (carillonlaw06_SegmentBack.l0 kq t454 (Int.tmod (wrap64 (-(wrap64 (a1 + 1)))) (wrap64 ((t457.size : Int) + 1))) t453 t457 t458 x12_1 = some r) ∧ Aside0 (kq ≤ k) ∧ Aside0 (Kd.R k23 23 w' w.heap.size (fun _ => True) (.slice Ao15 t454.length co15) t454) ∧ Aside0 (Kd.R (Kd.int .i64) 3 w' w.heap.size (fun _ => True) v459 t458) ∧ Aside0 (Below w.heap.size w w'))
      case atStart => exact ⟨(0), (by first | rfl | (simp; done) | (simp [*]; done)), H', ⟨Nat.le_refl _⟩, ⟨by (with_reducible repeat (first | apply Kd.R_alloc | apply Kd.R_drewN | apply Kd.R_drew)); exact Kd.R_mono HO456.out (fun _ hk => trivial)⟩, ⟨by (with_reducible repeat (first | apply Kd.R_alloc | apply Kd.R_drewN | apply Kd.R_drew)); exact HO460.out⟩, ⟨bw⟩⟩
      case round =>
       clear H'
       try clear c1
       try clear c2
       try clear p2
       try clear c6
       try clear p6
       try clear c8
       try clear c9
       try clear c9b0
       try clear c9b1
       try clear c10
       try clear c10b0
       try clear c10b1
       try clear c11
       try clear c11b0
       try clear c12
       try clear c12b0
       try clear c12b1
       try clear c15
       try clear c16
       obtain ⟨x12_1, rfl, HA, HK1, HO_0, HO_7, HB⟩ := hrel
       cases gk with
       | zero => exact absurd HA.out (by simp [carillonlaw06_SegmentBack.l0])
       | succ k1 =>
        have H := HA.out
        clear HA
        simp only [carillonlaw06_SegmentBack.l0] at H
        by_cases c19 : x12_1 < (t458.length : Int)
        ·rw [if_pos c19] at H
         have c19b0 : decide (x12_1 < (t458.length : Int)) = true := decide_eq_true c19
         clear c19
         by_cases c20 : 0 ≤ x12_1
         ·rw [if_pos c20] at H
          have c20b0 : decide (0 ≤ x12_1) = true := decide_eq_true c20
          clear c20
          by_cases c21 : (rd t458 x12_1) ≤ (Int.tmod (wrap64 (-(wrap64 (a1 + 1)))) (wrap64 ((t457.size : Int) + 1)))
          ·rw [if_pos c21] at H
           have c21b0 : decide ((rd t458 x12_1) ≤ (Int.tmod (wrap64 (-(wrap64 (a1 + 1)))) (wrap64 ((t457.size : Int) + 1)))) = true := decide_eq_true c21
           clear c21
           have H' := Aside0.mk H
           clear H
           obtain ⟨Ao22, co22, eo22⟩ := Kd.R_slice HO_7.out
           subst eo22
           have p467 : 0 ≤ (x12_1 : Int) := of_decide_eq_true (by first | (with_reducible assumption) | assumption)
           have q467 : x12_1 < (t458.length : Int) := of_decide_eq_true (by first | (with_reducible assumption) | assumption)
           obtain ⟨ad467, e467, hx467_0⟩ := Kd.at_int (Kd.R_reads' HO_7.out).2.2 x12_1 p467 q467
           cases e467
           replace p467 := eq_true p467
           replace q467 := eq_true q467
           go_wp2
           go_roundg k1
           case measure => have := HK1.out; omega
           case rel => exact ⟨(wrap64 (x12_1 + 1)), (by first | rfl | (simp; done) | (simp [*]; done)), H', ⟨by have := HK1.out; omega⟩, ⟨by (with_reducible repeat (first | apply Kd.R_alloc | apply Kd.R_drewN | apply Kd.R_drew)); exact HO_0.out⟩, ⟨by (with_reducible repeat (first | apply Kd.R_alloc | apply Kd.R_drewN | apply Kd.R_drew)); exact HO_7.out⟩, ⟨bw⟩⟩
          ·rw [if_neg c21] at H
           have c21b0 : decide ((rd t458 x12_1) ≤ (Int.tmod (wrap64 (-(wrap64 (a1 + 1)))) (wrap64 ((t457.size : Int) + 1)))) = false := decide_eq_false c21
           clear c21
           obtain ⟨ji23, hji23⟩ : ∃ j_ : Int, (Int.tmod (wrap64 (-(wrap64 (a1 + 1)))) (wrap64 ((t457.size : Int) + 1))) = j_ := ⟨_, rfl⟩
           replace H : (if 0 ≤ (ji23) then (if (ji23) ≤ (t457.size : Int) then ((segment_Scan.f k1 0 (t457.extract 0 ((ji23) : Int).toNat)).bind fun bt468 => (if x12_1 ≤ (t454.length : Int) then ((carillonlaw06_records.f k1 bt468.1 (t454.take (x12_1 : Int).toNat)).bind fun t477 => (if t453 = true then (if t477 = true then (if ((bt468.2.2 == 0) == (bt468.2.1 == (ji23))) = true then (if bt468.2.2 = 0 then (some true) else (some (bt468.2.2 == 2))) else (some false)) else (some false)) else (some false))) else (none))) else (none)) else (none)) = some r := by first | (rw [hji23] at H; exact H) | (simp only [hji23] at H ⊢; exact H)
           (try rw [hji23] at c21b0)
           by_cases c24 : 0 ≤ (ji23)
           ·rw [if_pos c24] at H
            have c24b0 := eq_true c24
            have c24b1 : decide (0 ≤ (ji23)) = true := decide_eq_true c24
            clear c24
            by_cases c25 : (ji23) ≤ (t457.size : Int)
            ·rw [if_pos c25] at H
             have c25b0 := eq_true c25
             have c25b1 : decide ((ji23) ≤ (t457.size : Int)) = true := decide_eq_true c25
             clear c25
             replace H := Option.bind_eq_some_iff.mp H
             obtain ⟨⟨t468, t469, t470⟩, A260, H⟩ := H
             replace H : (if x12_1 ≤ (t454.length : Int) then ((carillonlaw06_records.f k1 t468 (t454.take (x12_1 : Int).toNat)).bind fun t477 => (if t453 = true then (if t477 = true then (if ((t470 == 0) == (t469 == (ji23))) = true then (if t470 = 0 then (some true) else (some (t470 == 2))) else (some false)) else (some false)) else (some false))) else (none)) = some r := H
             have A26 := Aside0.mk A260
             clear A260
             have c27b0 := eq_true (of_decide_eq_true (by first | (with_reducible assumption) | assumption) : 0 ≤ x12_1)
             by_cases c28 : x12_1 ≤ (t454.length : Int)
             ·rw [if_pos c28] at H
              have c28b0 := eq_true c28
              have c28b1 : decide (x12_1 ≤ (t454.length : Int)) = true := decide_eq_true c28
              clear c28
              obtain ⟨y473, hy473⟩ : ∃ y_ : List (S23), y_ = (t454.take (x12_1 : Int).toNat) := ⟨_, rfl⟩
              replace H : ((carillonlaw06_records.f k1 t468 y473).bind fun t477 => (if t453 = true then (if t477 = true then (if ((t470 == 0) == (t469 == (ji23))) = true then (if t470 = 0 then (some true) else (some (t470 == 2))) else (some false)) else (some false)) else (some false))) = some r := by first | (rw [hy473]; with_reducible exact H) | (have H2_ := (Option.bind_some _ _).symm.trans H; rw [hy473]; with_reducible exact H2_) | (have H2_ := (Option.bind_some _ _).symm.trans H; with_reducible exact H2_) | with_reducible exact H | (rw [hy473]; exact H) | exact H
              have Ny473 := Aside0.mk hy473
              clear hy473
              replace H := Option.bind_eq_some_iff.mp H
              obtain ⟨t477, A290, H⟩ := H
              replace H : (if t453 = true then (if t477 = true then (if ((t470 == 0) == (t469 == (ji23))) = true then (if t470 = 0 then (some true) else (some (t470 == 2))) else (some false)) else (some false)) else (some false)) = some r := H
              have A29 := Aside0.mk A290
              clear A290
              by_cases c30 : t453 = true
              ·subst c30
               have H1 : (if t477 = true then (if ((t470 == 0) == (t469 == (ji23))) = true then (if t470 = 0 then (some true) else (some (t470 == 2))) else (some false)) else (some false)) = some r := by rw [if_pos rfl] at H; exact H
               clear H
               have H := H1
               clear H1
               by_cases c31 : t477 = true
               ·subst c31
                have H1 : (if ((t470 == 0) == (t469 == (ji23))) = true then (if t470 = 0 then (some true) else (some (t470 == 2))) else (some false)) = some r := by rw [if_pos rfl] at H; exact H
                clear H
                have H := H1
                clear H1
                by_cases c32 : ((t470 == 0) == (t469 == (ji23))) = true
                ·rw [if_pos c32] at H
                 have c32b0 : ((t470 == 0) == (t469 == (ji23))) = true := c32
                 (try (have c32b1 : decide ((t470 == 0) = (t469 == (ji23))) = true := by simpa using c32))
                 (try (have c32b2 : ((t470 == 0) == (t469 == (ji23))) = true := by simpa using c32))
                 clear c32
                 by_cases c33 : t470 = 0
                 ·rw [if_pos c33] at H
                  have c33b0 : (t470 == 0) = true := beq_iff_eq.mpr c33
                  (try simp only [c33b0, Bool.not_true, Bool.not_false, Bool.false_or, Bool.true_or, Bool.true_and, Bool.false_and, Bool.true_beq, Bool.false_beq, beq_true, beq_false] at c32b0)
                  have c33b1 : (t470 != 0) = false := bne_eq_false_iff_eq.mpr c33
                  clear c33
                  obtain rfl := Option.some.inj H
                  obtain ⟨Ao34, co34, eo34⟩ := Kd.R_slice HO_7.out
                  subst eo34
                  have p467 : 0 ≤ (x12_1 : Int) := of_decide_eq_true (by first | (with_reducible assumption) | assumption)
                  have q467 : x12_1 < (t458.length : Int) := of_decide_eq_true (by first | (with_reducible assumption) | assumption)
                  obtain ⟨ad467, e467, hx467_0⟩ := Kd.at_int (Kd.R_reads' HO_7.out).2.2 x12_1 p467 q467
                  cases e467
                  replace p467 := eq_true p467
                  replace q467 := eq_true q467
                  go_wp2_with (first | ((with_reducible refine gate_callee (f := 15) rfl ?_); refine goesL_ (some 74) rfl rfl Tryd.func15 (by kernel_rfl) rfl #[.int .i64 0, .string (t457.extract 0 ((ji23) : Int).toNat)] rfl (by (try simp only [List.map_toArray, List.map_cons, List.map_nil]); first | done | (simp only [hji23]; rfl) | rfl | (simp only [List.length_drop, List.length_take]; rfl)) ?_; (with_reducible refine (segment_Scan.calls k1 0 (t457.extract 0 ((ji23) : Int).toNat) t468 t469 t470 _ tbk A26.out).mono ?_); rintro e w35 ⟨v471, rfl, ho0, hb⟩; refine ⟨_, rfl, ?_⟩; have n0_ := Aside0.mk (Kd.R_elder' (by (with_reducible repeat (first | apply Kd.R_alloc | apply Kd.R_drewN | apply Kd.R_drew)); exact HO_0.out) (Kd.R_base ho0) hb); have n1_ := Aside0.mk (Kd.R_below (by (with_reducible repeat (first | apply Kd.R_alloc | apply Kd.R_drewN | apply Kd.R_drew)); exact HO_7.out) hb); have n2_ := Aside0.mk (Kd.R_lower (Kd.R_new' ho0 (Kd.R_lt (by (with_reducible repeat (first | apply Kd.R_alloc | apply Kd.R_drewN | apply Kd.R_drew)); exact HO_0.out))) (below_size bw)); have n3_ := Aside0.mk (below_step bw hb); clear HO_0; clear HO_7; clear HB; have HO_0 := n0_; have HO_7 := n1_; have HO472 := n2_; have HB := n3_; clear n0_ n1_ n2_ n3_; (try clear hb); (try clear hb2); (try clear hk); (try clear hi); (try clear ho0); have q36 : (x12_1 : Int) ≤ ((t454.length : Int) : Int) := of_decide_eq_true (by first | (with_reducible assumption) | assumption); obtain ⟨i036, hi036, _, hsz36, _⟩ := info_parts info23; have hroom36 : t454.length ≤ co15 := (Kd.R_reads' HO_0.out).2.1; have hC36 : Kd.C k23 _ Ao15 t454.length t454 := (Kd.R_reads' HO_0.out).2.2; have hcut36 := cut_to (P := Tryd.prog) 31 23 .i64 Tryd.underlying31 hi036 Ao15 t454.length co15 x12_1 (of_decide_eq_true (by first | (with_reducible assumption) | assumption)) q36 hroom36; have hr36 := Kd.C_take (m := (x12_1 : Int).toNat) hC36 (by omega); have hy36 : y473.length = (x12_1 : Int).toNat := (by rw [Ny473.out, List.length_take]; omega); rw [← Ny473.out] at hr36; rw [← hy36] at hcut36; have HR476 := Aside0.mk hr36; have HC476 := Aside0.mk (show y473.length ≤ co15 from by omega); clear hr36 hC36 hroom36 hi036 hsz36; have KY36 := Aside0.mk hy36; clear hy36; have KL36 := Aside0.mk (show (x12_1 : Int).toNat ≤ t454.length from by omega); replace q36 := eq_true q36; obtain ⟨Ao37, co37, eo37⟩ := Kd.R_slice HO472.out; subst eo37) | ((with_reducible refine gate_callee (f := 16) rfl ?_); refine goesL_ (some 82) rfl rfl Tryd.func16 (by kernel_rfl) rfl #[.slice Ao37 t468.length co37, .slice Ao15 y473.length co15] rfl am ?_; (with_reducible refine (carillonlaw06_records.calls k1 _ _ t468 _ _ y473 true _ ?side1 ?side2 ?side3 ?side4 A29.out).mono ?_); (case side1 => repeat (first | exact (Kd.R_reads' HO472.out).2.2 | (with_reducible refine Kd.C_alloc ?_ _) | (with_reducible refine Kd.C_drewN ?_ _) | (with_reducible refine Kd.C_drew ?_))); (case side2 => exact (Kd.R_reads' HO472.out).2.1); (case side3 => repeat (first | exact (by repeat (first | (with_reducible exact HR476.out) | (with_reducible refine Kd.C_alloc ?_ _) | (with_reducible refine Kd.C_drewN ?_ _) | (with_reducible refine Kd.C_drew ?_) | exact HR476.out)) | (with_reducible refine Kd.C_alloc ?_ _) | (with_reducible refine Kd.C_drewN ?_ _) | (with_reducible refine Kd.C_drew ?_))); (case side4 => exact HC476.out); rintro e w' ⟨rfl, ⟨nd, rfl⟩⟩; refine ⟨_, rfl, ?_⟩))
                  go_ret
                  exact ⟨by first | rfl | (simp [errW_none, errW_some] <;> rfl) | (simp only [← hji23]; first | rfl | (simp [errW_none, errW_some] <;> rfl)) | (simp [*, errW_none, errW_some] <;> first | rfl | (generalize ByteArray.toList _ = l_; cases l_ <;> rfl)), bw⟩
                 ·rw [if_neg c33] at H
                  have c33b0 : (t470 == 0) = false := beq_eq_false_iff_ne.mpr c33
                  (try simp only [c33b0, Bool.not_true, Bool.not_false, Bool.false_or, Bool.true_or, Bool.true_and, Bool.false_and, Bool.true_beq, Bool.false_beq, beq_true, beq_false] at c32b0)
                  have c33b1 : (t470 != 0) = true := bne_iff_ne.mpr c33
                  obtain rfl := Option.some.inj H
                  obtain ⟨Ao38, co38, eo38⟩ := Kd.R_slice HO_7.out
                  subst eo38
                  have p467 : 0 ≤ (x12_1 : Int) := of_decide_eq_true (by first | (with_reducible assumption) | assumption)
                  have q467 : x12_1 < (t458.length : Int) := of_decide_eq_true (by first | (with_reducible assumption) | assumption)
                  obtain ⟨ad467, e467, hx467_0⟩ := Kd.at_int (Kd.R_reads' HO_7.out).2.2 x12_1 p467 q467
                  cases e467
                  replace p467 := eq_true p467
                  replace q467 := eq_true q467
                  go_wp2_with (first | ((with_reducible refine gate_callee (f := 15) rfl ?_); refine goesL_ (some 74) rfl rfl Tryd.func15 (by kernel_rfl) rfl #[.int .i64 0, .string (t457.extract 0 ((ji23) : Int).toNat)] rfl (by (try simp only [List.map_toArray, List.map_cons, List.map_nil]); first | done | (simp only [hji23]; rfl) | rfl | (simp only [List.length_drop, List.length_take]; rfl)) ?_; (with_reducible refine (segment_Scan.calls k1 0 (t457.extract 0 ((ji23) : Int).toNat) t468 t469 t470 _ tbk A26.out).mono ?_); rintro e w39 ⟨v471, rfl, ho0, hb⟩; refine ⟨_, rfl, ?_⟩; have n0_ := Aside0.mk (Kd.R_elder' (by (with_reducible repeat (first | apply Kd.R_alloc | apply Kd.R_drewN | apply Kd.R_drew)); exact HO_0.out) (Kd.R_base ho0) hb); have n1_ := Aside0.mk (Kd.R_below (by (with_reducible repeat (first | apply Kd.R_alloc | apply Kd.R_drewN | apply Kd.R_drew)); exact HO_7.out) hb); have n2_ := Aside0.mk (Kd.R_lower (Kd.R_new' ho0 (Kd.R_lt (by (with_reducible repeat (first | apply Kd.R_alloc | apply Kd.R_drewN | apply Kd.R_drew)); exact HO_0.out))) (below_size bw)); have n3_ := Aside0.mk (below_step bw hb); clear HO_0; clear HO_7; clear HB; have HO_0 := n0_; have HO_7 := n1_; have HO472 := n2_; have HB := n3_; clear n0_ n1_ n2_ n3_; (try clear hb); (try clear hb2); (try clear hk); (try clear hi); (try clear ho0); have q40 : (x12_1 : Int) ≤ ((t454.length : Int) : Int) := of_decide_eq_true (by first | (with_reducible assumption) | assumption); obtain ⟨i040, hi040, _, hsz40, _⟩ := info_parts info23; have hroom40 : t454.length ≤ co15 := (Kd.R_reads' HO_0.out).2.1; have hC40 : Kd.C k23 _ Ao15 t454.length t454 := (Kd.R_reads' HO_0.out).2.2; have hcut40 := cut_to (P := Tryd.prog) 31 23 .i64 Tryd.underlying31 hi040 Ao15 t454.length co15 x12_1 (of_decide_eq_true (by first | (with_reducible assumption) | assumption)) q40 hroom40; have hr40 := Kd.C_take (m := (x12_1 : Int).toNat) hC40 (by omega); have hy40 : y473.length = (x12_1 : Int).toNat := (by rw [Ny473.out, List.length_take]; omega); rw [← Ny473.out] at hr40; rw [← hy40] at hcut40; have HR476 := Aside0.mk hr40; have HC476 := Aside0.mk (show y473.length ≤ co15 from by omega); clear hr40 hC40 hroom40 hi040 hsz40; have KY40 := Aside0.mk hy40; clear hy40; have KL40 := Aside0.mk (show (x12_1 : Int).toNat ≤ t454.length from by omega); replace q40 := eq_true q40; obtain ⟨Ao41, co41, eo41⟩ := Kd.R_slice HO472.out; subst eo41) | ((with_reducible refine gate_callee (f := 16) rfl ?_); refine goesL_ (some 82) rfl rfl Tryd.func16 (by kernel_rfl) rfl #[.slice Ao41 t468.length co41, .slice Ao15 y473.length co15] rfl am ?_; (with_reducible refine (carillonlaw06_records.calls k1 _ _ t468 _ _ y473 true _ ?side1 ?side2 ?side3 ?side4 A29.out).mono ?_); (case side1 => repeat (first | exact (Kd.R_reads' HO472.out).2.2 | (with_reducible refine Kd.C_alloc ?_ _) | (with_reducible refine Kd.C_drewN ?_ _) | (with_reducible refine Kd.C_drew ?_))); (case side2 => exact (Kd.R_reads' HO472.out).2.1); (case side3 => repeat (first | exact (by repeat (first | (with_reducible exact HR476.out) | (with_reducible refine Kd.C_alloc ?_ _) | (with_reducible refine Kd.C_drewN ?_ _) | (with_reducible refine Kd.C_drew ?_) | exact HR476.out)) | (with_reducible refine Kd.C_alloc ?_ _) | (with_reducible refine Kd.C_drewN ?_ _) | (with_reducible refine Kd.C_drew ?_))); (case side4 => exact HC476.out); rintro e w' ⟨rfl, ⟨nd, rfl⟩⟩; refine ⟨_, rfl, ?_⟩))
                  go_ret
                  exact ⟨by first | rfl | (simp [errW_none, errW_some] <;> rfl) | (simp only [← hji23]; first | rfl | (simp [errW_none, errW_some] <;> rfl)) | (simp [*, errW_none, errW_some] <;> first | rfl | (generalize ByteArray.toList _ = l_; cases l_ <;> rfl)), bw⟩
                ·rw [if_neg c32] at H
                 have c32b0 : ((t470 == 0) == (t469 == (ji23))) = false := by simpa using c32
                 (try (have c32b1 : decide ((t470 == 0) = (t469 == (ji23))) = false := by simpa using c32))
                 (try (have c32b2 : ((t470 == 0) == (t469 == (ji23))) = false := by simpa using c32))
                 (try (have c32b3 : ¬ ((t470 == 0) = (t469 == (ji23))) := by simpa using c32))
                 clear c32
                 exact absurd ((Option.some.inj H).trans hr_.out) (by decide)
               ·replace c31 := Bool.eq_false_iff.mpr c31
                subst c31
                have H1 : (some false) = some r := by rw [if_neg (show ¬ (false = true) by decide)] at H; exact H
                clear H
                have H := H1
                clear H1
                exact absurd ((Option.some.inj H).trans hr_.out) (by decide)
              ·replace c30 := Bool.eq_false_iff.mpr c30
               subst c30
               have H1 : (some false) = some r := by rw [if_neg (show ¬ (false = true) by decide)] at H; exact H
               clear H
               have H := H1
               clear H1
               exact absurd ((Option.some.inj H).trans hr_.out) (by decide)
             ·rw [if_neg c28] at H
              exact absurd H (by simp)
            ·rw [if_neg c25] at H
             exact absurd H (by simp)
           ·rw [if_neg c24] at H
            exact absurd H (by simp)
         ·rw [if_neg c20] at H
          exact absurd H (by simp)
        ·rw [if_neg c19] at H
         have c19b0 : decide (x12_1 < (t458.length : Int)) = false := decide_eq_false c19
         clear c19
         obtain ⟨ji42, hji42⟩ : ∃ j_ : Int, (Int.tmod (wrap64 (-(wrap64 (a1 + 1)))) (wrap64 ((t457.size : Int) + 1))) = j_ := ⟨_, rfl⟩
         replace H : (if 0 ≤ (ji42) then (if (ji42) ≤ (t457.size : Int) then ((segment_Scan.f k1 0 (t457.extract 0 ((ji42) : Int).toNat)).bind fun bt478 => (if 0 ≤ x12_1 then (if x12_1 ≤ (t454.length : Int) then ((carillonlaw06_records.f k1 bt478.1 (t454.take (x12_1 : Int).toNat)).bind fun t487 => (if t453 = true then (if t487 = true then (if ((bt478.2.2 == 0) == (bt478.2.1 == (ji42))) = true then (if bt478.2.2 = 0 then (some true) else (some (bt478.2.2 == 2))) else (some false)) else (some false)) else (some false))) else (none)) else (none))) else (none)) else (none)) = some r := by first | (rw [hji42] at H; exact H) | (simp only [hji42] at H ⊢; exact H)
         by_cases c43 : 0 ≤ (ji42)
         ·rw [if_pos c43] at H
          have c43b0 := eq_true c43
          have c43b1 : decide (0 ≤ (ji42)) = true := decide_eq_true c43
          clear c43
          by_cases c44 : (ji42) ≤ (t457.size : Int)
          ·rw [if_pos c44] at H
           have c44b0 := eq_true c44
           have c44b1 : decide ((ji42) ≤ (t457.size : Int)) = true := decide_eq_true c44
           clear c44
           replace H := Option.bind_eq_some_iff.mp H
           obtain ⟨⟨t478, t479, t480⟩, A450, H⟩ := H
           replace H : (if 0 ≤ x12_1 then (if x12_1 ≤ (t454.length : Int) then ((carillonlaw06_records.f k1 t478 (t454.take (x12_1 : Int).toNat)).bind fun t487 => (if t453 = true then (if t487 = true then (if ((t480 == 0) == (t479 == (ji42))) = true then (if t480 = 0 then (some true) else (some (t480 == 2))) else (some false)) else (some false)) else (some false))) else (none)) else (none)) = some r := H
           have A45 := Aside0.mk A450
           clear A450
           by_cases c46 : 0 ≤ x12_1
           ·rw [if_pos c46] at H
            have c46b0 := eq_true c46
            have c46b1 : decide (0 ≤ x12_1) = true := decide_eq_true c46
            clear c46
            by_cases c47 : x12_1 ≤ (t454.length : Int)
            ·rw [if_pos c47] at H
             have c47b0 := eq_true c47
             have c47b1 : decide (x12_1 ≤ (t454.length : Int)) = true := decide_eq_true c47
             clear c47
             obtain ⟨y483, hy483⟩ : ∃ y_ : List (S23), y_ = (t454.take (x12_1 : Int).toNat) := ⟨_, rfl⟩
             replace H : ((carillonlaw06_records.f k1 t478 y483).bind fun t487 => (if t453 = true then (if t487 = true then (if ((t480 == 0) == (t479 == (ji42))) = true then (if t480 = 0 then (some true) else (some (t480 == 2))) else (some false)) else (some false)) else (some false))) = some r := by first | (rw [hy483]; with_reducible exact H) | (have H2_ := (Option.bind_some _ _).symm.trans H; rw [hy483]; with_reducible exact H2_) | (have H2_ := (Option.bind_some _ _).symm.trans H; with_reducible exact H2_) | with_reducible exact H | (rw [hy483]; exact H) | exact H
             have Ny483 := Aside0.mk hy483
             clear hy483
             replace H := Option.bind_eq_some_iff.mp H
             obtain ⟨t487, A480, H⟩ := H
             replace H : (if t453 = true then (if t487 = true then (if ((t480 == 0) == (t479 == (ji42))) = true then (if t480 = 0 then (some true) else (some (t480 == 2))) else (some false)) else (some false)) else (some false)) = some r := H
             have A48 := Aside0.mk A480
             clear A480
             by_cases c49 : t453 = true
             ·subst c49
              have H1 : (if t487 = true then (if ((t480 == 0) == (t479 == (ji42))) = true then (if t480 = 0 then (some true) else (some (t480 == 2))) else (some false)) else (some false)) = some r := by rw [if_pos rfl] at H; exact H
              clear H
              have H := H1
              clear H1
              by_cases c50 : t487 = true
              ·subst c50
               have H1 : (if ((t480 == 0) == (t479 == (ji42))) = true then (if t480 = 0 then (some true) else (some (t480 == 2))) else (some false)) = some r := by rw [if_pos rfl] at H; exact H
               clear H
               have H := H1
               clear H1
               by_cases c51 : ((t480 == 0) == (t479 == (ji42))) = true
               ·rw [if_pos c51] at H
                have c51b0 : ((t480 == 0) == (t479 == (ji42))) = true := c51
                (try (have c51b1 : decide ((t480 == 0) = (t479 == (ji42))) = true := by simpa using c51))
                (try (have c51b2 : ((t480 == 0) == (t479 == (ji42))) = true := by simpa using c51))
                clear c51
                by_cases c52 : t480 = 0
                ·rw [if_pos c52] at H
                 have c52b0 : (t480 == 0) = true := beq_iff_eq.mpr c52
                 (try simp only [c52b0, Bool.not_true, Bool.not_false, Bool.false_or, Bool.true_or, Bool.true_and, Bool.false_and, Bool.true_beq, Bool.false_beq, beq_true, beq_false] at c51b0)
                 have c52b1 : (t480 != 0) = false := bne_eq_false_iff_eq.mpr c52
                 clear c52
                 obtain rfl := Option.some.inj H
                 obtain ⟨Ao53, co53, eo53⟩ := Kd.R_slice HO_7.out
                 subst eo53
                 go_wp2_with (first | ((with_reducible refine gate_callee (f := 15) rfl ?_); refine goesL_ (some 74) rfl rfl Tryd.func15 (by kernel_rfl) rfl #[.int .i64 0, .string (t457.extract 0 ((ji42) : Int).toNat)] rfl (by (try simp only [List.map_toArray, List.map_cons, List.map_nil]); first | done | (simp only [hji42]; rfl) | rfl | (simp only [List.length_drop, List.length_take]; rfl)) ?_; (with_reducible refine (segment_Scan.calls k1 0 (t457.extract 0 ((ji42) : Int).toNat) t478 t479 t480 _ tbk A45.out).mono ?_); rintro e w54 ⟨v481, rfl, ho0, hb⟩; refine ⟨_, rfl, ?_⟩; have n0_ := Aside0.mk (Kd.R_elder' (by (with_reducible repeat (first | apply Kd.R_alloc | apply Kd.R_drewN | apply Kd.R_drew)); exact HO_0.out) (Kd.R_base ho0) hb); have n1_ := Aside0.mk (Kd.R_below (by (with_reducible repeat (first | apply Kd.R_alloc | apply Kd.R_drewN | apply Kd.R_drew)); exact HO_7.out) hb); have n2_ := Aside0.mk (Kd.R_lower (Kd.R_new' ho0 (Kd.R_lt (by (with_reducible repeat (first | apply Kd.R_alloc | apply Kd.R_drewN | apply Kd.R_drew)); exact HO_0.out))) (below_size bw)); have n3_ := Aside0.mk (below_step bw hb); clear HO_0; clear HO_7; clear HB; have HO_0 := n0_; have HO_7 := n1_; have HO482 := n2_; have HB := n3_; clear n0_ n1_ n2_ n3_; (try clear hb); (try clear hb2); (try clear hk); (try clear hi); (try clear ho0); have q55 : (x12_1 : Int) ≤ ((t454.length : Int) : Int) := of_decide_eq_true (by first | (with_reducible assumption) | assumption); obtain ⟨i055, hi055, _, hsz55, _⟩ := info_parts info23; have hroom55 : t454.length ≤ co15 := (Kd.R_reads' HO_0.out).2.1; have hC55 : Kd.C k23 _ Ao15 t454.length t454 := (Kd.R_reads' HO_0.out).2.2; have hcut55 := cut_to (P := Tryd.prog) 31 23 .i64 Tryd.underlying31 hi055 Ao15 t454.length co15 x12_1 (of_decide_eq_true (by first | (with_reducible assumption) | assumption)) q55 hroom55; have hr55 := Kd.C_take (m := (x12_1 : Int).toNat) hC55 (by omega); have hy55 : y483.length = (x12_1 : Int).toNat := (by rw [Ny483.out, List.length_take]; omega); rw [← Ny483.out] at hr55; rw [← hy55] at hcut55; have HR486 := Aside0.mk hr55; have HC486 := Aside0.mk (show y483.length ≤ co15 from by omega); clear hr55 hC55 hroom55 hi055 hsz55; have KY55 := Aside0.mk hy55; clear hy55; have KL55 := Aside0.mk (show (x12_1 : Int).toNat ≤ t454.length from by omega); replace q55 := eq_true q55; obtain ⟨Ao56, co56, eo56⟩ := Kd.R_slice HO482.out; subst eo56) | ((with_reducible refine gate_callee (f := 16) rfl ?_); refine goesL_ (some 82) rfl rfl Tryd.func16 (by kernel_rfl) rfl #[.slice Ao56 t478.length co56, .slice Ao15 y483.length co15] rfl am ?_; (with_reducible refine (carillonlaw06_records.calls k1 _ _ t478 _ _ y483 true _ ?side1 ?side2 ?side3 ?side4 A48.out).mono ?_); (case side1 => repeat (first | exact (Kd.R_reads' HO482.out).2.2 | (with_reducible refine Kd.C_alloc ?_ _) | (with_reducible refine Kd.C_drewN ?_ _) | (with_reducible refine Kd.C_drew ?_))); (case side2 => exact (Kd.R_reads' HO482.out).2.1); (case side3 => repeat (first | exact (by repeat (first | (with_reducible exact HR486.out) | (with_reducible refine Kd.C_alloc ?_ _) | (with_reducible refine Kd.C_drewN ?_ _) | (with_reducible refine Kd.C_drew ?_) | exact HR486.out)) | (with_reducible refine Kd.C_alloc ?_ _) | (with_reducible refine Kd.C_drewN ?_ _) | (with_reducible refine Kd.C_drew ?_))); (case side4 => exact HC486.out); rintro e w' ⟨rfl, ⟨nd, rfl⟩⟩; refine ⟨_, rfl, ?_⟩))
                 go_ret
                 exact ⟨by first | rfl | (simp [errW_none, errW_some] <;> rfl) | (simp only [← hji42]; first | rfl | (simp [errW_none, errW_some] <;> rfl)) | (simp [*, errW_none, errW_some] <;> first | rfl | (generalize ByteArray.toList _ = l_; cases l_ <;> rfl)), bw⟩
                ·rw [if_neg c52] at H
                 have c52b0 : (t480 == 0) = false := beq_eq_false_iff_ne.mpr c52
                 (try simp only [c52b0, Bool.not_true, Bool.not_false, Bool.false_or, Bool.true_or, Bool.true_and, Bool.false_and, Bool.true_beq, Bool.false_beq, beq_true, beq_false] at c51b0)
                 have c52b1 : (t480 != 0) = true := bne_iff_ne.mpr c52
                 obtain rfl := Option.some.inj H
                 obtain ⟨Ao57, co57, eo57⟩ := Kd.R_slice HO_7.out
                 subst eo57
                 go_wp2_with (first | ((with_reducible refine gate_callee (f := 15) rfl ?_); refine goesL_ (some 74) rfl rfl Tryd.func15 (by kernel_rfl) rfl #[.int .i64 0, .string (t457.extract 0 ((ji42) : Int).toNat)] rfl (by (try simp only [List.map_toArray, List.map_cons, List.map_nil]); first | done | (simp only [hji42]; rfl) | rfl | (simp only [List.length_drop, List.length_take]; rfl)) ?_; (with_reducible refine (segment_Scan.calls k1 0 (t457.extract 0 ((ji42) : Int).toNat) t478 t479 t480 _ tbk A45.out).mono ?_); rintro e w58 ⟨v481, rfl, ho0, hb⟩; refine ⟨_, rfl, ?_⟩; have n0_ := Aside0.mk (Kd.R_elder' (by (with_reducible repeat (first | apply Kd.R_alloc | apply Kd.R_drewN | apply Kd.R_drew)); exact HO_0.out) (Kd.R_base ho0) hb); have n1_ := Aside0.mk (Kd.R_below (by (with_reducible repeat (first | apply Kd.R_alloc | apply Kd.R_drewN | apply Kd.R_drew)); exact HO_7.out) hb); have n2_ := Aside0.mk (Kd.R_lower (Kd.R_new' ho0 (Kd.R_lt (by (with_reducible repeat (first | apply Kd.R_alloc | apply Kd.R_drewN | apply Kd.R_drew)); exact HO_0.out))) (below_size bw)); have n3_ := Aside0.mk (below_step bw hb); clear HO_0; clear HO_7; clear HB; have HO_0 := n0_; have HO_7 := n1_; have HO482 := n2_; have HB := n3_; clear n0_ n1_ n2_ n3_; (try clear hb); (try clear hb2); (try clear hk); (try clear hi); (try clear ho0); have q59 : (x12_1 : Int) ≤ ((t454.length : Int) : Int) := of_decide_eq_true (by first | (with_reducible assumption) | assumption); obtain ⟨i059, hi059, _, hsz59, _⟩ := info_parts info23; have hroom59 : t454.length ≤ co15 := (Kd.R_reads' HO_0.out).2.1; have hC59 : Kd.C k23 _ Ao15 t454.length t454 := (Kd.R_reads' HO_0.out).2.2; have hcut59 := cut_to (P := Tryd.prog) 31 23 .i64 Tryd.underlying31 hi059 Ao15 t454.length co15 x12_1 (of_decide_eq_true (by first | (with_reducible assumption) | assumption)) q59 hroom59; have hr59 := Kd.C_take (m := (x12_1 : Int).toNat) hC59 (by omega); have hy59 : y483.length = (x12_1 : Int).toNat := (by rw [Ny483.out, List.length_take]; omega); rw [← Ny483.out] at hr59; rw [← hy59] at hcut59; have HR486 := Aside0.mk hr59; have HC486 := Aside0.mk (show y483.length ≤ co15 from by omega); clear hr59 hC59 hroom59 hi059 hsz59; have KY59 := Aside0.mk hy59; clear hy59; have KL59 := Aside0.mk (show (x12_1 : Int).toNat ≤ t454.length from by omega); replace q59 := eq_true q59; obtain ⟨Ao60, co60, eo60⟩ := Kd.R_slice HO482.out; subst eo60) | ((with_reducible refine gate_callee (f := 16) rfl ?_); refine goesL_ (some 82) rfl rfl Tryd.func16 (by kernel_rfl) rfl #[.slice Ao60 t478.length co60, .slice Ao15 y483.length co15] rfl am ?_; (with_reducible refine (carillonlaw06_records.calls k1 _ _ t478 _ _ y483 true _ ?side1 ?side2 ?side3 ?side4 A48.out).mono ?_); (case side1 => repeat (first | exact (Kd.R_reads' HO482.out).2.2 | (with_reducible refine Kd.C_alloc ?_ _) | (with_reducible refine Kd.C_drewN ?_ _) | (with_reducible refine Kd.C_drew ?_))); (case side2 => exact (Kd.R_reads' HO482.out).2.1); (case side3 => repeat (first | exact (by repeat (first | (with_reducible exact HR486.out) | (with_reducible refine Kd.C_alloc ?_ _) | (with_reducible refine Kd.C_drewN ?_ _) | (with_reducible refine Kd.C_drew ?_) | exact HR486.out)) | (with_reducible refine Kd.C_alloc ?_ _) | (with_reducible refine Kd.C_drewN ?_ _) | (with_reducible refine Kd.C_drew ?_))); (case side4 => exact HC486.out); rintro e w' ⟨rfl, ⟨nd, rfl⟩⟩; refine ⟨_, rfl, ?_⟩))
                 go_ret
                 exact ⟨by first | rfl | (simp [errW_none, errW_some] <;> rfl) | (simp only [← hji42]; first | rfl | (simp [errW_none, errW_some] <;> rfl)) | (simp [*, errW_none, errW_some] <;> first | rfl | (generalize ByteArray.toList _ = l_; cases l_ <;> rfl)), bw⟩
               ·rw [if_neg c51] at H
                have c51b0 : ((t480 == 0) == (t479 == (ji42))) = false := by simpa using c51
                (try (have c51b1 : decide ((t480 == 0) = (t479 == (ji42))) = false := by simpa using c51))
                (try (have c51b2 : ((t480 == 0) == (t479 == (ji42))) = false := by simpa using c51))
                (try (have c51b3 : ¬ ((t480 == 0) = (t479 == (ji42))) := by simpa using c51))
                clear c51
                exact absurd ((Option.some.inj H).trans hr_.out) (by decide)
              ·replace c50 := Bool.eq_false_iff.mpr c50
               subst c50
               have H1 : (some false) = some r := by rw [if_neg (show ¬ (false = true) by decide)] at H; exact H
               clear H
               have H := H1
               clear H1
               exact absurd ((Option.some.inj H).trans hr_.out) (by decide)
             ·replace c49 := Bool.eq_false_iff.mpr c49
              subst c49
              have H1 : (some false) = some r := by rw [if_neg (show ¬ (false = true) by decide)] at H; exact H
              clear H
              have H := H1
              clear H1
              exact absurd ((Option.some.inj H).trans hr_.out) (by decide)
            ·rw [if_neg c47] at H
             exact absurd H (by simp)
           ·rw [if_neg c46] at H
            exact absurd H (by simp)
          ·rw [if_neg c44] at H
           exact absurd H (by simp)
         ·rw [if_neg c43] at H
          exact absurd H (by simp)
    ·rw [if_neg c11] at H
     have c11b0 : decide (a1 < 0) = false := decide_eq_false c11
     clear c11
     by_cases c61 : (wrap64 ((t457.size : Int) + 1)) = 0
     ·rw [if_pos c61] at H
      exact absurd H (by simp)
     ·rw [if_neg c61] at H
      have c61b0 : ((wrap64 ((t457.size : Int) + 1)) == 0) = false := beq_eq_false_iff_ne.mpr c61
      have c61b1 : ((wrap64 ((t457.size : Int) + 1)) != 0) = true := bne_iff_ne.mpr c61
      have H' := Aside0.mk H
      clear H
      go_enter Tryd.func6, Tryd.ntmps6
      go_wp2_with (first | ((with_reducible refine gate_callee (f := 9) rfl ?_); refine goesL_ (some 17) rfl rfl Tryd.func9 (by kernel_rfl) rfl #[] rfl am ?_; (with_reducible refine (carillonlaw06_examples.calls  t453 _ tbk A3.out).mono ?_); rintro e w62 ⟨rfl, hb⟩; refine ⟨_, rfl, ?_⟩; have n0_ := Aside0.mk (below_step bw hb); clear HB; have HB := n0_; clear n0_; (try clear hb); (try clear hb2); (try clear hk); (try clear hi)) | ((with_reducible refine gate_callee (f := 23) rfl ?_); refine goesL_ (some 19) rfl rfl Tryd.func23 (by kernel_rfl) rfl #[.slice A0 l0.length c0] rfl am ?_; (with_reducible refine (carillonlaw06_rising.calls k _ _ l0 t454 _ ?side1 ?side2 A4.out).mono ?_); (case side1 => repeat (first | exact (Kd.C_below HR0.out HB.out) | (with_reducible refine Kd.C_alloc ?_ _) | (with_reducible refine Kd.C_drewN ?_ _) | (with_reducible refine Kd.C_drew ?_))); (case side2 => exact HC0.out); rintro e w63 ⟨v455, rfl, ho0, hb⟩; refine ⟨_, rfl, ?_⟩; have n0_ := Aside0.mk (Kd.R_lower ho0 (below_size bw)); have n1_ := Aside0.mk (below_step bw hb); clear HB; have HO456 := n0_; have HB := n1_; clear n0_ n1_; (try clear hb); (try clear hb2); (try clear hk); (try clear hi); (try clear ho0); obtain ⟨Ao64, co64, eo64⟩ := Kd.R_slice HO456.out; subst eo64) | ((with_reducible refine gate_callee (f := 24) rfl ?_); refine goesL_ (some 22) rfl rfl Tryd.func24 (by kernel_rfl) rfl #[.slice Ao64 t454.length co64] rfl am ?_; (with_reducible refine (carillonlaw06_written.calls k _ _ t454 t457 t458 _ ?side1 ?side2 tbk A5.out).mono ?_); (case side1 => repeat (first | exact (Kd.R_reads' HO456.out).2.2 | (with_reducible refine Kd.C_alloc ?_ _) | (with_reducible refine Kd.C_drewN ?_ _) | (with_reducible refine Kd.C_drew ?_))); (case side2 => exact (Kd.R_reads' HO456.out).2.1); rintro e w65 ⟨v459, rfl, ho0, hb⟩; refine ⟨_, rfl, ?_⟩; have n0_ := Aside0.mk (Kd.R_below (by (with_reducible repeat (first | apply Kd.R_alloc | apply Kd.R_drewN | apply Kd.R_drew)); exact HO456.out) hb); have n1_ := Aside0.mk (Kd.R_lower ho0 (below_size bw)); have n2_ := Aside0.mk (below_step bw hb); clear HO456; clear HB; have HO456 := n0_; have HO460 := n1_; have HB := n2_; clear n0_ n1_ n2_; (try clear hb); (try clear hb2); (try clear hk); (try clear hi); (try clear ho0)) | ((with_reducible refine gate_callee (f := 15) rfl ?_); refine goesL_ (some 27) rfl rfl Tryd.func15 (by kernel_rfl) rfl #[.int .i64 0, .string t457] rfl am ?_; (with_reducible refine (segment_Scan.calls k 0 t457 t461 t462 t463 _ tbk A6.out).mono ?_); rintro e w66 ⟨v464, rfl, ho0, hb⟩; refine ⟨_, rfl, ?_⟩; have n0_ := Aside0.mk (Kd.R_elder' (by (with_reducible repeat (first | apply Kd.R_alloc | apply Kd.R_drewN | apply Kd.R_drew)); exact HO456.out) (Kd.R_base ho0) hb); have n1_ := Aside0.mk (Kd.R_below (by (with_reducible repeat (first | apply Kd.R_alloc | apply Kd.R_drewN | apply Kd.R_drew)); exact HO460.out) hb); have n2_ := Aside0.mk (Kd.R_lower (Kd.R_new' ho0 (Kd.R_lt (by (with_reducible repeat (first | apply Kd.R_alloc | apply Kd.R_drewN | apply Kd.R_drew)); exact HO456.out))) (below_size bw)); have n3_ := Aside0.mk (below_step bw hb); clear HO456; clear HO460; clear HB; have HO456 := n0_; have HO460 := n1_; have HO465 := n2_; have HB := n3_; clear n0_ n1_ n2_ n3_; (try clear hb); (try clear hb2); (try clear hk); (try clear hi); (try clear ho0); obtain ⟨Ao67, co67, eo67⟩ := Kd.R_slice HO465.out; subst eo67) | ((with_reducible refine gate_callee (f := 16) rfl ?_); refine goesL_ (some 33) rfl rfl Tryd.func16 (by kernel_rfl) rfl #[.slice Ao67 t461.length co67, .slice Ao64 t454.length co64] rfl am ?_; (with_reducible refine (carillonlaw06_records.calls k _ _ t461 _ _ t454 true _ ?side1 ?side2 ?side3 ?side4 A7.out).mono ?_); (case side1 => repeat (first | exact (Kd.R_reads' HO465.out).2.2 | (with_reducible refine Kd.C_alloc ?_ _) | (with_reducible refine Kd.C_drewN ?_ _) | (with_reducible refine Kd.C_drew ?_))); (case side2 => exact (Kd.R_reads' HO465.out).2.1); (case side3 => repeat (first | exact (Kd.R_reads' HO456.out).2.2 | (with_reducible refine Kd.C_alloc ?_ _) | (with_reducible refine Kd.C_drewN ?_ _) | (with_reducible refine Kd.C_drew ?_))); (case side4 => exact (Kd.R_reads' HO456.out).2.1); rintro e w' ⟨rfl, ⟨nd, rfl⟩⟩; refine ⟨_, rfl, ?_⟩))
      go_loopg [12] k (fun kq v12 w' => ∃ (x12_1 : Int), v12 = .int .i64 x12_1 ∧ Aside0 (carillonlaw06_SegmentBack.l0 kq t454 (Int.tmod a1 (wrap64 ((t457.size : Int) + 1))) t453 t457 t458 x12_1 = some r) ∧ Aside0 (kq ≤ k) ∧ Aside0 (Kd.R k23 23 w' w.heap.size (fun _ => True) (.slice Ao64 t454.length co64) t454) ∧ Aside0 (Kd.R (Kd.int .i64) 3 w' w.heap.size (fun _ => True) v459 t458) ∧ Aside0 (Below w.heap.size w w'))
      case atStart => exact ⟨(0), (by first | rfl | (simp; done) | (simp [*]; done)), H', ⟨Nat.le_refl _⟩, ⟨by (with_reducible repeat (first | apply Kd.R_alloc | apply Kd.R_drewN | apply Kd.R_drew)); exact Kd.R_mono HO456.out (fun _ hk => trivial)⟩, ⟨by (with_reducible repeat (first | apply Kd.R_alloc | apply Kd.R_drewN | apply Kd.R_drew)); exact HO460.out⟩, ⟨bw⟩⟩
      case round =>
       clear H'
       try clear c1
       try clear c2
       try clear p2
       try clear c3
       try clear q3
       try clear c4
       try clear p4
       try clear q4
       try clear hx4
       try clear c5
       try clear q5
       try clear c6
       try clear p6
       try clear c8
       try clear c9
       try clear c9b0
       try clear c9b1
       try clear c10
       try clear c10b0
       try clear c10b1
       try clear c11
       try clear c11b0
       try clear c12
       try clear c12b0
       try clear c12b1
       try clear c15
       try clear c16
       try clear c19
       try clear c19b0
       try clear c20
       try clear c20b0
       try clear c21
       try clear c21b0
       try clear c23
       try clear c24
       try clear c24b0
       try clear c24b1
       try clear c25
       try clear c25b0
       try clear c25b1
       try clear c27
       try clear c27b0
       try clear c28
       try clear c28b0
       try clear c28b1
       try clear c30
       try clear c31
       try clear c32
       try clear c32b0
       try clear c32b1
       try clear c32b2
       try clear c33
       try clear c33b0
       try clear c33b1
       try clear q36
       try clear q40
       try clear c43
       try clear c43b0
       try clear c43b1
       try clear c44
       try clear c44b0
       try clear c44b1
       try clear c46
       try clear c46b0
       try clear c46b1
       try clear p46
       try clear q46
       try clear hx46
       try clear c47
       try clear c47b0
       try clear c47b1
       try clear c49
       try clear c50
       try clear c51
       try clear c51b0
       try clear c51b1
       try clear c51b2
       try clear c52
       try clear c52b0
       try clear c52b1
       try clear q55
       try clear q59
       try clear c61
       try clear c61b0
       try clear c61b1
       try clear p64
       try clear hx467_0
       try clear p2
       try clear p467
       try clear p6
       try clear q36
       try clear q40
       try clear q467
       try clear q55
       try clear q59
       obtain ⟨x12_1, rfl, HA, HK1, HO_0, HO_7, HB⟩ := hrel
       cases gk with
       | zero => exact absurd HA.out (by simp [carillonlaw06_SegmentBack.l0])
       | succ k1 =>
        have H := HA.out
        clear HA
        simp only [carillonlaw06_SegmentBack.l0] at H
        by_cases c68 : x12_1 < (t458.length : Int)
        ·rw [if_pos c68] at H
         have c68b0 : decide (x12_1 < (t458.length : Int)) = true := decide_eq_true c68
         clear c68
         by_cases c69 : 0 ≤ x12_1
         ·rw [if_pos c69] at H
          have c69b0 : decide (0 ≤ x12_1) = true := decide_eq_true c69
          clear c69
          by_cases c70 : (rd t458 x12_1) ≤ (Int.tmod a1 (wrap64 ((t457.size : Int) + 1)))
          ·rw [if_pos c70] at H
           have c70b0 : decide ((rd t458 x12_1) ≤ (Int.tmod a1 (wrap64 ((t457.size : Int) + 1)))) = true := decide_eq_true c70
           clear c70
           have H' := Aside0.mk H
           clear H
           obtain ⟨Ao71, co71, eo71⟩ := Kd.R_slice HO_7.out
           subst eo71
           have p467 : 0 ≤ (x12_1 : Int) := of_decide_eq_true (by first | (with_reducible assumption) | assumption)
           have q467 : x12_1 < (t458.length : Int) := of_decide_eq_true (by first | (with_reducible assumption) | assumption)
           obtain ⟨ad467, e467, hx467_0⟩ := Kd.at_int (Kd.R_reads' HO_7.out).2.2 x12_1 p467 q467
           cases e467
           replace p467 := eq_true p467
           replace q467 := eq_true q467
           go_wp2
           go_roundg k1
           case measure => have := HK1.out; omega
           case rel => exact ⟨(wrap64 (x12_1 + 1)), (by first | rfl | (simp; done) | (simp [*]; done)), H', ⟨by have := HK1.out; omega⟩, ⟨by (with_reducible repeat (first | apply Kd.R_alloc | apply Kd.R_drewN | apply Kd.R_drew)); exact HO_0.out⟩, ⟨by (with_reducible repeat (first | apply Kd.R_alloc | apply Kd.R_drewN | apply Kd.R_drew)); exact HO_7.out⟩, ⟨bw⟩⟩
          ·rw [if_neg c70] at H
           have c70b0 : decide ((rd t458 x12_1) ≤ (Int.tmod a1 (wrap64 ((t457.size : Int) + 1)))) = false := decide_eq_false c70
           clear c70
           obtain ⟨ji72, hji72⟩ : ∃ j_ : Int, (Int.tmod a1 (wrap64 ((t457.size : Int) + 1))) = j_ := ⟨_, rfl⟩
           replace H : (if 0 ≤ (ji72) then (if (ji72) ≤ (t457.size : Int) then ((segment_Scan.f k1 0 (t457.extract 0 ((ji72) : Int).toNat)).bind fun bt468 => (if x12_1 ≤ (t454.length : Int) then ((carillonlaw06_records.f k1 bt468.1 (t454.take (x12_1 : Int).toNat)).bind fun t477 => (if t453 = true then (if t477 = true then (if ((bt468.2.2 == 0) == (bt468.2.1 == (ji72))) = true then (if bt468.2.2 = 0 then (some true) else (some (bt468.2.2 == 2))) else (some false)) else (some false)) else (some false))) else (none))) else (none)) else (none)) = some r := by first | (rw [hji72] at H; exact H) | (simp only [hji72] at H ⊢; exact H)
           (try rw [hji72] at c70b0)
           by_cases c73 : 0 ≤ (ji72)
           ·rw [if_pos c73] at H
            have c73b0 := eq_true c73
            have c73b1 : decide (0 ≤ (ji72)) = true := decide_eq_true c73
            clear c73
            by_cases c74 : (ji72) ≤ (t457.size : Int)
            ·rw [if_pos c74] at H
             have c74b0 := eq_true c74
             have c74b1 : decide ((ji72) ≤ (t457.size : Int)) = true := decide_eq_true c74
             clear c74
             replace H := Option.bind_eq_some_iff.mp H
             obtain ⟨⟨t468, t469, t470⟩, A750, H⟩ := H
             replace H : (if x12_1 ≤ (t454.length : Int) then ((carillonlaw06_records.f k1 t468 (t454.take (x12_1 : Int).toNat)).bind fun t477 => (if t453 = true then (if t477 = true then (if ((t470 == 0) == (t469 == (ji72))) = true then (if t470 = 0 then (some true) else (some (t470 == 2))) else (some false)) else (some false)) else (some false))) else (none)) = some r := H
             have A75 := Aside0.mk A750
             clear A750
             have c76b0 := eq_true (of_decide_eq_true (by first | (with_reducible assumption) | assumption) : 0 ≤ x12_1)
             by_cases c77 : x12_1 ≤ (t454.length : Int)
             ·rw [if_pos c77] at H
              have c77b0 := eq_true c77
              have c77b1 : decide (x12_1 ≤ (t454.length : Int)) = true := decide_eq_true c77
              clear c77
              obtain ⟨y473, hy473⟩ : ∃ y_ : List (S23), y_ = (t454.take (x12_1 : Int).toNat) := ⟨_, rfl⟩
              replace H : ((carillonlaw06_records.f k1 t468 y473).bind fun t477 => (if t453 = true then (if t477 = true then (if ((t470 == 0) == (t469 == (ji72))) = true then (if t470 = 0 then (some true) else (some (t470 == 2))) else (some false)) else (some false)) else (some false))) = some r := by first | (rw [hy473]; with_reducible exact H) | (have H2_ := (Option.bind_some _ _).symm.trans H; rw [hy473]; with_reducible exact H2_) | (have H2_ := (Option.bind_some _ _).symm.trans H; with_reducible exact H2_) | with_reducible exact H | (rw [hy473]; exact H) | exact H
              have Ny473 := Aside0.mk hy473
              clear hy473
              replace H := Option.bind_eq_some_iff.mp H
              obtain ⟨t477, A780, H⟩ := H
              replace H : (if t453 = true then (if t477 = true then (if ((t470 == 0) == (t469 == (ji72))) = true then (if t470 = 0 then (some true) else (some (t470 == 2))) else (some false)) else (some false)) else (some false)) = some r := H
              have A78 := Aside0.mk A780
              clear A780
              by_cases c79 : t453 = true
              ·subst c79
               have H1 : (if t477 = true then (if ((t470 == 0) == (t469 == (ji72))) = true then (if t470 = 0 then (some true) else (some (t470 == 2))) else (some false)) else (some false)) = some r := by rw [if_pos rfl] at H; exact H
               clear H
               have H := H1
               clear H1
               by_cases c80 : t477 = true
               ·subst c80
                have H1 : (if ((t470 == 0) == (t469 == (ji72))) = true then (if t470 = 0 then (some true) else (some (t470 == 2))) else (some false)) = some r := by rw [if_pos rfl] at H; exact H
                clear H
                have H := H1
                clear H1
                by_cases c81 : ((t470 == 0) == (t469 == (ji72))) = true
                ·rw [if_pos c81] at H
                 have c81b0 : ((t470 == 0) == (t469 == (ji72))) = true := c81
                 (try (have c81b1 : decide ((t470 == 0) = (t469 == (ji72))) = true := by simpa using c81))
                 (try (have c81b2 : ((t470 == 0) == (t469 == (ji72))) = true := by simpa using c81))
                 clear c81
                 by_cases c82 : t470 = 0
                 ·rw [if_pos c82] at H
                  have c82b0 : (t470 == 0) = true := beq_iff_eq.mpr c82
                  (try simp only [c82b0, Bool.not_true, Bool.not_false, Bool.false_or, Bool.true_or, Bool.true_and, Bool.false_and, Bool.true_beq, Bool.false_beq, beq_true, beq_false] at c32b0)
                  (try simp only [c82b0, Bool.not_true, Bool.not_false, Bool.false_or, Bool.true_or, Bool.true_and, Bool.false_and, Bool.true_beq, Bool.false_beq, beq_true, beq_false] at c32b0)
                  (try simp only [c82b0, Bool.not_true, Bool.not_false, Bool.false_or, Bool.true_or, Bool.true_and, Bool.false_and, Bool.true_beq, Bool.false_beq, beq_true, beq_false] at c81b0)
                  have c82b1 : (t470 != 0) = false := bne_eq_false_iff_eq.mpr c82
                  clear c82
                  obtain rfl := Option.some.inj H
                  obtain ⟨Ao83, co83, eo83⟩ := Kd.R_slice HO_7.out
                  subst eo83
                  have p467 : 0 ≤ (x12_1 : Int) := of_decide_eq_true (by first | (with_reducible assumption) | assumption)
                  have q467 : x12_1 < (t458.length : Int) := of_decide_eq_true (by first | (with_reducible assumption) | assumption)
                  obtain ⟨ad467, e467, hx467_0⟩ := Kd.at_int (Kd.R_reads' HO_7.out).2.2 x12_1 p467 q467
                  cases e467
                  replace p467 := eq_true p467
                  replace q467 := eq_true q467
                  go_wp2_with (first | ((with_reducible refine gate_callee (f := 15) rfl ?_); refine goesL_ (some 74) rfl rfl Tryd.func15 (by kernel_rfl) rfl #[.int .i64 0, .string (t457.extract 0 ((ji72) : Int).toNat)] rfl (by (try simp only [List.map_toArray, List.map_cons, List.map_nil]); first | done | (simp only [hji72]; rfl) | rfl | (simp only [List.length_drop, List.length_take]; rfl)) ?_; (with_reducible refine (segment_Scan.calls k1 0 (t457.extract 0 ((ji72) : Int).toNat) t468 t469 t470 _ tbk A75.out).mono ?_); rintro e w84 ⟨v471, rfl, ho0, hb⟩; refine ⟨_, rfl, ?_⟩; have n0_ := Aside0.mk (Kd.R_elder' (by (with_reducible repeat (first | apply Kd.R_alloc | apply Kd.R_drewN | apply Kd.R_drew)); exact HO_0.out) (Kd.R_base ho0) hb); have n1_ := Aside0.mk (Kd.R_below (by (with_reducible repeat (first | apply Kd.R_alloc | apply Kd.R_drewN | apply Kd.R_drew)); exact HO_7.out) hb); have n2_ := Aside0.mk (Kd.R_lower (Kd.R_new' ho0 (Kd.R_lt (by (with_reducible repeat (first | apply Kd.R_alloc | apply Kd.R_drewN | apply Kd.R_drew)); exact HO_0.out))) (below_size bw)); have n3_ := Aside0.mk (below_step bw hb); clear HO_0; clear HO_7; clear HB; have HO_0 := n0_; have HO_7 := n1_; have HO472 := n2_; have HB := n3_; clear n0_ n1_ n2_ n3_; (try clear hb); (try clear hb2); (try clear hk); (try clear hi); (try clear ho0); have q85 : (x12_1 : Int) ≤ ((t454.length : Int) : Int) := of_decide_eq_true (by first | (with_reducible assumption) | assumption); obtain ⟨i085, hi085, _, hsz85, _⟩ := info_parts info23; have hroom85 : t454.length ≤ co64 := (Kd.R_reads' HO_0.out).2.1; have hC85 : Kd.C k23 _ Ao64 t454.length t454 := (Kd.R_reads' HO_0.out).2.2; have hcut85 := cut_to (P := Tryd.prog) 31 23 .i64 Tryd.underlying31 hi085 Ao64 t454.length co64 x12_1 (of_decide_eq_true (by first | (with_reducible assumption) | assumption)) q85 hroom85; have hr85 := Kd.C_take (m := (x12_1 : Int).toNat) hC85 (by omega); have hy85 : y473.length = (x12_1 : Int).toNat := (by rw [Ny473.out, List.length_take]; omega); rw [← Ny473.out] at hr85; rw [← hy85] at hcut85; have HR476 := Aside0.mk hr85; have HC476 := Aside0.mk (show y473.length ≤ co64 from by omega); clear hr85 hC85 hroom85 hi085 hsz85; have KY85 := Aside0.mk hy85; clear hy85; have KL85 := Aside0.mk (show (x12_1 : Int).toNat ≤ t454.length from by omega); replace q85 := eq_true q85; obtain ⟨Ao86, co86, eo86⟩ := Kd.R_slice HO472.out; subst eo86) | ((with_reducible refine gate_callee (f := 16) rfl ?_); refine goesL_ (some 82) rfl rfl Tryd.func16 (by kernel_rfl) rfl #[.slice Ao86 t468.length co86, .slice Ao64 y473.length co64] rfl am ?_; (with_reducible refine (carillonlaw06_records.calls k1 _ _ t468 _ _ y473 true _ ?side1 ?side2 ?side3 ?side4 A78.out).mono ?_); (case side1 => repeat (first | exact (Kd.R_reads' HO472.out).2.2 | (with_reducible refine Kd.C_alloc ?_ _) | (with_reducible refine Kd.C_drewN ?_ _) | (with_reducible refine Kd.C_drew ?_))); (case side2 => exact (Kd.R_reads' HO472.out).2.1); (case side3 => repeat (first | exact (by repeat (first | (with_reducible exact HR476.out) | (with_reducible refine Kd.C_alloc ?_ _) | (with_reducible refine Kd.C_drewN ?_ _) | (with_reducible refine Kd.C_drew ?_) | exact HR476.out)) | (with_reducible refine Kd.C_alloc ?_ _) | (with_reducible refine Kd.C_drewN ?_ _) | (with_reducible refine Kd.C_drew ?_))); (case side4 => exact HC476.out); rintro e w' ⟨rfl, ⟨nd, rfl⟩⟩; refine ⟨_, rfl, ?_⟩))
                  go_ret
                  exact ⟨by first | rfl | (simp [errW_none, errW_some] <;> rfl) | (simp only [← hji72]; first | rfl | (simp [errW_none, errW_some] <;> rfl)) | (simp [*, errW_none, errW_some] <;> first | rfl | (generalize ByteArray.toList _ = l_; cases l_ <;> rfl)), bw⟩
                 ·rw [if_neg c82] at H
                  have c82b0 : (t470 == 0) = false := beq_eq_false_iff_ne.mpr c82
                  (try simp only [c82b0, Bool.not_true, Bool.not_false, Bool.false_or, Bool.true_or, Bool.true_and, Bool.false_and, Bool.true_beq, Bool.false_beq, beq_true, beq_false] at c32b0)
                  (try simp only [c82b0, Bool.not_true, Bool.not_false, Bool.false_or, Bool.true_or, Bool.true_and, Bool.false_and, Bool.true_beq, Bool.false_beq, beq_true, beq_false] at c32b0)
                  (try simp only [c82b0, Bool.not_true, Bool.not_false, Bool.false_or, Bool.true_or, Bool.true_and, Bool.false_and, Bool.true_beq, Bool.false_beq, beq_true, beq_false] at c81b0)
                  have c82b1 : (t470 != 0) = true := bne_iff_ne.mpr c82
                  obtain rfl := Option.some.inj H
                  obtain ⟨Ao87, co87, eo87⟩ := Kd.R_slice HO_7.out
                  subst eo87
                  have p467 : 0 ≤ (x12_1 : Int) := of_decide_eq_true (by first | (with_reducible assumption) | assumption)
                  have q467 : x12_1 < (t458.length : Int) := of_decide_eq_true (by first | (with_reducible assumption) | assumption)
                  obtain ⟨ad467, e467, hx467_0⟩ := Kd.at_int (Kd.R_reads' HO_7.out).2.2 x12_1 p467 q467
                  cases e467
                  replace p467 := eq_true p467
                  replace q467 := eq_true q467
                  go_wp2_with (first | ((with_reducible refine gate_callee (f := 15) rfl ?_); refine goesL_ (some 74) rfl rfl Tryd.func15 (by kernel_rfl) rfl #[.int .i64 0, .string (t457.extract 0 ((ji72) : Int).toNat)] rfl (by (try simp only [List.map_toArray, List.map_cons, List.map_nil]); first | done | (simp only [hji72]; rfl) | rfl | (simp only [List.length_drop, List.length_take]; rfl)) ?_; (with_reducible refine (segment_Scan.calls k1 0 (t457.extract 0 ((ji72) : Int).toNat) t468 t469 t470 _ tbk A75.out).mono ?_); rintro e w88 ⟨v471, rfl, ho0, hb⟩; refine ⟨_, rfl, ?_⟩; have n0_ := Aside0.mk (Kd.R_elder' (by (with_reducible repeat (first | apply Kd.R_alloc | apply Kd.R_drewN | apply Kd.R_drew)); exact HO_0.out) (Kd.R_base ho0) hb); have n1_ := Aside0.mk (Kd.R_below (by (with_reducible repeat (first | apply Kd.R_alloc | apply Kd.R_drewN | apply Kd.R_drew)); exact HO_7.out) hb); have n2_ := Aside0.mk (Kd.R_lower (Kd.R_new' ho0 (Kd.R_lt (by (with_reducible repeat (first | apply Kd.R_alloc | apply Kd.R_drewN | apply Kd.R_drew)); exact HO_0.out))) (below_size bw)); have n3_ := Aside0.mk (below_step bw hb); clear HO_0; clear HO_7; clear HB; have HO_0 := n0_; have HO_7 := n1_; have HO472 := n2_; have HB := n3_; clear n0_ n1_ n2_ n3_; (try clear hb); (try clear hb2); (try clear hk); (try clear hi); (try clear ho0); have q89 : (x12_1 : Int) ≤ ((t454.length : Int) : Int) := of_decide_eq_true (by first | (with_reducible assumption) | assumption); obtain ⟨i089, hi089, _, hsz89, _⟩ := info_parts info23; have hroom89 : t454.length ≤ co64 := (Kd.R_reads' HO_0.out).2.1; have hC89 : Kd.C k23 _ Ao64 t454.length t454 := (Kd.R_reads' HO_0.out).2.2; have hcut89 := cut_to (P := Tryd.prog) 31 23 .i64 Tryd.underlying31 hi089 Ao64 t454.length co64 x12_1 (of_decide_eq_true (by first | (with_reducible assumption) | assumption)) q89 hroom89; have hr89 := Kd.C_take (m := (x12_1 : Int).toNat) hC89 (by omega); have hy89 : y473.length = (x12_1 : Int).toNat := (by rw [Ny473.out, List.length_take]; omega); rw [← Ny473.out] at hr89; rw [← hy89] at hcut89; have HR476 := Aside0.mk hr89; have HC476 := Aside0.mk (show y473.length ≤ co64 from by omega); clear hr89 hC89 hroom89 hi089 hsz89; have KY89 := Aside0.mk hy89; clear hy89; have KL89 := Aside0.mk (show (x12_1 : Int).toNat ≤ t454.length from by omega); replace q89 := eq_true q89; obtain ⟨Ao90, co90, eo90⟩ := Kd.R_slice HO472.out; subst eo90) | ((with_reducible refine gate_callee (f := 16) rfl ?_); refine goesL_ (some 82) rfl rfl Tryd.func16 (by kernel_rfl) rfl #[.slice Ao90 t468.length co90, .slice Ao64 y473.length co64] rfl am ?_; (with_reducible refine (carillonlaw06_records.calls k1 _ _ t468 _ _ y473 true _ ?side1 ?side2 ?side3 ?side4 A78.out).mono ?_); (case side1 => repeat (first | exact (Kd.R_reads' HO472.out).2.2 | (with_reducible refine Kd.C_alloc ?_ _) | (with_reducible refine Kd.C_drewN ?_ _) | (with_reducible refine Kd.C_drew ?_))); (case side2 => exact (Kd.R_reads' HO472.out).2.1); (case side3 => repeat (first | exact (by repeat (first | (with_reducible exact HR476.out) | (with_reducible refine Kd.C_alloc ?_ _) | (with_reducible refine Kd.C_drewN ?_ _) | (with_reducible refine Kd.C_drew ?_) | exact HR476.out)) | (with_reducible refine Kd.C_alloc ?_ _) | (with_reducible refine Kd.C_drewN ?_ _) | (with_reducible refine Kd.C_drew ?_))); (case side4 => exact HC476.out); rintro e w' ⟨rfl, ⟨nd, rfl⟩⟩; refine ⟨_, rfl, ?_⟩))
                  go_ret
                  exact ⟨by first | rfl | (simp [errW_none, errW_some] <;> rfl) | (simp only [← hji72]; first | rfl | (simp [errW_none, errW_some] <;> rfl)) | (simp [*, errW_none, errW_some] <;> first | rfl | (generalize ByteArray.toList _ = l_; cases l_ <;> rfl)), bw⟩
                ·rw [if_neg c81] at H
                 have c81b0 : ((t470 == 0) == (t469 == (ji72))) = false := by simpa using c81
                 (try (have c81b1 : decide ((t470 == 0) = (t469 == (ji72))) = false := by simpa using c81))
                 (try (have c81b2 : ((t470 == 0) == (t469 == (ji72))) = false := by simpa using c81))
                 (try (have c81b3 : ¬ ((t470 == 0) = (t469 == (ji72))) := by simpa using c81))
                 clear c81
                 exact absurd ((Option.some.inj H).trans hr_.out) (by decide)
               ·replace c80 := Bool.eq_false_iff.mpr c80
                subst c80
                have H1 : (some false) = some r := by rw [if_neg (show ¬ (false = true) by decide)] at H; exact H
                clear H
                have H := H1
                clear H1
                exact absurd ((Option.some.inj H).trans hr_.out) (by decide)
              ·replace c79 := Bool.eq_false_iff.mpr c79
               subst c79
               have H1 : (some false) = some r := by rw [if_neg (show ¬ (false = true) by decide)] at H; exact H
               clear H
               have H := H1
               clear H1
               exact absurd ((Option.some.inj H).trans hr_.out) (by decide)
             ·rw [if_neg c77] at H
              exact absurd H (by simp)
            ·rw [if_neg c74] at H
             exact absurd H (by simp)
           ·rw [if_neg c73] at H
            exact absurd H (by simp)
         ·rw [if_neg c69] at H
          exact absurd H (by simp)
        ·rw [if_neg c68] at H
         have c68b0 : decide (x12_1 < (t458.length : Int)) = false := decide_eq_false c68
         clear c68
         obtain ⟨ji91, hji91⟩ : ∃ j_ : Int, (Int.tmod a1 (wrap64 ((t457.size : Int) + 1))) = j_ := ⟨_, rfl⟩
         replace H : (if 0 ≤ (ji91) then (if (ji91) ≤ (t457.size : Int) then ((segment_Scan.f k1 0 (t457.extract 0 ((ji91) : Int).toNat)).bind fun bt478 => (if 0 ≤ x12_1 then (if x12_1 ≤ (t454.length : Int) then ((carillonlaw06_records.f k1 bt478.1 (t454.take (x12_1 : Int).toNat)).bind fun t487 => (if t453 = true then (if t487 = true then (if ((bt478.2.2 == 0) == (bt478.2.1 == (ji91))) = true then (if bt478.2.2 = 0 then (some true) else (some (bt478.2.2 == 2))) else (some false)) else (some false)) else (some false))) else (none)) else (none))) else (none)) else (none)) = some r := by first | (rw [hji91] at H; exact H) | (simp only [hji91] at H ⊢; exact H)
         by_cases c92 : 0 ≤ (ji91)
         ·rw [if_pos c92] at H
          have c92b0 := eq_true c92
          have c92b1 : decide (0 ≤ (ji91)) = true := decide_eq_true c92
          clear c92
          by_cases c93 : (ji91) ≤ (t457.size : Int)
          ·rw [if_pos c93] at H
           have c93b0 := eq_true c93
           have c93b1 : decide ((ji91) ≤ (t457.size : Int)) = true := decide_eq_true c93
           clear c93
           replace H := Option.bind_eq_some_iff.mp H
           obtain ⟨⟨t478, t479, t480⟩, A940, H⟩ := H
           replace H : (if 0 ≤ x12_1 then (if x12_1 ≤ (t454.length : Int) then ((carillonlaw06_records.f k1 t478 (t454.take (x12_1 : Int).toNat)).bind fun t487 => (if t453 = true then (if t487 = true then (if ((t480 == 0) == (t479 == (ji91))) = true then (if t480 = 0 then (some true) else (some (t480 == 2))) else (some false)) else (some false)) else (some false))) else (none)) else (none)) = some r := H
           have A94 := Aside0.mk A940
           clear A940
           by_cases c95 : 0 ≤ x12_1
           ·rw [if_pos c95] at H
            have c95b0 := eq_true c95
            have c95b1 : decide (0 ≤ x12_1) = true := decide_eq_true c95
            clear c95
            by_cases c96 : x12_1 ≤ (t454.length : Int)
            ·rw [if_pos c96] at H
             have c96b0 := eq_true c96
             have c96b1 : decide (x12_1 ≤ (t454.length : Int)) = true := decide_eq_true c96
             clear c96
             obtain ⟨y483, hy483⟩ : ∃ y_ : List (S23), y_ = (t454.take (x12_1 : Int).toNat) := ⟨_, rfl⟩
             replace H : ((carillonlaw06_records.f k1 t478 y483).bind fun t487 => (if t453 = true then (if t487 = true then (if ((t480 == 0) == (t479 == (ji91))) = true then (if t480 = 0 then (some true) else (some (t480 == 2))) else (some false)) else (some false)) else (some false))) = some r := by first | (rw [hy483]; with_reducible exact H) | (have H2_ := (Option.bind_some _ _).symm.trans H; rw [hy483]; with_reducible exact H2_) | (have H2_ := (Option.bind_some _ _).symm.trans H; with_reducible exact H2_) | with_reducible exact H | (rw [hy483]; exact H) | exact H
             have Ny483 := Aside0.mk hy483
             clear hy483
             replace H := Option.bind_eq_some_iff.mp H
             obtain ⟨t487, A970, H⟩ := H
             replace H : (if t453 = true then (if t487 = true then (if ((t480 == 0) == (t479 == (ji91))) = true then (if t480 = 0 then (some true) else (some (t480 == 2))) else (some false)) else (some false)) else (some false)) = some r := H
             have A97 := Aside0.mk A970
             clear A970
             by_cases c98 : t453 = true
             ·subst c98
              have H1 : (if t487 = true then (if ((t480 == 0) == (t479 == (ji91))) = true then (if t480 = 0 then (some true) else (some (t480 == 2))) else (some false)) else (some false)) = some r := by rw [if_pos rfl] at H; exact H
              clear H
              have H := H1
              clear H1
              by_cases c99 : t487 = true
              ·subst c99
               have H1 : (if ((t480 == 0) == (t479 == (ji91))) = true then (if t480 = 0 then (some true) else (some (t480 == 2))) else (some false)) = some r := by rw [if_pos rfl] at H; exact H
               clear H
               have H := H1
               clear H1
               by_cases c100 : ((t480 == 0) == (t479 == (ji91))) = true
               ·rw [if_pos c100] at H
                have c100b0 : ((t480 == 0) == (t479 == (ji91))) = true := c100
                (try (have c100b1 : decide ((t480 == 0) = (t479 == (ji91))) = true := by simpa using c100))
                (try (have c100b2 : ((t480 == 0) == (t479 == (ji91))) = true := by simpa using c100))
                clear c100
                by_cases c101 : t480 = 0
                ·rw [if_pos c101] at H
                 have c101b0 : (t480 == 0) = true := beq_iff_eq.mpr c101
                 (try simp only [c101b0, Bool.not_true, Bool.not_false, Bool.false_or, Bool.true_or, Bool.true_and, Bool.false_and, Bool.true_beq, Bool.false_beq, beq_true, beq_false] at c51b0)
                 (try simp only [c101b0, Bool.not_true, Bool.not_false, Bool.false_or, Bool.true_or, Bool.true_and, Bool.false_and, Bool.true_beq, Bool.false_beq, beq_true, beq_false] at c51b0)
                 (try simp only [c101b0, Bool.not_true, Bool.not_false, Bool.false_or, Bool.true_or, Bool.true_and, Bool.false_and, Bool.true_beq, Bool.false_beq, beq_true, beq_false] at c100b0)
                 have c101b1 : (t480 != 0) = false := bne_eq_false_iff_eq.mpr c101
                 clear c101
                 obtain rfl := Option.some.inj H
                 obtain ⟨Ao102, co102, eo102⟩ := Kd.R_slice HO_7.out
                 subst eo102
                 go_wp2_with (first | ((with_reducible refine gate_callee (f := 15) rfl ?_); refine goesL_ (some 74) rfl rfl Tryd.func15 (by kernel_rfl) rfl #[.int .i64 0, .string (t457.extract 0 ((ji91) : Int).toNat)] rfl (by (try simp only [List.map_toArray, List.map_cons, List.map_nil]); first | done | (simp only [hji91]; rfl) | rfl | (simp only [List.length_drop, List.length_take]; rfl)) ?_; (with_reducible refine (segment_Scan.calls k1 0 (t457.extract 0 ((ji91) : Int).toNat) t478 t479 t480 _ tbk A94.out).mono ?_); rintro e w103 ⟨v481, rfl, ho0, hb⟩; refine ⟨_, rfl, ?_⟩; have n0_ := Aside0.mk (Kd.R_elder' (by (with_reducible repeat (first | apply Kd.R_alloc | apply Kd.R_drewN | apply Kd.R_drew)); exact HO_0.out) (Kd.R_base ho0) hb); have n1_ := Aside0.mk (Kd.R_below (by (with_reducible repeat (first | apply Kd.R_alloc | apply Kd.R_drewN | apply Kd.R_drew)); exact HO_7.out) hb); have n2_ := Aside0.mk (Kd.R_lower (Kd.R_new' ho0 (Kd.R_lt (by (with_reducible repeat (first | apply Kd.R_alloc | apply Kd.R_drewN | apply Kd.R_drew)); exact HO_0.out))) (below_size bw)); have n3_ := Aside0.mk (below_step bw hb); clear HO_0; clear HO_7; clear HB; have HO_0 := n0_; have HO_7 := n1_; have HO482 := n2_; have HB := n3_; clear n0_ n1_ n2_ n3_; (try clear hb); (try clear hb2); (try clear hk); (try clear hi); (try clear ho0); have q104 : (x12_1 : Int) ≤ ((t454.length : Int) : Int) := of_decide_eq_true (by first | (with_reducible assumption) | assumption); obtain ⟨i0104, hi0104, _, hsz104, _⟩ := info_parts info23; have hroom104 : t454.length ≤ co64 := (Kd.R_reads' HO_0.out).2.1; have hC104 : Kd.C k23 _ Ao64 t454.length t454 := (Kd.R_reads' HO_0.out).2.2; have hcut104 := cut_to (P := Tryd.prog) 31 23 .i64 Tryd.underlying31 hi0104 Ao64 t454.length co64 x12_1 (of_decide_eq_true (by first | (with_reducible assumption) | assumption)) q104 hroom104; have hr104 := Kd.C_take (m := (x12_1 : Int).toNat) hC104 (by omega); have hy104 : y483.length = (x12_1 : Int).toNat := (by rw [Ny483.out, List.length_take]; omega); rw [← Ny483.out] at hr104; rw [← hy104] at hcut104; have HR486 := Aside0.mk hr104; have HC486 := Aside0.mk (show y483.length ≤ co64 from by omega); clear hr104 hC104 hroom104 hi0104 hsz104; have KY104 := Aside0.mk hy104; clear hy104; have KL104 := Aside0.mk (show (x12_1 : Int).toNat ≤ t454.length from by omega); replace q104 := eq_true q104; obtain ⟨Ao105, co105, eo105⟩ := Kd.R_slice HO482.out; subst eo105) | ((with_reducible refine gate_callee (f := 16) rfl ?_); refine goesL_ (some 82) rfl rfl Tryd.func16 (by kernel_rfl) rfl #[.slice Ao105 t478.length co105, .slice Ao64 y483.length co64] rfl am ?_; (with_reducible refine (carillonlaw06_records.calls k1 _ _ t478 _ _ y483 true _ ?side1 ?side2 ?side3 ?side4 A97.out).mono ?_); (case side1 => repeat (first | exact (Kd.R_reads' HO482.out).2.2 | (with_reducible refine Kd.C_alloc ?_ _) | (with_reducible refine Kd.C_drewN ?_ _) | (with_reducible refine Kd.C_drew ?_))); (case side2 => exact (Kd.R_reads' HO482.out).2.1); (case side3 => repeat (first | exact (by repeat (first | (with_reducible exact HR486.out) | (with_reducible refine Kd.C_alloc ?_ _) | (with_reducible refine Kd.C_drewN ?_ _) | (with_reducible refine Kd.C_drew ?_) | exact HR486.out)) | (with_reducible refine Kd.C_alloc ?_ _) | (with_reducible refine Kd.C_drewN ?_ _) | (with_reducible refine Kd.C_drew ?_))); (case side4 => exact HC486.out); rintro e w' ⟨rfl, ⟨nd, rfl⟩⟩; refine ⟨_, rfl, ?_⟩))
                 go_ret
                 exact ⟨by first | rfl | (simp [errW_none, errW_some] <;> rfl) | (simp only [← hji91]; first | rfl | (simp [errW_none, errW_some] <;> rfl)) | (simp [*, errW_none, errW_some] <;> first | rfl | (generalize ByteArray.toList _ = l_; cases l_ <;> rfl)), bw⟩
                ·rw [if_neg c101] at H
                 have c101b0 : (t480 == 0) = false := beq_eq_false_iff_ne.mpr c101
                 (try simp only [c101b0, Bool.not_true, Bool.not_false, Bool.false_or, Bool.true_or, Bool.true_and, Bool.false_and, Bool.true_beq, Bool.false_beq, beq_true, beq_false] at c51b0)
                 (try simp only [c101b0, Bool.not_true, Bool.not_false, Bool.false_or, Bool.true_or, Bool.true_and, Bool.false_and, Bool.true_beq, Bool.false_beq, beq_true, beq_false] at c51b0)
                 (try simp only [c101b0, Bool.not_true, Bool.not_false, Bool.false_or, Bool.true_or, Bool.true_and, Bool.false_and, Bool.true_beq, Bool.false_beq, beq_true, beq_false] at c100b0)
                 have c101b1 : (t480 != 0) = true := bne_iff_ne.mpr c101
                 obtain rfl := Option.some.inj H
                 obtain ⟨Ao106, co106, eo106⟩ := Kd.R_slice HO_7.out
                 subst eo106
                 go_wp2_with (first | ((with_reducible refine gate_callee (f := 15) rfl ?_); refine goesL_ (some 74) rfl rfl Tryd.func15 (by kernel_rfl) rfl #[.int .i64 0, .string (t457.extract 0 ((ji91) : Int).toNat)] rfl (by (try simp only [List.map_toArray, List.map_cons, List.map_nil]); first | done | (simp only [hji91]; rfl) | rfl | (simp only [List.length_drop, List.length_take]; rfl)) ?_; (with_reducible refine (segment_Scan.calls k1 0 (t457.extract 0 ((ji91) : Int).toNat) t478 t479 t480 _ tbk A94.out).mono ?_); rintro e w107 ⟨v481, rfl, ho0, hb⟩; refine ⟨_, rfl, ?_⟩; have n0_ := Aside0.mk (Kd.R_elder' (by (with_reducible repeat (first | apply Kd.R_alloc | apply Kd.R_drewN | apply Kd.R_drew)); exact HO_0.out) (Kd.R_base ho0) hb); have n1_ := Aside0.mk (Kd.R_below (by (with_reducible repeat (first | apply Kd.R_alloc | apply Kd.R_drewN | apply Kd.R_drew)); exact HO_7.out) hb); have n2_ := Aside0.mk (Kd.R_lower (Kd.R_new' ho0 (Kd.R_lt (by (with_reducible repeat (first | apply Kd.R_alloc | apply Kd.R_drewN | apply Kd.R_drew)); exact HO_0.out))) (below_size bw)); have n3_ := Aside0.mk (below_step bw hb); clear HO_0; clear HO_7; clear HB; have HO_0 := n0_; have HO_7 := n1_; have HO482 := n2_; have HB := n3_; clear n0_ n1_ n2_ n3_; (try clear hb); (try clear hb2); (try clear hk); (try clear hi); (try clear ho0); have q108 : (x12_1 : Int) ≤ ((t454.length : Int) : Int) := of_decide_eq_true (by first | (with_reducible assumption) | assumption); obtain ⟨i0108, hi0108, _, hsz108, _⟩ := info_parts info23; have hroom108 : t454.length ≤ co64 := (Kd.R_reads' HO_0.out).2.1; have hC108 : Kd.C k23 _ Ao64 t454.length t454 := (Kd.R_reads' HO_0.out).2.2; have hcut108 := cut_to (P := Tryd.prog) 31 23 .i64 Tryd.underlying31 hi0108 Ao64 t454.length co64 x12_1 (of_decide_eq_true (by first | (with_reducible assumption) | assumption)) q108 hroom108; have hr108 := Kd.C_take (m := (x12_1 : Int).toNat) hC108 (by omega); have hy108 : y483.length = (x12_1 : Int).toNat := (by rw [Ny483.out, List.length_take]; omega); rw [← Ny483.out] at hr108; rw [← hy108] at hcut108; have HR486 := Aside0.mk hr108; have HC486 := Aside0.mk (show y483.length ≤ co64 from by omega); clear hr108 hC108 hroom108 hi0108 hsz108; have KY108 := Aside0.mk hy108; clear hy108; have KL108 := Aside0.mk (show (x12_1 : Int).toNat ≤ t454.length from by omega); replace q108 := eq_true q108; obtain ⟨Ao109, co109, eo109⟩ := Kd.R_slice HO482.out; subst eo109) | ((with_reducible refine gate_callee (f := 16) rfl ?_); refine goesL_ (some 82) rfl rfl Tryd.func16 (by kernel_rfl) rfl #[.slice Ao109 t478.length co109, .slice Ao64 y483.length co64] rfl am ?_; (with_reducible refine (carillonlaw06_records.calls k1 _ _ t478 _ _ y483 true _ ?side1 ?side2 ?side3 ?side4 A97.out).mono ?_); (case side1 => repeat (first | exact (Kd.R_reads' HO482.out).2.2 | (with_reducible refine Kd.C_alloc ?_ _) | (with_reducible refine Kd.C_drewN ?_ _) | (with_reducible refine Kd.C_drew ?_))); (case side2 => exact (Kd.R_reads' HO482.out).2.1); (case side3 => repeat (first | exact (by repeat (first | (with_reducible exact HR486.out) | (with_reducible refine Kd.C_alloc ?_ _) | (with_reducible refine Kd.C_drewN ?_ _) | (with_reducible refine Kd.C_drew ?_) | exact HR486.out)) | (with_reducible refine Kd.C_alloc ?_ _) | (with_reducible refine Kd.C_drewN ?_ _) | (with_reducible refine Kd.C_drew ?_))); (case side4 => exact HC486.out); rintro e w' ⟨rfl, ⟨nd, rfl⟩⟩; refine ⟨_, rfl, ?_⟩))
                 go_ret
                 exact ⟨by first | rfl | (simp [errW_none, errW_some] <;> rfl) | (simp only [← hji91]; first | rfl | (simp [errW_none, errW_some] <;> rfl)) | (simp [*, errW_none, errW_some] <;> first | rfl | (generalize ByteArray.toList _ = l_; cases l_ <;> rfl)), bw⟩
               ·rw [if_neg c100] at H
                have c100b0 : ((t480 == 0) == (t479 == (ji91))) = false := by simpa using c100
                (try (have c100b1 : decide ((t480 == 0) = (t479 == (ji91))) = false := by simpa using c100))
                (try (have c100b2 : ((t480 == 0) == (t479 == (ji91))) = false := by simpa using c100))
                (try (have c100b3 : ¬ ((t480 == 0) = (t479 == (ji91))) := by simpa using c100))
                clear c100
                exact absurd ((Option.some.inj H).trans hr_.out) (by decide)
              ·replace c99 := Bool.eq_false_iff.mpr c99
               subst c99
               have H1 : (some false) = some r := by rw [if_neg (show ¬ (false = true) by decide)] at H; exact H
               clear H
               have H := H1
               clear H1
               exact absurd ((Option.some.inj H).trans hr_.out) (by decide)
             ·replace c98 := Bool.eq_false_iff.mpr c98
              subst c98
              have H1 : (some false) = some r := by rw [if_neg (show ¬ (false = true) by decide)] at H; exact H
              clear H
              have H := H1
              clear H1
              exact absurd ((Option.some.inj H).trans hr_.out) (by decide)
            ·rw [if_neg c96] at H
             exact absurd H (by simp)
           ·rw [if_neg c95] at H
            exact absurd H (by simp)
          ·rw [if_neg c93] at H
           exact absurd H (by simp)
         ·rw [if_neg c92] at H
          exact absurd H (by simp)
   ·rw [if_neg c10] at H
    have c10b0 : (t463 == 0) = false := beq_eq_false_iff_ne.mpr c10
    have c10b1 : (t463 != 0) = true := bne_iff_ne.mpr c10
    exact absurd ((Option.some.inj H).trans hr_.out) (by decide)
  ·rw [if_neg c9] at H
   have c9b0 : (t462 == (t457.size : Int)) = false := beq_eq_false_iff_ne.mpr c9
   have c9b1 : (t462 != (t457.size : Int)) = true := bne_iff_ne.mpr c9
   exact absurd ((Option.some.inj H).trans hr_.out) (by decide)
 ·replace c8 := Bool.eq_false_iff.mpr c8
  subst c8
  have H1 : (some false) = some r := by rw [if_neg (show ¬ (false = true) by decide)] at H; exact H
  clear H
  have H := H1
  clear H1
  exact absurd ((Option.some.inj H).trans hr_.out) (by decide)

end Go.Proofs.YtmjgifhgodgghaaDoor.P
