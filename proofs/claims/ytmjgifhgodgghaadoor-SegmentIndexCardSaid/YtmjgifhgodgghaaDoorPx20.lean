-- Printed by this session's program wip/xp.py (a turned copy of the kit's printer): functions, their contracts.
import Derived.Test.YtmjgifhgodgghaaDoorPx0
import Derived.Test.YtmjgifhgodgghaaDoorPx9
import Derived.Test.YtmjgifhgodgghaaDoorPx16
import Derived.Test.YtmjgifhgodgghaaDoorPx18
import Derived.Test.YtmjgifhgodgghaaDoorPx24
namespace Go.Proofs.YtmjgifhgodgghaaDoor.P
open Go.RowKit Go.Proofs.YtmjgifhgodgghaaDoorW.PrintWords Go.Proofs.YtmjgifhgodgghaaDoorW.PrintLast Go.Proofs.YtmjgifhgodgghaaDoorW.PrintMore
attribute [local go_sem] max2_int min2_int max_two min_two max_three min_three max_four min_four   -- for this text's walks alone
set_option linter.unusedVariables false
set_option linter.unusedSimpArgs false

/-! ### carillonlaw06_SegmentIndex: function 7 -/
def carillonlaw06_SegmentIndex.l0 : Nat → List (S23) → Int → Int → Bool → Int → List (S23) → Bool → List (S23) → Int → Option (Bool)
 | 0, _, _, _, _, _, _, _, _, _ => none
 | k + 1, x0, x2, x3, x9, x13, x14, x16, x17, x18 => if x18 < (x0.length : Int) then (if (x17.length : Int) < x3 then (if 0 ≤ x18 then (if ((rd_T23 x0 x18).f0) ≥ x2 then (if x17.length < 2199023255552 then (carillonlaw06_SegmentIndex.l0 k x0 x2 x3 x9 x13 x14 x16 (x17 ++ [(⟨(rd_T23 x0 x18).f0, (rd_T23 x0 x18).f1, (rd_T23 x0 x18).f2, (rd_T23 x0 x18).f3, (rd_T23 x0 x18).f4⟩ : S23)]) (wrap64 (x18 + 1))) else (none)) else (carillonlaw06_SegmentIndex.l0 k x0 x2 x3 x9 x13 x14 x16 x17 (wrap64 (x18 + 1)))) else (none)) else ((carillonlaw06_records.f k x14 x17).bind fun t512 => (if x9 = true then (if x13 = 0 then (if x16 = true then (some t512) else (some false)) else (some false)) else (some false)))) else ((carillonlaw06_records.f k x14 x17).bind fun t513 => (if x9 = true then (if x13 = 0 then (if x16 = true then (some t513) else (some false)) else (some false)) else (some false)))
def carillonlaw06_SegmentIndex.f (k : Nat) (l0 : List (S23)) (a1 : Int) (a2 : Int) (a3 : Int) : Option (Bool) := (carillonlaw06_examples.f).bind fun t488 => ((carillonlaw06_rising.f k l0).bind fun t489 => ((carillonlaw06_written.f k t489).bind fun bt492 => (if a1 < 0 then ((segment_Index.f k 0 bt492.1 (wrap64 (1 + (Int.tmod (wrap64 (-(wrap64 (a1 + 1)))) 10)))).bind fun bt496 => ((segment_From.f k 0 bt492.1 bt496.1 a2 a3).bind fun t500 => ((segment_From.f k 0 bt492.1 ([] : List (S44)) a2 a3).bind fun t503 => ((carillonlaw06_records.f k t500 t503).bind fun t506 => (carillonlaw06_SegmentIndex.l0 k t489 a2 a3 t488 bt496.2 t500 t506 ([] : List (S23)) 0))))) else ((segment_Index.f k 0 bt492.1 (wrap64 (1 + (Int.tmod a1 10)))).bind fun bt514 => ((segment_From.f k 0 bt492.1 bt514.1 a2 a3).bind fun t518 => ((segment_From.f k 0 bt492.1 ([] : List (S44)) a2 a3).bind fun t521 => ((carillonlaw06_records.f k t518 t521).bind fun t524 => (carillonlaw06_SegmentIndex.l0 k t489 a2 a3 t488 bt514.2 t518 t524 ([] : List (S23)) 0))))))))
theorem carillonlaw06_SegmentIndex.mono_l : ∀ k, (∀ y0 y1 y2 y3 y4 y5 y6 y7 y8, LeO (carillonlaw06_SegmentIndex.l0 k y0 y1 y2 y3 y4 y5 y6 y7 y8) (carillonlaw06_SegmentIndex.l0 (k + 1) y0 y1 y2 y3 y4 y5 y6 y7 y8))
 | 0 => fun _ _ _ _ _ _ _ _ _ r h => by simp [carillonlaw06_SegmentIndex.l0] at h
 | k + 1 => by
  have ih0 := carillonlaw06_SegmentIndex.mono_l k
  ·intro y0 y1 y2 y3 y4 y5 y6 y7 y8
   unfold carillonlaw06_SegmentIndex.l0
   repeat' first
   | (with_reducible exact ih0 _ _ _ _ _ _ _ _ _)
   | (with_reducible exact carillonlaw06_records.mono _ _ _)
   | (with_reducible exact carillonlaw06_rising.mono _ _)
   | (with_reducible exact carillonlaw06_written.mono _ _)
   | (with_reducible exact segment_From.mono _ _ _ _ _ _)
   | (with_reducible exact segment_Index.mono _ _ _ _)
   | (with_reducible exact LeO.refl _)
   | (with_reducible exact LeO.none _)
   | (with_reducible refine LeO.ite ?_ ?_)
   | (with_reducible refine LeO.bind ?_ (fun _ => ?_))
   | exact ih0 _ _ _ _ _ _ _ _ _
   | exact carillonlaw06_records.mono _ _ _
   | exact carillonlaw06_rising.mono _ _
   | exact carillonlaw06_written.mono _ _
   | exact segment_From.mono _ _ _ _ _ _
   | exact segment_Index.mono _ _ _ _
   | exact LeO.none _
   | refine LeO.ite ?_ ?_
   | refine LeO.bind ?_ (fun _ => ?_)
theorem carillonlaw06_SegmentIndex.mono : ∀ a0 a1 a2 a3 k, LeO (carillonlaw06_SegmentIndex.f k a0 a1 a2 a3) (carillonlaw06_SegmentIndex.f (k + 1) a0 a1 a2 a3) := by
 intro a0 a1 a2 a3 k
 have ih0 := carillonlaw06_SegmentIndex.mono_l k
 unfold carillonlaw06_SegmentIndex.f
 repeat' first
   | (with_reducible exact ih0 _ _ _ _ _ _ _ _ _)
   | (with_reducible exact carillonlaw06_records.mono _ _ _)
   | (with_reducible exact carillonlaw06_rising.mono _ _)
   | (with_reducible exact carillonlaw06_written.mono _ _)
   | (with_reducible exact segment_From.mono _ _ _ _ _ _)
   | (with_reducible exact segment_Index.mono _ _ _ _)
   | (with_reducible exact LeO.refl _)
   | (with_reducible exact LeO.none _)
   | (with_reducible refine LeO.ite ?_ ?_)
   | (with_reducible refine LeO.bind ?_ (fun _ => ?_))
   | exact ih0 _ _ _ _ _ _ _ _ _
   | exact carillonlaw06_records.mono _ _ _
   | exact carillonlaw06_rising.mono _ _
   | exact carillonlaw06_written.mono _ _
   | exact segment_From.mono _ _ _ _ _ _
   | exact segment_Index.mono _ _ _ _
   | exact LeO.none _
   | refine LeO.ite ?_ ?_
   | refine LeO.bind ?_ (fun _ => ?_)
set_option maxHeartbeats 8000000 in
set_option maxRecDepth 100000 in
theorem carillonlaw06_SegmentIndex.calls (k : Nat) (A0 : Option Addr) (c0 : Nat) (l0 : List (S23)) (a1 : Int) (a2 : Int) (a3 : Int) (r : Bool) (w : World) (hr0 : Kd.C k23 w A0 l0.length l0) (hc0 : l0.length ≤ c0) (hr_ : Aside0 (r = true)) (HT_ : TabOk w) (h : carillonlaw06_SegmentIndex.f k l0 a1 a2 a3 = some r) :
  Calls Tryd.prog 7 #[.slice A0 l0.length c0, .int .i64 a1, .int .i64 a2, .int .i64 a3] w fun e w' => e = .returned (.bool r) ∧ Below w.heap.size w w' := by
 have HT := Aside0.mk HT_
 clear HT_
 have hu23 := Tryd.underlying23
 have HR0 := Aside0.mk hr0
 have HC0 := Aside0.mk hc0
 clear hr0 hc0
 have HB := Aside0.mk (Below.refl w.heap.size w)
 have H : ((carillonlaw06_examples.f).bind fun t488 => ((carillonlaw06_rising.f k l0).bind fun t489 => ((carillonlaw06_written.f k t489).bind fun bt492 => (if a1 < 0 then ((segment_Index.f k 0 bt492.1 (wrap64 (1 + (Int.tmod (wrap64 (-(wrap64 (a1 + 1)))) 10)))).bind fun bt496 => ((segment_From.f k 0 bt492.1 bt496.1 a2 a3).bind fun t500 => ((segment_From.f k 0 bt492.1 ([] : List (S44)) a2 a3).bind fun t503 => ((carillonlaw06_records.f k t500 t503).bind fun t506 => (carillonlaw06_SegmentIndex.l0 k t489 a2 a3 t488 bt496.2 t500 t506 ([] : List (S23)) 0))))) else ((segment_Index.f k 0 bt492.1 (wrap64 (1 + (Int.tmod a1 10)))).bind fun bt514 => ((segment_From.f k 0 bt492.1 bt514.1 a2 a3).bind fun t518 => ((segment_From.f k 0 bt492.1 ([] : List (S44)) a2 a3).bind fun t521 => ((carillonlaw06_records.f k t518 t521).bind fun t524 => (carillonlaw06_SegmentIndex.l0 k t489 a2 a3 t488 bt514.2 t518 t524 ([] : List (S23)) 0))))))))) = some r := h
 clear h
 replace H := Option.bind_eq_some_iff.mp H
 obtain ⟨t488, A50, H⟩ := H
 replace H : ((carillonlaw06_rising.f k l0).bind fun t489 => ((carillonlaw06_written.f k t489).bind fun bt492 => (if a1 < 0 then ((segment_Index.f k 0 bt492.1 (wrap64 (1 + (Int.tmod (wrap64 (-(wrap64 (a1 + 1)))) 10)))).bind fun bt496 => ((segment_From.f k 0 bt492.1 bt496.1 a2 a3).bind fun t500 => ((segment_From.f k 0 bt492.1 ([] : List (S44)) a2 a3).bind fun t503 => ((carillonlaw06_records.f k t500 t503).bind fun t506 => (carillonlaw06_SegmentIndex.l0 k t489 a2 a3 t488 bt496.2 t500 t506 ([] : List (S23)) 0))))) else ((segment_Index.f k 0 bt492.1 (wrap64 (1 + (Int.tmod a1 10)))).bind fun bt514 => ((segment_From.f k 0 bt492.1 bt514.1 a2 a3).bind fun t518 => ((segment_From.f k 0 bt492.1 ([] : List (S44)) a2 a3).bind fun t521 => ((carillonlaw06_records.f k t518 t521).bind fun t524 => (carillonlaw06_SegmentIndex.l0 k t489 a2 a3 t488 bt514.2 t518 t524 ([] : List (S23)) 0)))))))) = some r := H
 have A5 := Aside0.mk A50
 clear A50
 replace H := Option.bind_eq_some_iff.mp H
 obtain ⟨t489, A60, H⟩ := H
 replace H : ((carillonlaw06_written.f k t489).bind fun bt492 => (if a1 < 0 then ((segment_Index.f k 0 bt492.1 (wrap64 (1 + (Int.tmod (wrap64 (-(wrap64 (a1 + 1)))) 10)))).bind fun bt496 => ((segment_From.f k 0 bt492.1 bt496.1 a2 a3).bind fun t500 => ((segment_From.f k 0 bt492.1 ([] : List (S44)) a2 a3).bind fun t503 => ((carillonlaw06_records.f k t500 t503).bind fun t506 => (carillonlaw06_SegmentIndex.l0 k t489 a2 a3 t488 bt496.2 t500 t506 ([] : List (S23)) 0))))) else ((segment_Index.f k 0 bt492.1 (wrap64 (1 + (Int.tmod a1 10)))).bind fun bt514 => ((segment_From.f k 0 bt492.1 bt514.1 a2 a3).bind fun t518 => ((segment_From.f k 0 bt492.1 ([] : List (S44)) a2 a3).bind fun t521 => ((carillonlaw06_records.f k t518 t521).bind fun t524 => (carillonlaw06_SegmentIndex.l0 k t489 a2 a3 t488 bt514.2 t518 t524 ([] : List (S23)) 0))))))) = some r := H
 have A6 := Aside0.mk A60
 clear A60
 replace H := Option.bind_eq_some_iff.mp H
 obtain ⟨⟨t492, t493⟩, A70, H⟩ := H
 replace H : (if a1 < 0 then ((segment_Index.f k 0 t492 (wrap64 (1 + (Int.tmod (wrap64 (-(wrap64 (a1 + 1)))) 10)))).bind fun bt496 => ((segment_From.f k 0 t492 bt496.1 a2 a3).bind fun t500 => ((segment_From.f k 0 t492 ([] : List (S44)) a2 a3).bind fun t503 => ((carillonlaw06_records.f k t500 t503).bind fun t506 => (carillonlaw06_SegmentIndex.l0 k t489 a2 a3 t488 bt496.2 t500 t506 ([] : List (S23)) 0))))) else ((segment_Index.f k 0 t492 (wrap64 (1 + (Int.tmod a1 10)))).bind fun bt514 => ((segment_From.f k 0 t492 bt514.1 a2 a3).bind fun t518 => ((segment_From.f k 0 t492 ([] : List (S44)) a2 a3).bind fun t521 => ((carillonlaw06_records.f k t518 t521).bind fun t524 => (carillonlaw06_SegmentIndex.l0 k t489 a2 a3 t488 bt514.2 t518 t524 ([] : List (S23)) 0)))))) = some r := H
 have A7 := Aside0.mk A70
 clear A70
 by_cases c8 : a1 < 0
 ·rw [if_pos c8] at H
  have c8b0 : decide (a1 < 0) = true := decide_eq_true c8
  clear c8
  replace H := Option.bind_eq_some_iff.mp H
  obtain ⟨⟨t496, t497⟩, A90, H⟩ := H
  replace H : ((segment_From.f k 0 t492 t496 a2 a3).bind fun t500 => ((segment_From.f k 0 t492 ([] : List (S44)) a2 a3).bind fun t503 => ((carillonlaw06_records.f k t500 t503).bind fun t506 => (carillonlaw06_SegmentIndex.l0 k t489 a2 a3 t488 t497 t500 t506 ([] : List (S23)) 0)))) = some r := H
  have A9 := Aside0.mk A90
  clear A90
  replace H := Option.bind_eq_some_iff.mp H
  obtain ⟨t500, A100, H⟩ := H
  replace H : ((segment_From.f k 0 t492 ([] : List (S44)) a2 a3).bind fun t503 => ((carillonlaw06_records.f k t500 t503).bind fun t506 => (carillonlaw06_SegmentIndex.l0 k t489 a2 a3 t488 t497 t500 t506 ([] : List (S23)) 0))) = some r := H
  have A10 := Aside0.mk A100
  clear A100
  replace H := Option.bind_eq_some_iff.mp H
  obtain ⟨t503, A110, H⟩ := H
  replace H : ((carillonlaw06_records.f k t500 t503).bind fun t506 => (carillonlaw06_SegmentIndex.l0 k t489 a2 a3 t488 t497 t500 t506 ([] : List (S23)) 0)) = some r := H
  have A11 := Aside0.mk A110
  clear A110
  replace H := Option.bind_eq_some_iff.mp H
  obtain ⟨t506, A120, H⟩ := H
  replace H : (carillonlaw06_SegmentIndex.l0 k t489 a2 a3 t488 t497 t500 t506 ([] : List (S23)) 0) = some r := H
  have A12 := Aside0.mk A120
  clear A120
  have H' := Aside0.mk H
  clear H
  go_enter Tryd.func7, Tryd.ntmps7
  go_wp2_with (first | ((with_reducible refine gate_callee (f := 9) rfl ?_); refine goesL_ (some 20) rfl rfl Tryd.func9 (by kernel_rfl) rfl #[] rfl am ?_; (with_reducible refine (carillonlaw06_examples.calls  t488 _ tbk A5.out).mono ?_); rintro e w13 ⟨rfl, hb⟩; refine ⟨_, rfl, ?_⟩; have n0_ := Aside0.mk (below_step bw hb); clear HB; have HB := n0_; clear n0_; (try clear hb); (try clear hb2); (try clear hk); (try clear hi)) | ((with_reducible refine gate_callee (f := 23) rfl ?_); refine goesL_ (some 22) rfl rfl Tryd.func23 (by kernel_rfl) rfl #[.slice A0 l0.length c0] rfl am ?_; (with_reducible refine (carillonlaw06_rising.calls k _ _ l0 t489 _ ?side1 ?side2 A6.out).mono ?_); (case side1 => repeat (first | exact (Kd.C_below HR0.out HB.out) | (with_reducible refine Kd.C_alloc ?_ _) | (with_reducible refine Kd.C_drewN ?_ _) | (with_reducible refine Kd.C_drew ?_))); (case side2 => exact HC0.out); rintro e w14 ⟨v490, rfl, ho0, hb⟩; refine ⟨_, rfl, ?_⟩; have n0_ := Aside0.mk (Kd.R_lower ho0 (below_size bw)); have n1_ := Aside0.mk (below_step bw hb); clear HB; have HO491 := n0_; have HB := n1_; clear n0_ n1_; (try clear hb); (try clear hb2); (try clear hk); (try clear hi); (try clear ho0); obtain ⟨Ao15, co15, eo15⟩ := Kd.R_slice HO491.out; subst eo15) | ((with_reducible refine gate_callee (f := 24) rfl ?_); refine goesL_ (some 25) rfl rfl Tryd.func24 (by kernel_rfl) rfl #[.slice Ao15 t489.length co15] rfl am ?_; (with_reducible refine (carillonlaw06_written.calls k _ _ t489 t492 t493 _ ?side1 ?side2 tbk A7.out).mono ?_); (case side1 => repeat (first | exact (Kd.R_reads' HO491.out).2.2 | (with_reducible refine Kd.C_alloc ?_ _) | (with_reducible refine Kd.C_drewN ?_ _) | (with_reducible refine Kd.C_drew ?_))); (case side2 => exact (Kd.R_reads' HO491.out).2.1); rintro e w16 ⟨v494, rfl, ho0, hb⟩; refine ⟨_, rfl, ?_⟩; have n0_ := Aside0.mk (Kd.R_below (by (with_reducible repeat (first | apply Kd.R_alloc | apply Kd.R_drewN | apply Kd.R_drew)); exact HO491.out) hb); have n1_ := Aside0.mk (Kd.R_lower ho0 (below_size bw)); have n2_ := Aside0.mk (below_step bw hb); clear HO491; clear HB; have HO491 := n0_; have HO495 := n1_; have HB := n2_; clear n0_ n1_ n2_; (try clear hb); (try clear hb2); (try clear hk); (try clear hi); (try clear ho0)) | ((with_reducible refine gate_callee (f := 17) rfl ?_); refine goesL_ (some 38) rfl rfl Tryd.func17 (by kernel_rfl) rfl #[.int .i64 0, .string t492, .int .i64 (wrap64 (1 + (Int.tmod (wrap64 (-(wrap64 (a1 + 1)))) 10)))] rfl am ?_; (with_reducible refine (segment_Index.calls k 0 t492 (wrap64 (1 + (Int.tmod (wrap64 (-(wrap64 (a1 + 1)))) 10))) t496 t497 _ tbk A9.out).mono ?_); rintro e w17 ⟨v498, rfl, ho0, hb⟩; refine ⟨_, rfl, ?_⟩; have n0_ := Aside0.mk (Kd.R_below (by (with_reducible repeat (first | apply Kd.R_alloc | apply Kd.R_drewN | apply Kd.R_drew)); exact HO491.out) hb); have n1_ := Aside0.mk (Kd.R_below (by (with_reducible repeat (first | apply Kd.R_alloc | apply Kd.R_drewN | apply Kd.R_drew)); exact HO495.out) hb); have n2_ := Aside0.mk (Kd.R_lower ho0 (below_size bw)); have n3_ := Aside0.mk (below_step bw hb); clear HO491; clear HO495; clear HB; have HO491 := n0_; have HO495 := n1_; have HO499 := n2_; have HB := n3_; clear n0_ n1_ n2_ n3_; (try clear hb); (try clear hb2); (try clear hk); (try clear hi); (try clear ho0); obtain ⟨Ao18, co18, eo18⟩ := Kd.R_slice HO499.out; subst eo18) | ((with_reducible refine gate_callee (f := 21) rfl ?_); refine goesL_ (some 45) rfl rfl Tryd.func21 (by kernel_rfl) rfl #[.int .i64 0, .string t492, .slice Ao18 t496.length co18, .int .i64 a2, .int .i64 a3] rfl am ?_; (with_reducible refine (segment_From.calls k 0 t492 _ _ t496 a2 a3 t500 _ ?side1 ?side2 tbk A10.out).mono ?_); (case side1 => repeat (first | exact (Kd.R_reads' HO499.out).2.2 | (with_reducible refine Kd.C_alloc ?_ _) | (with_reducible refine Kd.C_drewN ?_ _) | (with_reducible refine Kd.C_drew ?_))); (case side2 => exact (Kd.R_reads' HO499.out).2.1); rintro e w19 ⟨v501, rfl, ho0, hb⟩; refine ⟨_, rfl, ?_⟩; have n0_ := Aside0.mk (Kd.R_elder' (by (with_reducible repeat (first | apply Kd.R_alloc | apply Kd.R_drewN | apply Kd.R_drew)); exact HO491.out) (Kd.R_base ho0) hb); have n1_ := Aside0.mk (Kd.R_below (by (with_reducible repeat (first | apply Kd.R_alloc | apply Kd.R_drewN | apply Kd.R_drew)); exact HO495.out) hb); have n2_ := Aside0.mk (Kd.R_below (by (with_reducible repeat (first | apply Kd.R_alloc | apply Kd.R_drewN | apply Kd.R_drew)); exact HO499.out) hb); have n3_ := Aside0.mk (Kd.R_lower (Kd.R_new' ho0 (Kd.R_lt (by (with_reducible repeat (first | apply Kd.R_alloc | apply Kd.R_drewN | apply Kd.R_drew)); exact HO491.out))) (below_size bw)); have n4_ := Aside0.mk (below_step bw hb); clear HO491; clear HO495; clear HO499; clear HB; have HO491 := n0_; have HO495 := n1_; have HO499 := n2_; have HO502 := n3_; have HB := n4_; clear n0_ n1_ n2_ n3_ n4_; (try clear hb); (try clear hb2); (try clear hk); (try clear hi); (try clear ho0)) | ((with_reducible refine gate_callee (f := 21) rfl ?_); refine goesL_ (some 49) rfl rfl Tryd.func21 (by kernel_rfl) rfl #[.int .i64 0, .string t492, .slice none 0 0, .int .i64 a2, .int .i64 a3] rfl am ?_; (refine (segment_From.calls k 0 t492 _ _ ([] : List (S44)) a2 a3 t503 _ ?side1 ?side2 tbk A11.out).mono ?_); (case side1 => exact Kd.C_nil _ _); (case side2 => exact Nat.le_refl _); rintro e w20 ⟨v504, rfl, ho0, hb⟩; refine ⟨_, rfl, ?_⟩; have n0_ := Aside0.mk (Kd.R_elder' (by (with_reducible repeat (first | apply Kd.R_alloc | apply Kd.R_drewN | apply Kd.R_drew)); exact HO491.out) (Kd.R_base ho0) hb); have n1_ := Aside0.mk (Kd.R_below (by (with_reducible repeat (first | apply Kd.R_alloc | apply Kd.R_drewN | apply Kd.R_drew)); exact HO495.out) hb); have n2_ := Aside0.mk (Kd.R_below (by (with_reducible repeat (first | apply Kd.R_alloc | apply Kd.R_drewN | apply Kd.R_drew)); exact HO499.out) hb); have n3_ := Aside0.mk (Kd.R_elder' (by (with_reducible repeat (first | apply Kd.R_alloc | apply Kd.R_drewN | apply Kd.R_drew)); exact HO502.out) (Kd.R_base ho0) hb); have n4_ := Aside0.mk (Kd.R_lower (Kd.R_new' (Kd.R_new' ho0 (Kd.R_lt (by (with_reducible repeat (first | apply Kd.R_alloc | apply Kd.R_drewN | apply Kd.R_drew)); exact HO491.out))) (Kd.R_lt (by (with_reducible repeat (first | apply Kd.R_alloc | apply Kd.R_drewN | apply Kd.R_drew)); exact HO502.out))) (below_size bw)); have n5_ := Aside0.mk (below_step bw hb); clear HO491; clear HO495; clear HO499; clear HO502; clear HB; have HO491 := n0_; have HO495 := n1_; have HO499 := n2_; have HO502 := n3_; have HO505 := n4_; have HB := n5_; clear n0_ n1_ n2_ n3_ n4_ n5_; (try clear hb); (try clear hb2); (try clear hk); (try clear hi); (try clear ho0); obtain ⟨Ao21, co21, eo21⟩ := Kd.R_slice HO502.out; subst eo21; obtain ⟨Ao22, co22, eo22⟩ := Kd.R_slice HO505.out; subst eo22) | ((with_reducible refine gate_callee (f := 16) rfl ?_); refine goesL_ (some 52) rfl rfl Tryd.func16 (by kernel_rfl) rfl #[.slice Ao21 t500.length co21, .slice Ao22 t503.length co22] rfl am ?_; (with_reducible refine (carillonlaw06_records.calls k _ _ t500 _ _ t503 t506 _ ?side1 ?side2 ?side3 ?side4 A12.out).mono ?_); (case side1 => repeat (first | exact (Kd.R_reads' HO502.out).2.2 | (with_reducible refine Kd.C_alloc ?_ _) | (with_reducible refine Kd.C_drewN ?_ _) | (with_reducible refine Kd.C_drew ?_))); (case side2 => exact (Kd.R_reads' HO502.out).2.1); (case side3 => repeat (first | exact (Kd.R_reads' HO505.out).2.2 | (with_reducible refine Kd.C_alloc ?_ _) | (with_reducible refine Kd.C_drewN ?_ _) | (with_reducible refine Kd.C_drew ?_))); (case side4 => exact (Kd.R_reads' HO505.out).2.1); rintro e w' ⟨rfl, ⟨nd, rfl⟩⟩; refine ⟨_, rfl, ?_⟩))
  go_loopg [17, 18] k (fun kq v17 v18 w' => ∃ (x17_1 : List (S23)) (x18_1 : Int), v18 = .int .i64 x18_1 ∧ Aside0 (carillonlaw06_SegmentIndex.l0 kq t489 a2 a3 t488 t497 t500 t506 x17_1 x18_1 = some r) ∧ Aside0 (kq ≤ k) ∧ Aside0 (Kd.R k23 23 w' w.heap.size (fun k_ => some k_ ≠ ((.slice Ao21 t500.length co21) : Value).ownBlock ∧ some k_ ≠ (v17 : Value).ownBlock) (.slice Ao15 t489.length co15) t489) ∧ Aside0 (Kd.R k23 23 w' w.heap.size (fun k_ => some k_ ≠ ((.slice Ao15 t489.length co15) : Value).ownBlock ∧ some k_ ≠ (v17 : Value).ownBlock) (.slice Ao21 t500.length co21) t500) ∧ Aside0 (Kd.R k23 23 w' w.heap.size (fun k_ => some k_ ≠ ((.slice Ao15 t489.length co15) : Value).ownBlock ∧ some k_ ≠ ((.slice Ao21 t500.length co21) : Value).ownBlock) v17 x17_1) ∧ Aside0 (Below w.heap.size w w'))
  case atStart => exact ⟨(([] : List (S23))), (0), (by first | rfl | (simp; done) | (simp [*]; done)), H', ⟨Nat.le_refl _⟩, ⟨by (with_reducible repeat (first | apply Kd.R_alloc | apply Kd.R_drewN | apply Kd.R_drew)); exact Kd.R_mono HO491.out (fun _ hk => ⟨hk.1.2, (by simp [Value.ownBlock])⟩)⟩, ⟨by (with_reducible repeat (first | apply Kd.R_alloc | apply Kd.R_drewN | apply Kd.R_drew)); exact Kd.R_mono HO502.out (fun _ hk => ⟨hk.1.2, (by simp [Value.ownBlock])⟩)⟩, ⟨by first | exact Kd.R_nil _ _ _ _ _ | exact Kd.N_nil _ _ _ _ _ | exact Kd.V_nil _ _ _ _ _ | exact Kd.Q_nil _ _ _ _ _ | exact Kd.S_nil _ _ _ _ _⟩, ⟨bw⟩⟩
  case round =>
   clear H'
   try clear c1
   try clear c2
   try clear p2
   try clear p6
   try clear c7
   try clear c8
   try clear c8b0
   try clear c9
   try clear c16
   try clear c17
   try clear c21
   obtain ⟨x17_1, x18_1, rfl, HA, HK1, HO_0, HO_14, HO_17, HB⟩ := hrel
   cases gk with
   | zero => exact absurd HA.out (by simp [carillonlaw06_SegmentIndex.l0])
   | succ k1 =>
    have H := HA.out
    clear HA
    simp only [carillonlaw06_SegmentIndex.l0] at H
    by_cases c23 : x18_1 < (t489.length : Int)
    ·rw [if_pos c23] at H
     have c23b0 : decide (x18_1 < (t489.length : Int)) = true := decide_eq_true c23
     clear c23
     by_cases c24 : (x17_1.length : Int) < a3
     ·rw [if_pos c24] at H
      have c24b0 : decide ((x17_1.length : Int) < a3) = true := decide_eq_true c24
      clear c24
      by_cases c25 : 0 ≤ x18_1
      ·rw [if_pos c25] at H
       have c25b0 : decide (0 ≤ x18_1) = true := decide_eq_true c25
       clear c25
       by_cases c26 : ((rd_T23 t489 x18_1).f0) ≥ a2
       ·rw [if_pos c26] at H
        have c26b0 : decide (a2 ≤ ((rd_T23 t489 x18_1).f0)) = true := decide_eq_true c26
        clear c26
        by_cases c27 : x17_1.length < 2199023255552
        ·rw [if_pos c27] at H
         have LMc27 := Aside0.mk c27
         clear c27
         obtain ⟨y509, hy509⟩ : ∃ y_ : List (S23), y_ = (x17_1 ++ [(⟨(rd_T23 t489 x18_1).f0, (rd_T23 t489 x18_1).f1, (rd_T23 t489 x18_1).f2, (rd_T23 t489 x18_1).f3, (rd_T23 t489 x18_1).f4⟩ : S23)]) := ⟨_, rfl⟩
         replace H : (carillonlaw06_SegmentIndex.l0 k1 t489 a2 a3 t488 t497 t500 t506 y509 (wrap64 (x18_1 + 1))) = some r := by first | (rw [hy509]; with_reducible exact H) | (have H2_ := (Option.bind_some _ _).symm.trans H; rw [hy509]; with_reducible exact H2_) | (have H2_ := (Option.bind_some _ _).symm.trans H; with_reducible exact H2_) | with_reducible exact H | (rw [hy509]; exact H) | exact H
         have Ny509 := Aside0.mk hy509
         clear hy509
         have H' := Aside0.mk H
         clear H
         obtain ⟨Ao28, co28, eo28⟩ := Kd.R_slice HO_17.out
         subst eo28
         have p507 : 0 ≤ (x18_1 : Int) := of_decide_eq_true (by first | (with_reducible assumption) | assumption)
         have q507 : x18_1 < (t489.length : Int) := of_decide_eq_true (by first | (with_reducible assumption) | assumption)
         obtain ⟨ad507, e507, hx507_0, hx507_1, hx507_2, hx507_3, hx507_4⟩ := at_T23 (Kd.R_reads' HO_0.out).2.2 x18_1 p507 q507
         cases e507
         replace p507 := eq_true p507
         replace q507 := eq_true q507
         have p508 : 0 ≤ (x18_1 : Int) := of_decide_eq_true (by first | (with_reducible assumption) | assumption)
         have q508 : x18_1 < (t489.length : Int) := of_decide_eq_true (by first | (with_reducible assumption) | assumption)
         obtain ⟨ad508, e508, hx508_0, hx508_1, hx508_2, hx508_3, hx508_4⟩ := at_T23 (Kd.R_reads' HO_0.out).2.2 x18_1 p508 q508
         obtain rfl : ad507 = ad508 := (by injection e508)
         replace p508 := eq_true p508
         replace q508 := eq_true q508
         go_wp2_with (first | ((with_reducible refine gate_builtin (b := .append) (xs := #[.tmp 72, .tmp 77]) rfl ?_); (try (refine gate_guard (by rfl) ?_; dsimp only)); at_builtin; refine Kd.R_append k23 (w0 := w) w.heap.size rfl (.tmp 72) (.tmp 77) 31 23 (.agg #[(.int .i64 0), (.string ⟨#[]⟩), (.int .i64 0), (.string ⟨#[]⟩), (.string ⟨#[]⟩)]) 64 rfl Tryd.underlying31 info23 rfl (by decide) (by omega) (.slice Ao28 x17_1.length co28) x17_1 (⟨(rd_T23 t489 x18_1).f0, (rd_T23 t489 x18_1).f1, (rd_T23 t489 x18_1).f2, (rd_T23 t489 x18_1).f3, (rd_T23 t489 x18_1).f4⟩ : S23) [.int .i64 ((rd_T23 t489 x18_1).f0), .string ((rd_T23 t489 x18_1).f1), .int .i64 ((rd_T23 t489 x18_1).f2), .string ((rd_T23 t489 x18_1).f3), .string ((rd_T23 t489 x18_1).f4)] (fun k_ => some k_ ≠ (.slice (some ad507) t489.length co15 : Value).ownBlock ∧ some k_ ≠ (.slice Ao21 t500.length co21 : Value).ownBlock) (fun _ => False) rfl rfl ?aP (fun _ hk => hk.elim) ?aF ?aO ?aB ?aS ?aL ?_; (case aP => exact k23_mkM _ _ _ (⟨(rd_T23 t489 x18_1).f0, (rd_T23 t489 x18_1).f1, (rd_T23 t489 x18_1).f2, (rd_T23 t489 x18_1).f3, (rd_T23 t489 x18_1).f4⟩ : S23)); (case aB => exact bw); (case aF => exact (fun k_ hk => ⟨Kd.fresh' (Kd.R_lt (by (with_reducible repeat (first | apply Kd.R_alloc | apply Kd.R_drewN | apply Kd.R_drew)); exact HO_0.out)) k_ hk, Kd.fresh' (Kd.R_lt (by (with_reducible repeat (first | apply Kd.R_alloc | apply Kd.R_drewN | apply Kd.R_drew)); exact HO_14.out)) k_ hk⟩)); (case aO => exact (by (with_reducible repeat (first | apply Kd.R_alloc | apply Kd.R_drewN | apply Kd.R_drew)); exact HO_17.out)); (case aS => exact (below_size bw)); (case aL => have := LMc27.out; omega); intro v510 w29 ho hb hg hat; rw [← Ny509.out] at ho; have n0_ := Aside0.mk (Kd.R_after (ok := (fun k_ => some k_ ≠ (.slice Ao21 t500.length co21 : Value).ownBlock)) (by (with_reducible repeat (first | apply Kd.R_alloc | apply Kd.R_drewN | apply Kd.R_drew)); exact HO_0.out) hg hat); have n1_ := Aside0.mk (Kd.R_after (ok := (fun k_ => some k_ ≠ (.slice (some ad507) t489.length co15 : Value).ownBlock)) (by (with_reducible repeat (first | apply Kd.R_alloc | apply Kd.R_drewN | apply Kd.R_drew)); exact HO_14.out) hg hat); have n2_ := Aside0.mk (hb); have n3_ := Aside0.mk (ho); clear HO_0; clear HO_14; clear HB; clear HO_17; have HO_0 := n0_; have HO_14 := n1_; have HB := n2_; have HO511 := n3_; clear n0_ n1_ n2_ n3_; clear ho hb hg hat))
         go_roundg k1
         case measure => have := HK1.out; omega
         case rel => exact ⟨(y509), (wrap64 (x18_1 + 1)), (by first | rfl | (simp; done) | (simp [*]; done)), H', ⟨by have := HK1.out; omega⟩, ⟨by (with_reducible repeat (first | apply Kd.R_alloc | apply Kd.R_drewN | apply Kd.R_drew)); exact HO_0.out⟩, ⟨by (with_reducible repeat (first | apply Kd.R_alloc | apply Kd.R_drewN | apply Kd.R_drew)); exact HO_14.out⟩, ⟨by (with_reducible repeat (first | apply Kd.R_alloc | apply Kd.R_drewN | apply Kd.R_drew)); exact HO511.out⟩, ⟨bw⟩⟩
        ·rw [if_neg c27] at H
         exact absurd H (by simp)
       ·rw [if_neg c26] at H
        have c26b0 : decide (a2 ≤ ((rd_T23 t489 x18_1).f0)) = false := decide_eq_false c26
        clear c26
        have H' := Aside0.mk H
        clear H
        obtain ⟨Ao30, co30, eo30⟩ := Kd.R_slice HO_17.out
        subst eo30
        have p507 : 0 ≤ (x18_1 : Int) := of_decide_eq_true (by first | (with_reducible assumption) | assumption)
        have q507 : x18_1 < (t489.length : Int) := of_decide_eq_true (by first | (with_reducible assumption) | assumption)
        obtain ⟨ad507, e507, hx507_0, hx507_1, hx507_2, hx507_3, hx507_4⟩ := at_T23 (Kd.R_reads' HO_0.out).2.2 x18_1 p507 q507
        cases e507
        replace p507 := eq_true p507
        replace q507 := eq_true q507
        go_wp2
        go_roundg k1
        case measure => have := HK1.out; omega
        case rel => exact ⟨(x17_1), (wrap64 (x18_1 + 1)), (by first | rfl | (simp; done) | (simp [*]; done)), H', ⟨by have := HK1.out; omega⟩, ⟨by (with_reducible repeat (first | apply Kd.R_alloc | apply Kd.R_drewN | apply Kd.R_drew)); exact HO_0.out⟩, ⟨by (with_reducible repeat (first | apply Kd.R_alloc | apply Kd.R_drewN | apply Kd.R_drew)); exact HO_14.out⟩, ⟨by (with_reducible repeat (first | apply Kd.R_alloc | apply Kd.R_drewN | apply Kd.R_drew)); exact HO_17.out⟩, ⟨bw⟩⟩
      ·rw [if_neg c25] at H
       exact absurd H (by simp)
     ·rw [if_neg c24] at H
      have c24b0 : decide ((x17_1.length : Int) < a3) = false := decide_eq_false c24
      clear c24
      replace H := Option.bind_eq_some_iff.mp H
      obtain ⟨t512, A310, H⟩ := H
      replace H : (if t488 = true then (if t497 = 0 then (if t506 = true then (some t512) else (some false)) else (some false)) else (some false)) = some r := H
      have A31 := Aside0.mk A310
      clear A310
      by_cases c32 : t488 = true
      ·subst c32
       have H1 : (if t497 = 0 then (if t506 = true then (some t512) else (some false)) else (some false)) = some r := by rw [if_pos rfl] at H; exact H
       clear H
       have H := H1
       clear H1
       by_cases c33 : t497 = 0
       ·rw [if_pos c33] at H
        have c33b0 : (t497 == 0) = true := beq_iff_eq.mpr c33
        have c33b1 : (t497 != 0) = false := bne_eq_false_iff_eq.mpr c33
        clear c33
        by_cases c34 : t506 = true
        ·subst c34
         have H1 : (some t512) = some r := by rw [if_pos rfl] at H; exact H
         clear H
         have H := H1
         clear H1
         obtain rfl := Option.some.inj H
         obtain ⟨Ao35, co35, eo35⟩ := Kd.R_slice HO_17.out
         subst eo35
         go_wp2_with (first | ((with_reducible refine gate_callee (f := 16) rfl ?_); refine goesL_ (some 81) rfl rfl Tryd.func16 (by kernel_rfl) rfl #[.slice Ao21 t500.length co21, .slice Ao35 x17_1.length co35] rfl am ?_; (with_reducible refine (carillonlaw06_records.calls k1 _ _ t500 _ _ x17_1 t512 _ ?side1 ?side2 ?side3 ?side4 A31.out).mono ?_); (case side1 => repeat (first | exact (Kd.R_reads' HO_14.out).2.2 | (with_reducible refine Kd.C_alloc ?_ _) | (with_reducible refine Kd.C_drewN ?_ _) | (with_reducible refine Kd.C_drew ?_))); (case side2 => exact (Kd.R_reads' HO_14.out).2.1); (case side3 => repeat (first | exact (Kd.R_reads' HO_17.out).2.2 | (with_reducible refine Kd.C_alloc ?_ _) | (with_reducible refine Kd.C_drewN ?_ _) | (with_reducible refine Kd.C_drew ?_))); (case side4 => exact (Kd.R_reads' HO_17.out).2.1); rintro e w' ⟨rfl, ⟨nd, rfl⟩⟩; refine ⟨_, rfl, ?_⟩))
         go_ret
         exact ⟨er, bw⟩
        ·replace c34 := Bool.eq_false_iff.mpr c34
         subst c34
         have H1 : (some false) = some r := by rw [if_neg (show ¬ (false = true) by decide)] at H; exact H
         clear H
         have H := H1
         clear H1
         exact absurd ((Option.some.inj H).trans hr_.out) (by decide)
       ·rw [if_neg c33] at H
        have c33b0 : (t497 == 0) = false := beq_eq_false_iff_ne.mpr c33
        have c33b1 : (t497 != 0) = true := bne_iff_ne.mpr c33
        exact absurd ((Option.some.inj H).trans hr_.out) (by decide)
      ·replace c32 := Bool.eq_false_iff.mpr c32
       subst c32
       have H1 : (some false) = some r := by rw [if_neg (show ¬ (false = true) by decide)] at H; exact H
       clear H
       have H := H1
       clear H1
       exact absurd ((Option.some.inj H).trans hr_.out) (by decide)
    ·rw [if_neg c23] at H
     have c23b0 : decide (x18_1 < (t489.length : Int)) = false := decide_eq_false c23
     clear c23
     replace H := Option.bind_eq_some_iff.mp H
     obtain ⟨t513, A360, H⟩ := H
     replace H : (if t488 = true then (if t497 = 0 then (if t506 = true then (some t513) else (some false)) else (some false)) else (some false)) = some r := H
     have A36 := Aside0.mk A360
     clear A360
     by_cases c37 : t488 = true
     ·subst c37
      have H1 : (if t497 = 0 then (if t506 = true then (some t513) else (some false)) else (some false)) = some r := by rw [if_pos rfl] at H; exact H
      clear H
      have H := H1
      clear H1
      by_cases c38 : t497 = 0
      ·rw [if_pos c38] at H
       have c38b0 : (t497 == 0) = true := beq_iff_eq.mpr c38
       have c38b1 : (t497 != 0) = false := bne_eq_false_iff_eq.mpr c38
       clear c38
       by_cases c39 : t506 = true
       ·subst c39
        have H1 : (some t513) = some r := by rw [if_pos rfl] at H; exact H
        clear H
        have H := H1
        clear H1
        obtain rfl := Option.some.inj H
        obtain ⟨Ao40, co40, eo40⟩ := Kd.R_slice HO_17.out
        subst eo40
        go_wp2_with (first | ((with_reducible refine gate_callee (f := 16) rfl ?_); refine goesL_ (some 81) rfl rfl Tryd.func16 (by kernel_rfl) rfl #[.slice Ao21 t500.length co21, .slice Ao40 x17_1.length co40] rfl am ?_; (with_reducible refine (carillonlaw06_records.calls k1 _ _ t500 _ _ x17_1 t513 _ ?side1 ?side2 ?side3 ?side4 A36.out).mono ?_); (case side1 => repeat (first | exact (Kd.R_reads' HO_14.out).2.2 | (with_reducible refine Kd.C_alloc ?_ _) | (with_reducible refine Kd.C_drewN ?_ _) | (with_reducible refine Kd.C_drew ?_))); (case side2 => exact (Kd.R_reads' HO_14.out).2.1); (case side3 => repeat (first | exact (Kd.R_reads' HO_17.out).2.2 | (with_reducible refine Kd.C_alloc ?_ _) | (with_reducible refine Kd.C_drewN ?_ _) | (with_reducible refine Kd.C_drew ?_))); (case side4 => exact (Kd.R_reads' HO_17.out).2.1); rintro e w' ⟨rfl, ⟨nd, rfl⟩⟩; refine ⟨_, rfl, ?_⟩))
        go_ret
        exact ⟨er, bw⟩
       ·replace c39 := Bool.eq_false_iff.mpr c39
        subst c39
        have H1 : (some false) = some r := by rw [if_neg (show ¬ (false = true) by decide)] at H; exact H
        clear H
        have H := H1
        clear H1
        exact absurd ((Option.some.inj H).trans hr_.out) (by decide)
      ·rw [if_neg c38] at H
       have c38b0 : (t497 == 0) = false := beq_eq_false_iff_ne.mpr c38
       have c38b1 : (t497 != 0) = true := bne_iff_ne.mpr c38
       exact absurd ((Option.some.inj H).trans hr_.out) (by decide)
     ·replace c37 := Bool.eq_false_iff.mpr c37
      subst c37
      have H1 : (some false) = some r := by rw [if_neg (show ¬ (false = true) by decide)] at H; exact H
      clear H
      have H := H1
      clear H1
      exact absurd ((Option.some.inj H).trans hr_.out) (by decide)
 ·rw [if_neg c8] at H
  have c8b0 : decide (a1 < 0) = false := decide_eq_false c8
  clear c8
  replace H := Option.bind_eq_some_iff.mp H
  obtain ⟨⟨t514, t515⟩, A410, H⟩ := H
  replace H : ((segment_From.f k 0 t492 t514 a2 a3).bind fun t518 => ((segment_From.f k 0 t492 ([] : List (S44)) a2 a3).bind fun t521 => ((carillonlaw06_records.f k t518 t521).bind fun t524 => (carillonlaw06_SegmentIndex.l0 k t489 a2 a3 t488 t515 t518 t524 ([] : List (S23)) 0)))) = some r := H
  have A41 := Aside0.mk A410
  clear A410
  replace H := Option.bind_eq_some_iff.mp H
  obtain ⟨t518, A420, H⟩ := H
  replace H : ((segment_From.f k 0 t492 ([] : List (S44)) a2 a3).bind fun t521 => ((carillonlaw06_records.f k t518 t521).bind fun t524 => (carillonlaw06_SegmentIndex.l0 k t489 a2 a3 t488 t515 t518 t524 ([] : List (S23)) 0))) = some r := H
  have A42 := Aside0.mk A420
  clear A420
  replace H := Option.bind_eq_some_iff.mp H
  obtain ⟨t521, A430, H⟩ := H
  replace H : ((carillonlaw06_records.f k t518 t521).bind fun t524 => (carillonlaw06_SegmentIndex.l0 k t489 a2 a3 t488 t515 t518 t524 ([] : List (S23)) 0)) = some r := H
  have A43 := Aside0.mk A430
  clear A430
  replace H := Option.bind_eq_some_iff.mp H
  obtain ⟨t524, A440, H⟩ := H
  replace H : (carillonlaw06_SegmentIndex.l0 k t489 a2 a3 t488 t515 t518 t524 ([] : List (S23)) 0) = some r := H
  have A44 := Aside0.mk A440
  clear A440
  have H' := Aside0.mk H
  clear H
  go_enter Tryd.func7, Tryd.ntmps7
  go_wp2_with (first | ((with_reducible refine gate_callee (f := 9) rfl ?_); refine goesL_ (some 20) rfl rfl Tryd.func9 (by kernel_rfl) rfl #[] rfl am ?_; (with_reducible refine (carillonlaw06_examples.calls  t488 _ tbk A5.out).mono ?_); rintro e w45 ⟨rfl, hb⟩; refine ⟨_, rfl, ?_⟩; have n0_ := Aside0.mk (below_step bw hb); clear HB; have HB := n0_; clear n0_; (try clear hb); (try clear hb2); (try clear hk); (try clear hi)) | ((with_reducible refine gate_callee (f := 23) rfl ?_); refine goesL_ (some 22) rfl rfl Tryd.func23 (by kernel_rfl) rfl #[.slice A0 l0.length c0] rfl am ?_; (with_reducible refine (carillonlaw06_rising.calls k _ _ l0 t489 _ ?side1 ?side2 A6.out).mono ?_); (case side1 => repeat (first | exact (Kd.C_below HR0.out HB.out) | (with_reducible refine Kd.C_alloc ?_ _) | (with_reducible refine Kd.C_drewN ?_ _) | (with_reducible refine Kd.C_drew ?_))); (case side2 => exact HC0.out); rintro e w46 ⟨v490, rfl, ho0, hb⟩; refine ⟨_, rfl, ?_⟩; have n0_ := Aside0.mk (Kd.R_lower ho0 (below_size bw)); have n1_ := Aside0.mk (below_step bw hb); clear HB; have HO491 := n0_; have HB := n1_; clear n0_ n1_; (try clear hb); (try clear hb2); (try clear hk); (try clear hi); (try clear ho0); obtain ⟨Ao47, co47, eo47⟩ := Kd.R_slice HO491.out; subst eo47) | ((with_reducible refine gate_callee (f := 24) rfl ?_); refine goesL_ (some 25) rfl rfl Tryd.func24 (by kernel_rfl) rfl #[.slice Ao47 t489.length co47] rfl am ?_; (with_reducible refine (carillonlaw06_written.calls k _ _ t489 t492 t493 _ ?side1 ?side2 tbk A7.out).mono ?_); (case side1 => repeat (first | exact (Kd.R_reads' HO491.out).2.2 | (with_reducible refine Kd.C_alloc ?_ _) | (with_reducible refine Kd.C_drewN ?_ _) | (with_reducible refine Kd.C_drew ?_))); (case side2 => exact (Kd.R_reads' HO491.out).2.1); rintro e w48 ⟨v494, rfl, ho0, hb⟩; refine ⟨_, rfl, ?_⟩; have n0_ := Aside0.mk (Kd.R_below (by (with_reducible repeat (first | apply Kd.R_alloc | apply Kd.R_drewN | apply Kd.R_drew)); exact HO491.out) hb); have n1_ := Aside0.mk (Kd.R_lower ho0 (below_size bw)); have n2_ := Aside0.mk (below_step bw hb); clear HO491; clear HB; have HO491 := n0_; have HO495 := n1_; have HB := n2_; clear n0_ n1_ n2_; (try clear hb); (try clear hb2); (try clear hk); (try clear hi); (try clear ho0)) | ((with_reducible refine gate_callee (f := 17) rfl ?_); refine goesL_ (some 38) rfl rfl Tryd.func17 (by kernel_rfl) rfl #[.int .i64 0, .string t492, .int .i64 (wrap64 (1 + (Int.tmod a1 10)))] rfl am ?_; (with_reducible refine (segment_Index.calls k 0 t492 (wrap64 (1 + (Int.tmod a1 10))) t514 t515 _ tbk A41.out).mono ?_); rintro e w49 ⟨v516, rfl, ho0, hb⟩; refine ⟨_, rfl, ?_⟩; have n0_ := Aside0.mk (Kd.R_below (by (with_reducible repeat (first | apply Kd.R_alloc | apply Kd.R_drewN | apply Kd.R_drew)); exact HO491.out) hb); have n1_ := Aside0.mk (Kd.R_below (by (with_reducible repeat (first | apply Kd.R_alloc | apply Kd.R_drewN | apply Kd.R_drew)); exact HO495.out) hb); have n2_ := Aside0.mk (Kd.R_lower ho0 (below_size bw)); have n3_ := Aside0.mk (below_step bw hb); clear HO491; clear HO495; clear HB; have HO491 := n0_; have HO495 := n1_; have HO517 := n2_; have HB := n3_; clear n0_ n1_ n2_ n3_; (try clear hb); (try clear hb2); (try clear hk); (try clear hi); (try clear ho0); obtain ⟨Ao50, co50, eo50⟩ := Kd.R_slice HO517.out; subst eo50) | ((with_reducible refine gate_callee (f := 21) rfl ?_); refine goesL_ (some 45) rfl rfl Tryd.func21 (by kernel_rfl) rfl #[.int .i64 0, .string t492, .slice Ao50 t514.length co50, .int .i64 a2, .int .i64 a3] rfl am ?_; (with_reducible refine (segment_From.calls k 0 t492 _ _ t514 a2 a3 t518 _ ?side1 ?side2 tbk A42.out).mono ?_); (case side1 => repeat (first | exact (Kd.R_reads' HO517.out).2.2 | (with_reducible refine Kd.C_alloc ?_ _) | (with_reducible refine Kd.C_drewN ?_ _) | (with_reducible refine Kd.C_drew ?_))); (case side2 => exact (Kd.R_reads' HO517.out).2.1); rintro e w51 ⟨v519, rfl, ho0, hb⟩; refine ⟨_, rfl, ?_⟩; have n0_ := Aside0.mk (Kd.R_elder' (by (with_reducible repeat (first | apply Kd.R_alloc | apply Kd.R_drewN | apply Kd.R_drew)); exact HO491.out) (Kd.R_base ho0) hb); have n1_ := Aside0.mk (Kd.R_below (by (with_reducible repeat (first | apply Kd.R_alloc | apply Kd.R_drewN | apply Kd.R_drew)); exact HO495.out) hb); have n2_ := Aside0.mk (Kd.R_below (by (with_reducible repeat (first | apply Kd.R_alloc | apply Kd.R_drewN | apply Kd.R_drew)); exact HO517.out) hb); have n3_ := Aside0.mk (Kd.R_lower (Kd.R_new' ho0 (Kd.R_lt (by (with_reducible repeat (first | apply Kd.R_alloc | apply Kd.R_drewN | apply Kd.R_drew)); exact HO491.out))) (below_size bw)); have n4_ := Aside0.mk (below_step bw hb); clear HO491; clear HO495; clear HO517; clear HB; have HO491 := n0_; have HO495 := n1_; have HO517 := n2_; have HO520 := n3_; have HB := n4_; clear n0_ n1_ n2_ n3_ n4_; (try clear hb); (try clear hb2); (try clear hk); (try clear hi); (try clear ho0)) | ((with_reducible refine gate_callee (f := 21) rfl ?_); refine goesL_ (some 49) rfl rfl Tryd.func21 (by kernel_rfl) rfl #[.int .i64 0, .string t492, .slice none 0 0, .int .i64 a2, .int .i64 a3] rfl am ?_; (refine (segment_From.calls k 0 t492 _ _ ([] : List (S44)) a2 a3 t521 _ ?side1 ?side2 tbk A43.out).mono ?_); (case side1 => exact Kd.C_nil _ _); (case side2 => exact Nat.le_refl _); rintro e w52 ⟨v522, rfl, ho0, hb⟩; refine ⟨_, rfl, ?_⟩; have n0_ := Aside0.mk (Kd.R_elder' (by (with_reducible repeat (first | apply Kd.R_alloc | apply Kd.R_drewN | apply Kd.R_drew)); exact HO491.out) (Kd.R_base ho0) hb); have n1_ := Aside0.mk (Kd.R_below (by (with_reducible repeat (first | apply Kd.R_alloc | apply Kd.R_drewN | apply Kd.R_drew)); exact HO495.out) hb); have n2_ := Aside0.mk (Kd.R_below (by (with_reducible repeat (first | apply Kd.R_alloc | apply Kd.R_drewN | apply Kd.R_drew)); exact HO517.out) hb); have n3_ := Aside0.mk (Kd.R_elder' (by (with_reducible repeat (first | apply Kd.R_alloc | apply Kd.R_drewN | apply Kd.R_drew)); exact HO520.out) (Kd.R_base ho0) hb); have n4_ := Aside0.mk (Kd.R_lower (Kd.R_new' (Kd.R_new' ho0 (Kd.R_lt (by (with_reducible repeat (first | apply Kd.R_alloc | apply Kd.R_drewN | apply Kd.R_drew)); exact HO491.out))) (Kd.R_lt (by (with_reducible repeat (first | apply Kd.R_alloc | apply Kd.R_drewN | apply Kd.R_drew)); exact HO520.out))) (below_size bw)); have n5_ := Aside0.mk (below_step bw hb); clear HO491; clear HO495; clear HO517; clear HO520; clear HB; have HO491 := n0_; have HO495 := n1_; have HO517 := n2_; have HO520 := n3_; have HO523 := n4_; have HB := n5_; clear n0_ n1_ n2_ n3_ n4_ n5_; (try clear hb); (try clear hb2); (try clear hk); (try clear hi); (try clear ho0); obtain ⟨Ao53, co53, eo53⟩ := Kd.R_slice HO520.out; subst eo53; obtain ⟨Ao54, co54, eo54⟩ := Kd.R_slice HO523.out; subst eo54) | ((with_reducible refine gate_callee (f := 16) rfl ?_); refine goesL_ (some 52) rfl rfl Tryd.func16 (by kernel_rfl) rfl #[.slice Ao53 t518.length co53, .slice Ao54 t521.length co54] rfl am ?_; (with_reducible refine (carillonlaw06_records.calls k _ _ t518 _ _ t521 t524 _ ?side1 ?side2 ?side3 ?side4 A44.out).mono ?_); (case side1 => repeat (first | exact (Kd.R_reads' HO520.out).2.2 | (with_reducible refine Kd.C_alloc ?_ _) | (with_reducible refine Kd.C_drewN ?_ _) | (with_reducible refine Kd.C_drew ?_))); (case side2 => exact (Kd.R_reads' HO520.out).2.1); (case side3 => repeat (first | exact (Kd.R_reads' HO523.out).2.2 | (with_reducible refine Kd.C_alloc ?_ _) | (with_reducible refine Kd.C_drewN ?_ _) | (with_reducible refine Kd.C_drew ?_))); (case side4 => exact (Kd.R_reads' HO523.out).2.1); rintro e w' ⟨rfl, ⟨nd, rfl⟩⟩; refine ⟨_, rfl, ?_⟩))
  go_loopg [17, 18] k (fun kq v17 v18 w' => ∃ (x17_1 : List (S23)) (x18_1 : Int), v18 = .int .i64 x18_1 ∧ Aside0 (carillonlaw06_SegmentIndex.l0 kq t489 a2 a3 t488 t515 t518 t524 x17_1 x18_1 = some r) ∧ Aside0 (kq ≤ k) ∧ Aside0 (Kd.R k23 23 w' w.heap.size (fun k_ => some k_ ≠ ((.slice Ao53 t518.length co53) : Value).ownBlock ∧ some k_ ≠ (v17 : Value).ownBlock) (.slice Ao47 t489.length co47) t489) ∧ Aside0 (Kd.R k23 23 w' w.heap.size (fun k_ => some k_ ≠ ((.slice Ao47 t489.length co47) : Value).ownBlock ∧ some k_ ≠ (v17 : Value).ownBlock) (.slice Ao53 t518.length co53) t518) ∧ Aside0 (Kd.R k23 23 w' w.heap.size (fun k_ => some k_ ≠ ((.slice Ao47 t489.length co47) : Value).ownBlock ∧ some k_ ≠ ((.slice Ao53 t518.length co53) : Value).ownBlock) v17 x17_1) ∧ Aside0 (Below w.heap.size w w'))
  case atStart => exact ⟨(([] : List (S23))), (0), (by first | rfl | (simp; done) | (simp [*]; done)), H', ⟨Nat.le_refl _⟩, ⟨by (with_reducible repeat (first | apply Kd.R_alloc | apply Kd.R_drewN | apply Kd.R_drew)); exact Kd.R_mono HO491.out (fun _ hk => ⟨hk.1.2, (by simp [Value.ownBlock])⟩)⟩, ⟨by (with_reducible repeat (first | apply Kd.R_alloc | apply Kd.R_drewN | apply Kd.R_drew)); exact Kd.R_mono HO520.out (fun _ hk => ⟨hk.1.2, (by simp [Value.ownBlock])⟩)⟩, ⟨by first | exact Kd.R_nil _ _ _ _ _ | exact Kd.N_nil _ _ _ _ _ | exact Kd.V_nil _ _ _ _ _ | exact Kd.Q_nil _ _ _ _ _ | exact Kd.S_nil _ _ _ _ _⟩, ⟨bw⟩⟩
  case round =>
   clear H'
   try clear c1
   try clear c2
   try clear p2
   try clear c3
   try clear p5
   try clear q5
   try clear hx5
   try clear p6
   try clear c7
   try clear c8
   try clear c8b0
   try clear c9
   try clear c16
   try clear c17
   try clear c21
   try clear c23
   try clear c23b0
   try clear c24
   try clear c24b0
   try clear c25
   try clear c25b0
   try clear c26
   try clear c26b0
   try clear c27
   try clear c32
   try clear c33
   try clear c33b0
   try clear c33b1
   try clear c34
   try clear c37
   try clear c38
   try clear c38b0
   try clear c38b1
   try clear c39
   try clear p50
   try clear q50
   try clear hx50
   try clear hx507_0
   try clear hx507_1
   try clear hx507_2
   try clear hx507_3
   try clear hx507_4
   try clear hx508_0
   try clear hx508_1
   try clear hx508_2
   try clear hx508_3
   try clear hx508_4
   try clear p2
   try clear p507
   try clear p508
   try clear p6
   try clear q507
   try clear q508
   obtain ⟨x17_1, x18_1, rfl, HA, HK1, HO_0, HO_14, HO_17, HB⟩ := hrel
   cases gk with
   | zero => exact absurd HA.out (by simp [carillonlaw06_SegmentIndex.l0])
   | succ k1 =>
    have H := HA.out
    clear HA
    simp only [carillonlaw06_SegmentIndex.l0] at H
    by_cases c55 : x18_1 < (t489.length : Int)
    ·rw [if_pos c55] at H
     have c55b0 : decide (x18_1 < (t489.length : Int)) = true := decide_eq_true c55
     clear c55
     by_cases c56 : (x17_1.length : Int) < a3
     ·rw [if_pos c56] at H
      have c56b0 : decide ((x17_1.length : Int) < a3) = true := decide_eq_true c56
      clear c56
      by_cases c57 : 0 ≤ x18_1
      ·rw [if_pos c57] at H
       have c57b0 : decide (0 ≤ x18_1) = true := decide_eq_true c57
       clear c57
       by_cases c58 : ((rd_T23 t489 x18_1).f0) ≥ a2
       ·rw [if_pos c58] at H
        have c58b0 : decide (a2 ≤ ((rd_T23 t489 x18_1).f0)) = true := decide_eq_true c58
        clear c58
        by_cases c59 : x17_1.length < 2199023255552
        ·rw [if_pos c59] at H
         have LMc59 := Aside0.mk c59
         clear c59
         obtain ⟨y509, hy509⟩ : ∃ y_ : List (S23), y_ = (x17_1 ++ [(⟨(rd_T23 t489 x18_1).f0, (rd_T23 t489 x18_1).f1, (rd_T23 t489 x18_1).f2, (rd_T23 t489 x18_1).f3, (rd_T23 t489 x18_1).f4⟩ : S23)]) := ⟨_, rfl⟩
         replace H : (carillonlaw06_SegmentIndex.l0 k1 t489 a2 a3 t488 t515 t518 t524 y509 (wrap64 (x18_1 + 1))) = some r := by first | (rw [hy509]; with_reducible exact H) | (have H2_ := (Option.bind_some _ _).symm.trans H; rw [hy509]; with_reducible exact H2_) | (have H2_ := (Option.bind_some _ _).symm.trans H; with_reducible exact H2_) | with_reducible exact H | (rw [hy509]; exact H) | exact H
         have Ny509 := Aside0.mk hy509
         clear hy509
         have H' := Aside0.mk H
         clear H
         obtain ⟨Ao60, co60, eo60⟩ := Kd.R_slice HO_17.out
         subst eo60
         have p507 : 0 ≤ (x18_1 : Int) := of_decide_eq_true (by first | (with_reducible assumption) | assumption)
         have q507 : x18_1 < (t489.length : Int) := of_decide_eq_true (by first | (with_reducible assumption) | assumption)
         obtain ⟨ad507, e507, hx507_0, hx507_1, hx507_2, hx507_3, hx507_4⟩ := at_T23 (Kd.R_reads' HO_0.out).2.2 x18_1 p507 q507
         cases e507
         replace p507 := eq_true p507
         replace q507 := eq_true q507
         have p508 : 0 ≤ (x18_1 : Int) := of_decide_eq_true (by first | (with_reducible assumption) | assumption)
         have q508 : x18_1 < (t489.length : Int) := of_decide_eq_true (by first | (with_reducible assumption) | assumption)
         obtain ⟨ad508, e508, hx508_0, hx508_1, hx508_2, hx508_3, hx508_4⟩ := at_T23 (Kd.R_reads' HO_0.out).2.2 x18_1 p508 q508
         obtain rfl : ad507 = ad508 := (by injection e508)
         replace p508 := eq_true p508
         replace q508 := eq_true q508
         go_wp2_with (first | ((with_reducible refine gate_builtin (b := .append) (xs := #[.tmp 72, .tmp 77]) rfl ?_); (try (refine gate_guard (by rfl) ?_; dsimp only)); at_builtin; refine Kd.R_append k23 (w0 := w) w.heap.size rfl (.tmp 72) (.tmp 77) 31 23 (.agg #[(.int .i64 0), (.string ⟨#[]⟩), (.int .i64 0), (.string ⟨#[]⟩), (.string ⟨#[]⟩)]) 64 rfl Tryd.underlying31 info23 rfl (by decide) (by omega) (.slice Ao60 x17_1.length co60) x17_1 (⟨(rd_T23 t489 x18_1).f0, (rd_T23 t489 x18_1).f1, (rd_T23 t489 x18_1).f2, (rd_T23 t489 x18_1).f3, (rd_T23 t489 x18_1).f4⟩ : S23) [.int .i64 ((rd_T23 t489 x18_1).f0), .string ((rd_T23 t489 x18_1).f1), .int .i64 ((rd_T23 t489 x18_1).f2), .string ((rd_T23 t489 x18_1).f3), .string ((rd_T23 t489 x18_1).f4)] (fun k_ => some k_ ≠ (.slice (some ad507) t489.length co47 : Value).ownBlock ∧ some k_ ≠ (.slice Ao53 t518.length co53 : Value).ownBlock) (fun _ => False) rfl rfl ?aP (fun _ hk => hk.elim) ?aF ?aO ?aB ?aS ?aL ?_; (case aP => exact k23_mkM _ _ _ (⟨(rd_T23 t489 x18_1).f0, (rd_T23 t489 x18_1).f1, (rd_T23 t489 x18_1).f2, (rd_T23 t489 x18_1).f3, (rd_T23 t489 x18_1).f4⟩ : S23)); (case aB => exact bw); (case aF => exact (fun k_ hk => ⟨Kd.fresh' (Kd.R_lt (by (with_reducible repeat (first | apply Kd.R_alloc | apply Kd.R_drewN | apply Kd.R_drew)); exact HO_0.out)) k_ hk, Kd.fresh' (Kd.R_lt (by (with_reducible repeat (first | apply Kd.R_alloc | apply Kd.R_drewN | apply Kd.R_drew)); exact HO_14.out)) k_ hk⟩)); (case aO => exact (by (with_reducible repeat (first | apply Kd.R_alloc | apply Kd.R_drewN | apply Kd.R_drew)); exact HO_17.out)); (case aS => exact (below_size bw)); (case aL => have := LMc59.out; omega); intro v510 w61 ho hb hg hat; rw [← Ny509.out] at ho; have n0_ := Aside0.mk (Kd.R_after (ok := (fun k_ => some k_ ≠ (.slice Ao53 t518.length co53 : Value).ownBlock)) (by (with_reducible repeat (first | apply Kd.R_alloc | apply Kd.R_drewN | apply Kd.R_drew)); exact HO_0.out) hg hat); have n1_ := Aside0.mk (Kd.R_after (ok := (fun k_ => some k_ ≠ (.slice (some ad507) t489.length co47 : Value).ownBlock)) (by (with_reducible repeat (first | apply Kd.R_alloc | apply Kd.R_drewN | apply Kd.R_drew)); exact HO_14.out) hg hat); have n2_ := Aside0.mk (hb); have n3_ := Aside0.mk (ho); clear HO_0; clear HO_14; clear HB; clear HO_17; have HO_0 := n0_; have HO_14 := n1_; have HB := n2_; have HO511 := n3_; clear n0_ n1_ n2_ n3_; clear ho hb hg hat))
         go_roundg k1
         case measure => have := HK1.out; omega
         case rel => exact ⟨(y509), (wrap64 (x18_1 + 1)), (by first | rfl | (simp; done) | (simp [*]; done)), H', ⟨by have := HK1.out; omega⟩, ⟨by (with_reducible repeat (first | apply Kd.R_alloc | apply Kd.R_drewN | apply Kd.R_drew)); exact HO_0.out⟩, ⟨by (with_reducible repeat (first | apply Kd.R_alloc | apply Kd.R_drewN | apply Kd.R_drew)); exact HO_14.out⟩, ⟨by (with_reducible repeat (first | apply Kd.R_alloc | apply Kd.R_drewN | apply Kd.R_drew)); exact HO511.out⟩, ⟨bw⟩⟩
        ·rw [if_neg c59] at H
         exact absurd H (by simp)
       ·rw [if_neg c58] at H
        have c58b0 : decide (a2 ≤ ((rd_T23 t489 x18_1).f0)) = false := decide_eq_false c58
        clear c58
        have H' := Aside0.mk H
        clear H
        obtain ⟨Ao62, co62, eo62⟩ := Kd.R_slice HO_17.out
        subst eo62
        have p507 : 0 ≤ (x18_1 : Int) := of_decide_eq_true (by first | (with_reducible assumption) | assumption)
        have q507 : x18_1 < (t489.length : Int) := of_decide_eq_true (by first | (with_reducible assumption) | assumption)
        obtain ⟨ad507, e507, hx507_0, hx507_1, hx507_2, hx507_3, hx507_4⟩ := at_T23 (Kd.R_reads' HO_0.out).2.2 x18_1 p507 q507
        cases e507
        replace p507 := eq_true p507
        replace q507 := eq_true q507
        go_wp2
        go_roundg k1
        case measure => have := HK1.out; omega
        case rel => exact ⟨(x17_1), (wrap64 (x18_1 + 1)), (by first | rfl | (simp; done) | (simp [*]; done)), H', ⟨by have := HK1.out; omega⟩, ⟨by (with_reducible repeat (first | apply Kd.R_alloc | apply Kd.R_drewN | apply Kd.R_drew)); exact HO_0.out⟩, ⟨by (with_reducible repeat (first | apply Kd.R_alloc | apply Kd.R_drewN | apply Kd.R_drew)); exact HO_14.out⟩, ⟨by (with_reducible repeat (first | apply Kd.R_alloc | apply Kd.R_drewN | apply Kd.R_drew)); exact HO_17.out⟩, ⟨bw⟩⟩
      ·rw [if_neg c57] at H
       exact absurd H (by simp)
     ·rw [if_neg c56] at H
      have c56b0 : decide ((x17_1.length : Int) < a3) = false := decide_eq_false c56
      clear c56
      replace H := Option.bind_eq_some_iff.mp H
      obtain ⟨t512, A630, H⟩ := H
      replace H : (if t488 = true then (if t515 = 0 then (if t524 = true then (some t512) else (some false)) else (some false)) else (some false)) = some r := H
      have A63 := Aside0.mk A630
      clear A630
      by_cases c64 : t488 = true
      ·subst c64
       have H1 : (if t515 = 0 then (if t524 = true then (some t512) else (some false)) else (some false)) = some r := by rw [if_pos rfl] at H; exact H
       clear H
       have H := H1
       clear H1
       by_cases c65 : t515 = 0
       ·rw [if_pos c65] at H
        have c65b0 : (t515 == 0) = true := beq_iff_eq.mpr c65
        have c65b1 : (t515 != 0) = false := bne_eq_false_iff_eq.mpr c65
        clear c65
        by_cases c66 : t524 = true
        ·subst c66
         have H1 : (some t512) = some r := by rw [if_pos rfl] at H; exact H
         clear H
         have H := H1
         clear H1
         obtain rfl := Option.some.inj H
         obtain ⟨Ao67, co67, eo67⟩ := Kd.R_slice HO_17.out
         subst eo67
         go_wp2_with (first | ((with_reducible refine gate_callee (f := 16) rfl ?_); refine goesL_ (some 81) rfl rfl Tryd.func16 (by kernel_rfl) rfl #[.slice Ao53 t518.length co53, .slice Ao67 x17_1.length co67] rfl am ?_; (with_reducible refine (carillonlaw06_records.calls k1 _ _ t518 _ _ x17_1 t512 _ ?side1 ?side2 ?side3 ?side4 A63.out).mono ?_); (case side1 => repeat (first | exact (Kd.R_reads' HO_14.out).2.2 | (with_reducible refine Kd.C_alloc ?_ _) | (with_reducible refine Kd.C_drewN ?_ _) | (with_reducible refine Kd.C_drew ?_))); (case side2 => exact (Kd.R_reads' HO_14.out).2.1); (case side3 => repeat (first | exact (Kd.R_reads' HO_17.out).2.2 | (with_reducible refine Kd.C_alloc ?_ _) | (with_reducible refine Kd.C_drewN ?_ _) | (with_reducible refine Kd.C_drew ?_))); (case side4 => exact (Kd.R_reads' HO_17.out).2.1); rintro e w' ⟨rfl, ⟨nd, rfl⟩⟩; refine ⟨_, rfl, ?_⟩))
         go_ret
         exact ⟨er, bw⟩
        ·replace c66 := Bool.eq_false_iff.mpr c66
         subst c66
         have H1 : (some false) = some r := by rw [if_neg (show ¬ (false = true) by decide)] at H; exact H
         clear H
         have H := H1
         clear H1
         exact absurd ((Option.some.inj H).trans hr_.out) (by decide)
       ·rw [if_neg c65] at H
        have c65b0 : (t515 == 0) = false := beq_eq_false_iff_ne.mpr c65
        have c65b1 : (t515 != 0) = true := bne_iff_ne.mpr c65
        exact absurd ((Option.some.inj H).trans hr_.out) (by decide)
      ·replace c64 := Bool.eq_false_iff.mpr c64
       subst c64
       have H1 : (some false) = some r := by rw [if_neg (show ¬ (false = true) by decide)] at H; exact H
       clear H
       have H := H1
       clear H1
       exact absurd ((Option.some.inj H).trans hr_.out) (by decide)
    ·rw [if_neg c55] at H
     have c55b0 : decide (x18_1 < (t489.length : Int)) = false := decide_eq_false c55
     clear c55
     replace H := Option.bind_eq_some_iff.mp H
     obtain ⟨t513, A680, H⟩ := H
     replace H : (if t488 = true then (if t515 = 0 then (if t524 = true then (some t513) else (some false)) else (some false)) else (some false)) = some r := H
     have A68 := Aside0.mk A680
     clear A680
     by_cases c69 : t488 = true
     ·subst c69
      have H1 : (if t515 = 0 then (if t524 = true then (some t513) else (some false)) else (some false)) = some r := by rw [if_pos rfl] at H; exact H
      clear H
      have H := H1
      clear H1
      by_cases c70 : t515 = 0
      ·rw [if_pos c70] at H
       have c70b0 : (t515 == 0) = true := beq_iff_eq.mpr c70
       have c70b1 : (t515 != 0) = false := bne_eq_false_iff_eq.mpr c70
       clear c70
       by_cases c71 : t524 = true
       ·subst c71
        have H1 : (some t513) = some r := by rw [if_pos rfl] at H; exact H
        clear H
        have H := H1
        clear H1
        obtain rfl := Option.some.inj H
        obtain ⟨Ao72, co72, eo72⟩ := Kd.R_slice HO_17.out
        subst eo72
        go_wp2_with (first | ((with_reducible refine gate_callee (f := 16) rfl ?_); refine goesL_ (some 81) rfl rfl Tryd.func16 (by kernel_rfl) rfl #[.slice Ao53 t518.length co53, .slice Ao72 x17_1.length co72] rfl am ?_; (with_reducible refine (carillonlaw06_records.calls k1 _ _ t518 _ _ x17_1 t513 _ ?side1 ?side2 ?side3 ?side4 A68.out).mono ?_); (case side1 => repeat (first | exact (Kd.R_reads' HO_14.out).2.2 | (with_reducible refine Kd.C_alloc ?_ _) | (with_reducible refine Kd.C_drewN ?_ _) | (with_reducible refine Kd.C_drew ?_))); (case side2 => exact (Kd.R_reads' HO_14.out).2.1); (case side3 => repeat (first | exact (Kd.R_reads' HO_17.out).2.2 | (with_reducible refine Kd.C_alloc ?_ _) | (with_reducible refine Kd.C_drewN ?_ _) | (with_reducible refine Kd.C_drew ?_))); (case side4 => exact (Kd.R_reads' HO_17.out).2.1); rintro e w' ⟨rfl, ⟨nd, rfl⟩⟩; refine ⟨_, rfl, ?_⟩))
        go_ret
        exact ⟨er, bw⟩
       ·replace c71 := Bool.eq_false_iff.mpr c71
        subst c71
        have H1 : (some false) = some r := by rw [if_neg (show ¬ (false = true) by decide)] at H; exact H
        clear H
        have H := H1
        clear H1
        exact absurd ((Option.some.inj H).trans hr_.out) (by decide)
      ·rw [if_neg c70] at H
       have c70b0 : (t515 == 0) = false := beq_eq_false_iff_ne.mpr c70
       have c70b1 : (t515 != 0) = true := bne_iff_ne.mpr c70
       exact absurd ((Option.some.inj H).trans hr_.out) (by decide)
     ·replace c69 := Bool.eq_false_iff.mpr c69
      subst c69
      have H1 : (some false) = some r := by rw [if_neg (show ¬ (false = true) by decide)] at H; exact H
      clear H
      have H := H1
      clear H1
      exact absurd ((Option.some.inj H).trans hr_.out) (by decide)

end Go.Proofs.YtmjgifhgodgghaaDoor.P
